/- trie: lay, as a callee of itself. No condition. -/
import Derived.Test.YtfienpkogkepkaaTeS
import Derived.Test.YtfienpkogkepkaaChecked
import Derived.KernelRfl
namespace Go.Proofs.Ytfienpkogkepkaa
set_option linter.unusedVariables false
set_option linter.unusedSimpArgs false
open Go.RowKit E
/-- The prefix that two have in common. -/
def comA (ka kn pa pn : Int) : Int := ka - ka % (wdN (comN ka kn pa pn) : Int)
def nwT (pa pn px : Int) : PT := .node pa pn true px .nil .nil
def kidsAt (s : Int) (t t' : PT) (a n : Int) (u : Bool) (x : Int) : PT := if s = 0 then .node a n u x t t' else .node a n u x t' t
def forkT (pa pn px : Int) (ka kn : Int) (k : PT) : PT :=
  if comA ka kn pa pn = pa ∧ comN ka kn pa pn = pn then kidsAt (sdN ka pn) k .nil pa pn true px
  else kidsAt (sdN ka (comN ka kn pa pn)) k (nwT pa pn px) (comA ka kn pa pn) (comN ka kn pa pn) false 0
def layK (pa pn px : Int) (k rec : PT) : PT := match k with
  | .nil => nwT pa pn px
  | .node ka kn ku kx kl kr => if ka = pa ∧ kn = pn then .node ka kn true px kl kr else if covB ka kn pa pn = true then rec else forkT pa pn px ka kn (.node ka kn ku kx kl kr)
def layP (pa pn px : Int) : PT → PT
  | .nil => .nil
  | .node a n u x l r => if sdN pa n = 0 then .node a n u x (layK pa pn px l (layP pa pn px l)) r else .node a n u x l (layK pa pn px r (layP pa pn px r))
/-- What a fork asks. -/
def FkOk (ka kn pa pn : Int) : Prop := (0 ≤ comN ka kn pa pn ∧ comN ka kn pa pn ≤ 31) ∧ (comA ka kn pa pn = pa ∧ comN ka kn pa pn = pn → sdN ka pn = 0 ∨ sdN ka pn = 1) ∧
  (¬ (comA ka kn pa pn = pa ∧ comN ka kn pa pn = pn) → (sdN ka (comN ka kn pa pn) = 0 ∧ sdN pa (comN ka kn pa pn) = 1) ∨ (sdN ka (comN ka kn pa pn) = 1 ∧ sdN pa (comN ka kn pa pn) = 0))
def LyK (pa pn : Int) (k : PT) (rec : Prop) : Prop := match k with
  | .nil => True
  | .node ka kn _ _ _ _ => (0 ≤ ka ∧ ka ≤ 4294967295) ∧ 0 ≤ kn ∧ (¬ (ka = pa ∧ kn = pn) → covB ka kn pa pn = true → rec) ∧ (¬ (ka = pa ∧ kn = pn) → covB ka kn pa pn = false → FkOk ka kn pa pn)
def LyOk (pa pn : Int) : PT → Prop
  | .nil => False
  | .node a n u x l r => (0 ≤ n ∧ n ≤ 31) ∧ ((sdN pa n = 0 ∧ LyK pa pn l (LyOk pa pn l)) ∨ (sdN pa n = 1 ∧ LyK pa pn r (LyOk pa pn r)))
abbrev nwS (pa pn px : Int) : Seg := .box tNd [.val (.int .u32 pa), .val (.int .i64 pn), .val (.bool true), .val (.int .i64 px), .val (.pointer none), .val (.pointer none)]
def LyIh (pa pn px : Int) (t : PT) : Prop := LyOk pa pn t → ∀ v, FnOk Try.prog 21 [.nv (.one (.root 0 0 true)), .nv (.one (.ptr 1 0))] [.abs (TA (some v) t), nwS pa pn px] (.tup []) [.gone, .gone, .abs (TA (some v) (layP pa pn px t))]
structure LyN where
  pa : Int
  pn : Int
  px : Int
  w : Option Addr
  k : PT
def gLyS (N : LyN) : List SV → List Seg → Option (CS × List Prop)
  | [.nv (.one (.root _ 0 _)), .nv (.one (.ptr _ 0))], _ => some (⟨[.nv (.one (.root 0 0 true)), .nv (.one (.ptr 1 0))], [.abs (TA (some (.pointer N.w)) N.k), nwS N.pa N.pn N.px], .tup [], [.gone, .gone, .abs (TA (some (.pointer N.w)) (layP N.pa N.pn N.px N.k))]⟩, [LyOk N.pa N.pn N.k])
  | _, _ => none
theorem spLyS {N : LyN} (h1 : LyIh N.pa N.pn N.px N.k) : SpOk Try.prog 21 (.lift (gLyS N)) := by
  intro args mem cs obl h ho
  unfold gLyS at h
  split at h
  · simp only [Option.some.injEq, Prod.mk.injEq] at h
    obtain ⟨rfl, rfl⟩ := h
    exact h1 ho.1 _
  · cases h
def Gly (N : LyN) : List (FuncId × Sp) := (21, .lift (gLyS N)) :: Gt3
theorem Gly_ok (N : LyN) (ih : LyIh N.pa N.pn N.px N.k) : CtxOk Try.prog (Gly N) := ctx_cons (enter_of Try.func21 (by kernel_rfl) (by kernel_rfl)) (spLyS ih) Gt3_ok
end Go.Proofs.Ytfienpkogkepkaa

/- Runs of Go code, as printed by a program: no condition beyond those that each states. -/
namespace Go.Proofs.Ytfienpkogkepkaa
set_option linter.unusedVariables false
set_option linter.unusedSimpArgs false
set_option maxRecDepth 100000
open Go.RowKit E
attribute [local irreducible] wkL apG TA bl8 bl32 wdN msk prP inP sdN prT covB comN comA layP layK LyOk FkOk rgt hasB
set_option maxHeartbeats 2000000 in
theorem ly0_nil (pa pn px a n x ka kn kx : Int) (u ku : Bool) (A3 A4 A6 A7 : Abs) (ha : 0 ≤ pa) (ha2 : pa ≤ 4294967295) (hn0 : 0 ≤ n) (hn31 : n ≤ 31) (hs : sdN pa n = 0) : CodeOk Try.prog 5 (bodyOf Try.f21) (mkSt 107 [(0, .nv (.one (.ptr 2 0))), (1, .nv (.one (.ptr 1 0)))] [.gone, .box 55 [.val (.int .u32 (pa)), .val (.int .i64 (pn)), .val (.bool true), .val (.int .i64 (px)), .val (.pointer none), .val (.pointer none)], .box 55 [.val (.int .u32 (a)), .val (.int .i64 (n)), .val (.bool u), .val (.int .i64 (x)), .val (.pointer none), .root 4 0 false], .abs A3, .abs A4]) .ret (mkSt 107 [] [.gone, .box 55 [.val (.int .u32 (pa)), .val (.int .i64 (pn)), .val (.bool true), .val (.int .i64 (px)), .val (.pointer none), .val (.pointer none)], .box 55 [.val (.int .u32 (a)), .val (.int .i64 (n)), .val (.bool u), .val (.int .i64 (x)), .ptr 1 0, .root 4 0 false], .abs A3, .abs A4]) :=
  code_run Gs0_ok (orc := ⟨[true], []⟩) (obl := [(0 : Int) ≤ pa,
      pa ≤ (4294967295 : Int),
      (0 : Int) ≤ n,
      n ≤ (31 : Int),
      sdN pa n = (0 : Int),
      (0 : Nat) = (0 : Nat),
      pa = pa,
      a = a,
      n = n,
      u = u,
      x = x,
      (0 : Int) ≤ (0 : Int),
      (0 : Int) < (↑(2 : Nat) : Int),
      true = true,
      pa = pa,
      pn = pn,
      true = true,
      px = px,
      Value.pointer none = Value.pointer none,
      Value.pointer none = Value.pointer none,
      a = a,
      n = n,
      u = u,
      x = x,
      (0 : Nat) = (0 : Nat),
      (0 : Nat) = (0 : Nat),
      A3 = A3,
      A4 = A4]) (by kernel_rfl) (.cons (by assumption) (.cons (by assumption) (.cons (by assumption) (.cons (by assumption) (.cons (by assumption) (.cons (by rfl) (.cons (by rfl) (.cons (by rfl) (.cons (by rfl) (.cons (by rfl) (.cons (by rfl) (.cons (by trivial) (.cons (by trivial) (.cons (by rfl) (.cons (by rfl) (.cons (by rfl) (.cons (by rfl) (.cons (by rfl) (.cons (by rfl) (.cons (by rfl) (.cons (by rfl) (.cons (by rfl) (.cons (by rfl) (.cons (by rfl) (.cons (by rfl) (.cons (by rfl) (.cons (by rfl) (.cons (by rfl) .nil)))))))))))))))))))))))))))) (Nat.le_of_ble_eq_true (by kernel_rfl))

set_option maxHeartbeats 2000000 in
theorem ly0_eq (pa pn px a n x ka kn kx : Int) (u ku : Bool) (A3 A4 A6 A7 : Abs) (ha : 0 ≤ pa) (ha2 : pa ≤ 4294967295) (hn0 : 0 ≤ n) (hn31 : n ≤ 31) (hk : 0 ≤ ka) (hk2 : ka ≤ 4294967295) (hs : sdN pa n = 0) (hb : (ka == pa && (kn == pn && true)) = true) : CodeOk Try.prog 5 (bodyOf Try.f21) (mkSt 107 [(0, .nv (.one (.ptr 2 0))), (1, .nv (.one (.ptr 1 0)))] [.gone, .box 55 [.val (.int .u32 (pa)), .val (.int .i64 (pn)), .val (.bool true), .val (.int .i64 (px)), .val (.pointer none), .val (.pointer none)], .box 55 [.val (.int .u32 (a)), .val (.int .i64 (n)), .val (.bool u), .val (.int .i64 (x)), .ptr 5 0, .root 4 0 false], .gone, .abs A4, .box 55 [.val (.int .u32 (ka)), .val (.int .i64 (kn)), .val (.bool ku), .val (.int .i64 (kx)), .root 6 0 false, .root 7 0 false], .abs A6, .abs A7]) .ret (mkSt 107 [] [.gone, .box 55 [.val (.int .u32 (pa)), .val (.int .i64 (pn)), .val (.bool true), .val (.int .i64 (px)), .val (.pointer none), .val (.pointer none)], .box 55 [.val (.int .u32 (a)), .val (.int .i64 (n)), .val (.bool u), .val (.int .i64 (x)), .ptr 5 0, .root 4 0 false], .gone, .abs A4, .box 55 [.val (.int .u32 (ka)), .val (.int .i64 (kn)), .val (.bool true), .val (.int .i64 (px)), .root 6 0 false, .root 7 0 false], .abs A6, .abs A7]) :=
  code_run Gs0_ok (orc := ⟨[false, true], []⟩) (obl := [(0 : Int) ≤ pa,
      pa ≤ (4294967295 : Int),
      (0 : Int) ≤ n,
      n ≤ (31 : Int),
      sdN pa n = (0 : Int),
      (0 : Nat) = (0 : Nat),
      pa = pa,
      a = a,
      n = n,
      u = u,
      x = x,
      (0 : Int) ≤ (0 : Int),
      (0 : Int) < (↑(2 : Nat) : Int),
      false = false,
      (ka == pa && (kn == pn && true)) = true,
      pa = pa,
      pn = pn,
      true = true,
      px = px,
      Value.pointer none = Value.pointer none,
      Value.pointer none = Value.pointer none,
      a = a,
      n = n,
      u = u,
      x = x,
      (0 : Nat) = (0 : Nat),
      (0 : Nat) = (0 : Nat),
      A4 = A4,
      ka = ka,
      kn = kn,
      true = true,
      px = px,
      (0 : Nat) = (0 : Nat),
      (0 : Nat) = (0 : Nat),
      A6 = A6,
      A7 = A7]) (by kernel_rfl) (.cons (by assumption) (.cons (by assumption) (.cons (by assumption) (.cons (by assumption) (.cons (by assumption) (.cons (by rfl) (.cons (by rfl) (.cons (by rfl) (.cons (by rfl) (.cons (by rfl) (.cons (by rfl) (.cons (by trivial) (.cons (by trivial) (.cons (by rfl) (.cons (by assumption) (.cons (by rfl) (.cons (by rfl) (.cons (by rfl) (.cons (by rfl) (.cons (by rfl) (.cons (by rfl) (.cons (by rfl) (.cons (by rfl) (.cons (by rfl) (.cons (by rfl) (.cons (by rfl) (.cons (by rfl) (.cons (by rfl) (.cons (by rfl) (.cons (by rfl) (.cons (by rfl) (.cons (by rfl) (.cons (by rfl) (.cons (by rfl) (.cons (by rfl) (.cons (by rfl) .nil)))))))))))))))))))))))))))))))))))) (Nat.le_of_ble_eq_true (by kernel_rfl))

set_option maxHeartbeats 2000000 in
theorem ly0_0 (pa pn px a n x ka kn kx : Int) (u ku : Bool) (A3 A4 A6 A7 : Abs) (ha : 0 ≤ pa) (ha2 : pa ≤ 4294967295) (hn0 : 0 ≤ n) (hn31 : n ≤ 31) (hs : sdN pa n = 0) : CodeOk Try.prog 5 (subC [false] (bodyOf Try.f21)) (mkSt 107 [(0, .nv (.one (.ptr 2 0))), (1, .nv (.one (.ptr 1 0)))] [.gone, .box 55 [.val (.int .u32 (pa)), .val (.int .i64 (pn)), .val (.bool true), .val (.int .i64 (px)), .val (.pointer none), .val (.pointer none)], .box 55 [.val (.int .u32 (a)), .val (.int .i64 (n)), .val (.bool u), .val (.int .i64 (x)), .ptr 5 0, .root 4 0 false], .gone, .abs A4, .box 55 [.val (.int .u32 (ka)), .val (.int .i64 (kn)), .val (.bool ku), .val (.int .i64 (kx)), .root 6 0 false, .root 7 0 false], .abs A6, .abs A7]) .normal (mkSt 107 [(1, .nv (.one (.ptr 1 0))), (4, .nv (.one (.ptr 2 4)))] [.gone, .box 55 [.val (.int .u32 (pa)), .val (.int .i64 (pn)), .val (.bool true), .val (.int .i64 (px)), .val (.pointer none), .val (.pointer none)], .box 55 [.val (.int .u32 (a)), .val (.int .i64 (n)), .val (.bool u), .val (.int .i64 (x)), .ptr 5 0, .root 4 0 false], .gone, .abs A4, .box 55 [.val (.int .u32 (ka)), .val (.int .i64 (kn)), .val (.bool ku), .val (.int .i64 (kx)), .root 6 0 false, .root 7 0 false], .abs A6, .abs A7]) :=
  code_run Gs0_ok (orc := ⟨[], []⟩) (obl := [(0 : Int) ≤ pa,
      pa ≤ (4294967295 : Int),
      (0 : Int) ≤ n,
      n ≤ (31 : Int),
      sdN pa n = (0 : Int),
      (0 : Nat) = (0 : Nat),
      pa = pa,
      a = a,
      n = n,
      u = u,
      x = x,
      (0 : Int) ≤ (0 : Int),
      (0 : Int) < (↑(2 : Nat) : Int),
      (0 : Nat) = (0 : Nat),
      (4 : Nat) = (4 : Nat),
      pa = pa,
      pn = pn,
      true = true,
      px = px,
      Value.pointer none = Value.pointer none,
      Value.pointer none = Value.pointer none,
      a = a,
      n = n,
      u = u,
      x = x,
      (0 : Nat) = (0 : Nat),
      (0 : Nat) = (0 : Nat),
      A4 = A4,
      ka = ka,
      kn = kn,
      ku = ku,
      kx = kx,
      (0 : Nat) = (0 : Nat),
      (0 : Nat) = (0 : Nat),
      A6 = A6,
      A7 = A7]) (by kernel_rfl) (.cons (by assumption) (.cons (by assumption) (.cons (by assumption) (.cons (by assumption) (.cons (by assumption) (.cons (by rfl) (.cons (by rfl) (.cons (by rfl) (.cons (by rfl) (.cons (by rfl) (.cons (by rfl) (.cons (by trivial) (.cons (by trivial) (.cons (by rfl) (.cons (by rfl) (.cons (by rfl) (.cons (by rfl) (.cons (by rfl) (.cons (by rfl) (.cons (by rfl) (.cons (by rfl) (.cons (by rfl) (.cons (by rfl) (.cons (by rfl) (.cons (by rfl) (.cons (by rfl) (.cons (by rfl) (.cons (by rfl) (.cons (by rfl) (.cons (by rfl) (.cons (by rfl) (.cons (by rfl) (.cons (by rfl) (.cons (by rfl) (.cons (by rfl) (.cons (by rfl) .nil)))))))))))))))))))))))))))))))))))) (Nat.le_of_ble_eq_true (by kernel_rfl))

set_option maxHeartbeats 2000000 in
theorem ly0_1 (pa pn px a n x ka kn kx : Int) (u ku : Bool) (A3 A4 A6 A7 : Abs) : CodeOk Try.prog 5 (subC [true, false] (bodyOf Try.f21)) (mkSt 107 [(1, .nv (.one (.ptr 1 0))), (4, .nv (.one (.ptr 2 4)))] [.gone, .box 55 [.val (.int .u32 (pa)), .val (.int .i64 (pn)), .val (.bool true), .val (.int .i64 (px)), .val (.pointer none), .val (.pointer none)], .box 55 [.val (.int .u32 (a)), .val (.int .i64 (n)), .val (.bool u), .val (.int .i64 (x)), .ptr 5 0, .root 4 0 false], .gone, .abs A4, .box 55 [.val (.int .u32 (ka)), .val (.int .i64 (kn)), .val (.bool ku), .val (.int .i64 (kx)), .root 6 0 false, .root 7 0 false], .abs A6, .abs A7]) .normal (mkSt 107 [(1, .nv (.one (.ptr 1 0))), (4, .nv (.one (.ptr 2 4))), (5, .nv (.one (.ptr 5 0)))] [.gone, .box 55 [.val (.int .u32 (pa)), .val (.int .i64 (pn)), .val (.bool true), .val (.int .i64 (px)), .val (.pointer none), .val (.pointer none)], .box 55 [.val (.int .u32 (a)), .val (.int .i64 (n)), .val (.bool u), .val (.int .i64 (x)), .ptr 5 0, .root 4 0 false], .gone, .abs A4, .box 55 [.val (.int .u32 (ka)), .val (.int .i64 (kn)), .val (.bool ku), .val (.int .i64 (kx)), .root 6 0 false, .root 7 0 false], .abs A6, .abs A7]) :=
  code_run Gt3_ok (orc := ⟨[], []⟩) (obl := [(0 : Nat) = (0 : Nat),
      (4 : Nat) = (4 : Nat),
      (0 : Nat) = (0 : Nat),
      pa = pa,
      pn = pn,
      true = true,
      px = px,
      Value.pointer none = Value.pointer none,
      Value.pointer none = Value.pointer none,
      a = a,
      n = n,
      u = u,
      x = x,
      (0 : Nat) = (0 : Nat),
      (0 : Nat) = (0 : Nat),
      A4 = A4,
      ka = ka,
      kn = kn,
      ku = ku,
      kx = kx,
      (0 : Nat) = (0 : Nat),
      (0 : Nat) = (0 : Nat),
      A6 = A6,
      A7 = A7]) (by kernel_rfl) (.cons (by rfl) (.cons (by rfl) (.cons (by rfl) (.cons (by rfl) (.cons (by rfl) (.cons (by rfl) (.cons (by rfl) (.cons (by rfl) (.cons (by rfl) (.cons (by rfl) (.cons (by rfl) (.cons (by rfl) (.cons (by rfl) (.cons (by rfl) (.cons (by rfl) (.cons (by rfl) (.cons (by rfl) (.cons (by rfl) (.cons (by rfl) (.cons (by rfl) (.cons (by rfl) (.cons (by rfl) (.cons (by rfl) (.cons (by rfl) .nil)))))))))))))))))))))))) (Nat.le_of_ble_eq_true (by kernel_rfl))

set_option maxHeartbeats 2000000 in
theorem ly0_2 (pa pn px a n x ka kn kx : Int) (u ku : Bool) (A3 A4 A6 A7 : Abs) : CodeOk Try.prog 5 (subC [true, true, false, true, false] (bodyOf Try.f21)) (mkSt 107 [(1, .nv (.one (.ptr 1 0))), (4, .nv (.one (.ptr 2 4))), (5, .nv (.one (.ptr 5 0)))] [.gone, .box 55 [.val (.int .u32 (pa)), .val (.int .i64 (pn)), .val (.bool true), .val (.int .i64 (px)), .val (.pointer none), .val (.pointer none)], .box 55 [.val (.int .u32 (a)), .val (.int .i64 (n)), .val (.bool u), .val (.int .i64 (x)), .ptr 5 0, .root 4 0 false], .gone, .abs A4, .box 55 [.val (.int .u32 (ka)), .val (.int .i64 (kn)), .val (.bool ku), .val (.int .i64 (kx)), .root 6 0 false, .root 7 0 false], .abs A6, .abs A7]) .normal (mkSt 107 [(1, .nv (.one (.ptr 1 0))), (4, .nv (.one (.ptr 2 4))), (5, .nv (.one (.ptr 5 0))), (22, bA false)] [.gone, .box 55 [.val (.int .u32 (pa)), .val (.int .i64 (pn)), .val (.bool true), .val (.int .i64 (px)), .val (.pointer none), .val (.pointer none)], .box 55 [.val (.int .u32 (a)), .val (.int .i64 (n)), .val (.bool u), .val (.int .i64 (x)), .ptr 5 0, .root 4 0 false], .gone, .abs A4, .box 55 [.val (.int .u32 (ka)), .val (.int .i64 (kn)), .val (.bool ku), .val (.int .i64 (kx)), .root 6 0 false, .root 7 0 false], .abs A6, .abs A7]) :=
  code_run Gt3_ok (orc := ⟨[], []⟩) (obl := [(0 : Nat) = (0 : Nat),
      (4 : Nat) = (4 : Nat),
      (0 : Nat) = (0 : Nat),
      false = false,
      pa = pa,
      pn = pn,
      true = true,
      px = px,
      Value.pointer none = Value.pointer none,
      Value.pointer none = Value.pointer none,
      a = a,
      n = n,
      u = u,
      x = x,
      (0 : Nat) = (0 : Nat),
      (0 : Nat) = (0 : Nat),
      A4 = A4,
      ka = ka,
      kn = kn,
      ku = ku,
      kx = kx,
      (0 : Nat) = (0 : Nat),
      (0 : Nat) = (0 : Nat),
      A6 = A6,
      A7 = A7]) (by kernel_rfl) (.cons (by rfl) (.cons (by rfl) (.cons (by rfl) (.cons (by rfl) (.cons (by rfl) (.cons (by rfl) (.cons (by rfl) (.cons (by rfl) (.cons (by rfl) (.cons (by rfl) (.cons (by rfl) (.cons (by rfl) (.cons (by rfl) (.cons (by rfl) (.cons (by rfl) (.cons (by rfl) (.cons (by rfl) (.cons (by rfl) (.cons (by rfl) (.cons (by rfl) (.cons (by rfl) (.cons (by rfl) (.cons (by rfl) (.cons (by rfl) (.cons (by rfl) .nil))))))))))))))))))))))))) (Nat.le_of_ble_eq_true (by kernel_rfl))

set_option maxHeartbeats 2000000 in
theorem ly0_4 (pa pn px a n x ka kn kx : Int) (u ku : Bool) (A3 A4 A6 A7 : Abs) (hb : (ka == pa && (kn == pn && true)) = false) : CodeOk Try.prog 5 (subC [true, true, false, true, true, true, false] (bodyOf Try.f21)) (mkSt 107 [(1, .nv (.one (.ptr 1 0))), (4, .nv (.one (.ptr 2 4))), (5, .nv (.one (.ptr 5 0))), (22, bA false)] [.gone, .box 55 [.val (.int .u32 (pa)), .val (.int .i64 (pn)), .val (.bool true), .val (.int .i64 (px)), .val (.pointer none), .val (.pointer none)], .box 55 [.val (.int .u32 (a)), .val (.int .i64 (n)), .val (.bool u), .val (.int .i64 (x)), .ptr 5 0, .root 4 0 false], .gone, .abs A4, .box 55 [.val (.int .u32 (ka)), .val (.int .i64 (kn)), .val (.bool ku), .val (.int .i64 (kx)), .root 6 0 false, .root 7 0 false], .abs A6, .abs A7]) .normal (mkSt 107 [(1, .nv (.one (.ptr 1 0))), (4, .nv (.one (.ptr 2 4))), (5, .nv (.one (.ptr 5 0))), (28, bA false)] [.gone, .box 55 [.val (.int .u32 (pa)), .val (.int .i64 (pn)), .val (.bool true), .val (.int .i64 (px)), .val (.pointer none), .val (.pointer none)], .box 55 [.val (.int .u32 (a)), .val (.int .i64 (n)), .val (.bool u), .val (.int .i64 (x)), .ptr 5 0, .root 4 0 false], .gone, .abs A4, .box 55 [.val (.int .u32 (ka)), .val (.int .i64 (kn)), .val (.bool ku), .val (.int .i64 (kx)), .root 6 0 false, .root 7 0 false], .abs A6, .abs A7]) :=
  code_run Gt3_ok (orc := ⟨[], []⟩) (obl := [(0 : Nat) = (0 : Nat),
      (4 : Nat) = (4 : Nat),
      (0 : Nat) = (0 : Nat),
      (ka == pa && (kn == pn && true)) = false,
      pa = pa,
      pn = pn,
      true = true,
      px = px,
      Value.pointer none = Value.pointer none,
      Value.pointer none = Value.pointer none,
      a = a,
      n = n,
      u = u,
      x = x,
      (0 : Nat) = (0 : Nat),
      (0 : Nat) = (0 : Nat),
      A4 = A4,
      ka = ka,
      kn = kn,
      ku = ku,
      kx = kx,
      (0 : Nat) = (0 : Nat),
      (0 : Nat) = (0 : Nat),
      A6 = A6,
      A7 = A7]) (by kernel_rfl) (.cons (by rfl) (.cons (by rfl) (.cons (by rfl) (.cons (by assumption) (.cons (by rfl) (.cons (by rfl) (.cons (by rfl) (.cons (by rfl) (.cons (by rfl) (.cons (by rfl) (.cons (by rfl) (.cons (by rfl) (.cons (by rfl) (.cons (by rfl) (.cons (by rfl) (.cons (by rfl) (.cons (by rfl) (.cons (by rfl) (.cons (by rfl) (.cons (by rfl) (.cons (by rfl) (.cons (by rfl) (.cons (by rfl) (.cons (by rfl) (.cons (by rfl) .nil))))))))))))))))))))))))) (Nat.le_of_ble_eq_true (by kernel_rfl))

set_option maxHeartbeats 2000000 in
theorem ly0_6 (pa pn px a n x ka kn kx : Int) (u ku : Bool) (A3 A4 A6 A7 : Abs) (b : Bool) (ha : 0 ≤ pa) (ha2 : pa ≤ 4294967295) (hk : 0 ≤ ka) (hk2 : ka ≤ 4294967295) (hb : covB ka kn pa pn = b) : CodeOk Try.prog 5 (subC [true, true, false, true, true, true, true, true, false] (bodyOf Try.f21)) (mkSt 107 [(1, .nv (.one (.ptr 1 0))), (4, .nv (.one (.ptr 2 4))), (5, .nv (.one (.ptr 5 0))), (28, bA false)] [.gone, .box 55 [.val (.int .u32 (pa)), .val (.int .i64 (pn)), .val (.bool true), .val (.int .i64 (px)), .val (.pointer none), .val (.pointer none)], .box 55 [.val (.int .u32 (a)), .val (.int .i64 (n)), .val (.bool u), .val (.int .i64 (x)), .ptr 5 0, .root 4 0 false], .gone, .abs A4, .box 55 [.val (.int .u32 (ka)), .val (.int .i64 (kn)), .val (.bool ku), .val (.int .i64 (kx)), .root 6 0 false, .root 7 0 false], .abs A6, .abs A7]) .normal (mkSt 107 [(1, .nv (.one (.ptr 1 0))), (4, .nv (.one (.ptr 2 4))), (5, .nv (.one (.ptr 5 0))), (48, bA b)] [.gone, .box 55 [.val (.int .u32 (pa)), .val (.int .i64 (pn)), .val (.bool true), .val (.int .i64 (px)), .val (.pointer none), .val (.pointer none)], .box 55 [.val (.int .u32 (a)), .val (.int .i64 (n)), .val (.bool u), .val (.int .i64 (x)), .ptr 5 0, .root 4 0 false], .gone, .abs A4, .box 55 [.val (.int .u32 (ka)), .val (.int .i64 (kn)), .val (.bool ku), .val (.int .i64 (kx)), .root 6 0 false, .root 7 0 false], .abs A6, .abs A7]) :=
  code_run Gt3_ok (orc := ⟨[], []⟩) (obl := [(0 : Int) ≤ ka,
      ka ≤ (4294967295 : Int),
      (0 : Int) ≤ pa,
      pa ≤ (4294967295 : Int),
      (0 : Nat) = (0 : Nat),
      (4 : Nat) = (4 : Nat),
      (0 : Nat) = (0 : Nat),
      covB ka kn pa pn = b,
      pa = pa,
      pn = pn,
      true = true,
      px = px,
      Value.pointer none = Value.pointer none,
      Value.pointer none = Value.pointer none,
      a = a,
      n = n,
      u = u,
      x = x,
      (0 : Nat) = (0 : Nat),
      (0 : Nat) = (0 : Nat),
      A4 = A4,
      ka = ka,
      kn = kn,
      ku = ku,
      kx = kx,
      (0 : Nat) = (0 : Nat),
      (0 : Nat) = (0 : Nat),
      A6 = A6,
      A7 = A7]) (by kernel_rfl) (.cons (by assumption) (.cons (by assumption) (.cons (by assumption) (.cons (by assumption) (.cons (by rfl) (.cons (by rfl) (.cons (by rfl) (.cons (by assumption) (.cons (by rfl) (.cons (by rfl) (.cons (by rfl) (.cons (by rfl) (.cons (by rfl) (.cons (by rfl) (.cons (by rfl) (.cons (by rfl) (.cons (by rfl) (.cons (by rfl) (.cons (by rfl) (.cons (by rfl) (.cons (by rfl) (.cons (by rfl) (.cons (by rfl) (.cons (by rfl) (.cons (by rfl) (.cons (by rfl) (.cons (by rfl) (.cons (by rfl) (.cons (by rfl) .nil))))))))))))))))))))))))))))) (Nat.le_of_ble_eq_true (by kernel_rfl))

set_option maxHeartbeats 2000000 in
theorem ly0_7 (N : LyN) (ih : LyIh N.pa N.pn N.px N.k) (a n x : Int) (u : Bool) (A3 A4 : Abs) (hok : LyOk N.pa N.pn N.k) : CodeOk Try.prog 5 (subC [true, true, false, true, true, true, true, true, true, false] (bodyOf Try.f21)) (mkSt 107 [(1, .nv (.one (.ptr 1 0))), (4, .nv (.one (.ptr 2 4))), (5, .nv (.one (.root 8 0 true))), (48, bA true)] [.gone, .box 55 [.val (.int .u32 (N.pa)), .val (.int .i64 (N.pn)), .val (.bool true), .val (.int .i64 (N.px)), .val (.pointer none), .val (.pointer none)], .box 55 [.val (.int .u32 (a)), .val (.int .i64 (n)), .val (.bool u), .val (.int .i64 (x)), .val (.pointer N.w), .root 4 0 false], .gone, .abs A4, .gone, .gone, .gone, .abs (TA (some (.pointer N.w)) N.k)]) .ret (mkSt 107 [] [.gone, .gone, .box 55 [.val (.int .u32 (a)), .val (.int .i64 (n)), .val (.bool u), .val (.int .i64 (x)), .val (.pointer N.w), .root 4 0 false], .gone, .abs A4, .gone, .gone, .gone, .gone, .abs (TA (some (.pointer N.w)) (layP N.pa N.pn N.px N.k))]) :=
  code_run (Gly_ok N ih) (orc := ⟨[], []⟩) (obl := [LyOk (LyN.pa N) (LyN.pn N) (LyN.k N),
      (0 : Nat) = (0 : Nat),
      (0 : Nat) = (0 : Nat),
      TA (some (Value.pointer (LyN.w N))) (LyN.k N) = TA (some (Value.pointer (LyN.w N))) (LyN.k N),
      LyN.pa N = LyN.pa N,
      LyN.pn N = LyN.pn N,
      true = true,
      LyN.px N = LyN.px N,
      Value.pointer none = Value.pointer none,
      Value.pointer none = Value.pointer none,
      a = a,
      n = n,
      u = u,
      x = x,
      Value.pointer N.4 = Value.pointer (LyN.w N),
      (0 : Nat) = (0 : Nat),
      A4 = A4,
      TA (some (Value.pointer (LyN.w N))) (layP (LyN.pa N) (LyN.pn N) (LyN.px N) (LyN.k N)) = TA (some (Value.pointer (LyN.w N))) (layP (LyN.pa N) (LyN.pn N) (LyN.px N) (LyN.k N))]) (by kernel_rfl) (.cons (by assumption) (.cons (by rfl) (.cons (by rfl) (.cons (by rfl) (.cons (by rfl) (.cons (by rfl) (.cons (by rfl) (.cons (by rfl) (.cons (by rfl) (.cons (by rfl) (.cons (by rfl) (.cons (by rfl) (.cons (by rfl) (.cons (by rfl) (.cons (by rfl) (.cons (by rfl) (.cons (by rfl) (.cons (by rfl) .nil)))))))))))))))))) (Nat.le_of_ble_eq_true (by kernel_rfl))

set_option maxHeartbeats 2000000 in
theorem ly0_8 (pa pn px a n x ka kn kx : Int) (u ku : Bool) (A3 A4 A6 A7 : Abs) : CodeOk Try.prog 5 (subC [true, true, true, false] (bodyOf Try.f21)) (mkSt 107 [(1, .nv (.one (.ptr 1 0))), (4, .nv (.one (.ptr 2 4))), (5, .nv (.one (.ptr 5 0))), (48, bA false)] [.gone, .box 55 [.val (.int .u32 (pa)), .val (.int .i64 (pn)), .val (.bool true), .val (.int .i64 (px)), .val (.pointer none), .val (.pointer none)], .box 55 [.val (.int .u32 (a)), .val (.int .i64 (n)), .val (.bool u), .val (.int .i64 (x)), .ptr 5 0, .root 4 0 false], .gone, .abs A4, .box 55 [.val (.int .u32 (ka)), .val (.int .i64 (kn)), .val (.bool ku), .val (.int .i64 (kx)), .root 6 0 false, .root 7 0 false], .abs A6, .abs A7]) .normal (mkSt 107 [(1, .nv (.one (.ptr 1 0))), (4, .nv (.one (.ptr 2 4))), (5, .nv (.one (.ptr 5 0))), (6, .nv (.one (.ptr 1 0)))] [.gone, .box 55 [.val (.int .u32 (pa)), .val (.int .i64 (pn)), .val (.bool true), .val (.int .i64 (px)), .val (.pointer none), .val (.pointer none)], .box 55 [.val (.int .u32 (a)), .val (.int .i64 (n)), .val (.bool u), .val (.int .i64 (x)), .ptr 5 0, .root 4 0 false], .gone, .abs A4, .box 55 [.val (.int .u32 (ka)), .val (.int .i64 (kn)), .val (.bool ku), .val (.int .i64 (kx)), .root 6 0 false, .root 7 0 false], .abs A6, .abs A7]) :=
  code_run Gt3_ok (orc := ⟨[], []⟩) (obl := [(0 : Nat) = (0 : Nat),
      (4 : Nat) = (4 : Nat),
      (0 : Nat) = (0 : Nat),
      (0 : Nat) = (0 : Nat),
      pa = pa,
      pn = pn,
      true = true,
      px = px,
      Value.pointer none = Value.pointer none,
      Value.pointer none = Value.pointer none,
      a = a,
      n = n,
      u = u,
      x = x,
      (0 : Nat) = (0 : Nat),
      (0 : Nat) = (0 : Nat),
      A4 = A4,
      ka = ka,
      kn = kn,
      ku = ku,
      kx = kx,
      (0 : Nat) = (0 : Nat),
      (0 : Nat) = (0 : Nat),
      A6 = A6,
      A7 = A7]) (by kernel_rfl) (.cons (by rfl) (.cons (by rfl) (.cons (by rfl) (.cons (by rfl) (.cons (by rfl) (.cons (by rfl) (.cons (by rfl) (.cons (by rfl) (.cons (by rfl) (.cons (by rfl) (.cons (by rfl) (.cons (by rfl) (.cons (by rfl) (.cons (by rfl) (.cons (by rfl) (.cons (by rfl) (.cons (by rfl) (.cons (by rfl) (.cons (by rfl) (.cons (by rfl) (.cons (by rfl) (.cons (by rfl) (.cons (by rfl) (.cons (by rfl) (.cons (by rfl) .nil))))))))))))))))))))))))) (Nat.le_of_ble_eq_true (by kernel_rfl))

set_option maxHeartbeats 2000000 in
theorem ly0_9 (pa pn px a n x ka kn kx : Int) (u ku : Bool) (A3 A4 A6 A7 : Abs) (ha : 0 ≤ pa) (ha2 : pa ≤ 4294967295) (hk : 0 ≤ ka) (hk2 : ka ≤ 4294967295) (hkn : 0 ≤ kn) (hp0 : 0 ≤ pn) (hA : ka - ka % (wdN (comN ka kn pa pn) : Int) = comA ka kn pa pn) : CodeOk Try.prog 5 (subC [true, true, true, true, false, false] (bodyOf Try.f21)) (mkSt 107 [(1, .nv (.one (.ptr 1 0))), (4, .nv (.one (.ptr 2 4))), (5, .nv (.one (.ptr 5 0))), (6, .nv (.one (.ptr 1 0)))] [.gone, .box 55 [.val (.int .u32 (pa)), .val (.int .i64 (pn)), .val (.bool true), .val (.int .i64 (px)), .val (.pointer none), .val (.pointer none)], .box 55 [.val (.int .u32 (a)), .val (.int .i64 (n)), .val (.bool u), .val (.int .i64 (x)), .ptr 5 0, .root 4 0 false], .gone, .abs A4, .box 55 [.val (.int .u32 (ka)), .val (.int .i64 (kn)), .val (.bool ku), .val (.int .i64 (kx)), .root 6 0 false, .root 7 0 false], .abs A6, .abs A7]) .normal (mkSt 107 [(1, .nv (.one (.ptr 1 0))), (4, .nv (.one (.ptr 2 4))), (5, .nv (.one (.ptr 5 0))), (6, .nv (.one (.ptr 1 0))), (7, .nv (.one (.ptr 8 0)))] [.gone, .box 55 [.val (.int .u32 (pa)), .val (.int .i64 (pn)), .val (.bool true), .val (.int .i64 (px)), .val (.pointer none), .val (.pointer none)], .box 55 [.val (.int .u32 (a)), .val (.int .i64 (n)), .val (.bool u), .val (.int .i64 (x)), .ptr 5 0, .root 4 0 false], .gone, .abs A4, .box 55 [.val (.int .u32 (ka)), .val (.int .i64 (kn)), .val (.bool ku), .val (.int .i64 (kx)), .root 6 0 false, .root 7 0 false], .abs A6, .abs A7, .box 28 [.val (.int .u32 (comA ka kn pa pn)), .val (.int .i64 (comN ka kn pa pn))]]) :=
  code_run Gt3_ok (orc := ⟨[], []⟩) (obl := [(0 : Int) ≤ ka,
      ka ≤ (4294967295 : Int),
      (0 : Int) ≤ pa,
      pa ≤ (4294967295 : Int),
      (0 : Int) ≤ kn,
      (0 : Int) ≤ pn,
      (0 : Nat) = (0 : Nat),
      (4 : Nat) = (4 : Nat),
      (0 : Nat) = (0 : Nat),
      (0 : Nat) = (0 : Nat),
      (0 : Nat) = (0 : Nat),
      pa = pa,
      pn = pn,
      true = true,
      px = px,
      Value.pointer none = Value.pointer none,
      Value.pointer none = Value.pointer none,
      a = a,
      n = n,
      u = u,
      x = x,
      (0 : Nat) = (0 : Nat),
      (0 : Nat) = (0 : Nat),
      A4 = A4,
      ka = ka,
      kn = kn,
      ku = ku,
      kx = kx,
      (0 : Nat) = (0 : Nat),
      (0 : Nat) = (0 : Nat),
      A6 = A6,
      A7 = A7,
      ka - ka % (↑(wdN (comN ka kn pa pn)) : Int) = comA ka kn pa pn,
      comN ka kn pa pn = comN ka kn pa pn]) (by kernel_rfl) (.cons (by assumption) (.cons (by assumption) (.cons (by assumption) (.cons (by assumption) (.cons (by assumption) (.cons (by assumption) (.cons (by rfl) (.cons (by rfl) (.cons (by rfl) (.cons (by rfl) (.cons (by rfl) (.cons (by rfl) (.cons (by rfl) (.cons (by rfl) (.cons (by rfl) (.cons (by rfl) (.cons (by rfl) (.cons (by rfl) (.cons (by rfl) (.cons (by rfl) (.cons (by rfl) (.cons (by rfl) (.cons (by rfl) (.cons (by rfl) (.cons (by rfl) (.cons (by rfl) (.cons (by rfl) (.cons (by rfl) (.cons (by rfl) (.cons (by rfl) (.cons (by rfl) (.cons (by rfl) (.cons (by assumption) (.cons (by rfl) .nil)))))))))))))))))))))))))))))))))) (Nat.le_of_ble_eq_true (by kernel_rfl))

set_option maxHeartbeats 2000000 in
theorem ly0_10 (pa pn px a n x ka kn kx : Int) (u ku : Bool) (ca cn : Int) (A3 A4 A6 A7 : Abs) (b : Bool) (hb : (!(ca == pa && (cn == pn && true))) = b) : CodeOk Try.prog 5 (subC [true, true, true, true, false, true, false] (bodyOf Try.f21)) (mkSt 107 [(1, .nv (.one (.ptr 1 0))), (4, .nv (.one (.ptr 2 4))), (5, .nv (.one (.ptr 5 0))), (6, .nv (.one (.ptr 1 0))), (7, .nv (.one (.ptr 8 0)))] [.gone, .box 55 [.val (.int .u32 (pa)), .val (.int .i64 (pn)), .val (.bool true), .val (.int .i64 (px)), .val (.pointer none), .val (.pointer none)], .box 55 [.val (.int .u32 (a)), .val (.int .i64 (n)), .val (.bool u), .val (.int .i64 (x)), .ptr 5 0, .root 4 0 false], .gone, .abs A4, .box 55 [.val (.int .u32 (ka)), .val (.int .i64 (kn)), .val (.bool ku), .val (.int .i64 (kx)), .root 6 0 false, .root 7 0 false], .abs A6, .abs A7, .box 28 [.val (.int .u32 ca), .val (.int .i64 cn)]]) .normal (mkSt 107 [(1, .nv (.one (.ptr 1 0))), (4, .nv (.one (.ptr 2 4))), (5, .nv (.one (.ptr 5 0))), (6, .nv (.one (.ptr 1 0))), (7, .nv (.one (.ptr 8 0))), (76, bA b)] [.gone, .box 55 [.val (.int .u32 (pa)), .val (.int .i64 (pn)), .val (.bool true), .val (.int .i64 (px)), .val (.pointer none), .val (.pointer none)], .box 55 [.val (.int .u32 (a)), .val (.int .i64 (n)), .val (.bool u), .val (.int .i64 (x)), .ptr 5 0, .root 4 0 false], .gone, .abs A4, .box 55 [.val (.int .u32 (ka)), .val (.int .i64 (kn)), .val (.bool ku), .val (.int .i64 (kx)), .root 6 0 false, .root 7 0 false], .abs A6, .abs A7, .box 28 [.val (.int .u32 ca), .val (.int .i64 cn)]]) :=
  code_run Gt3_ok (orc := ⟨[], []⟩) (obl := [(0 : Nat) = (0 : Nat),
      (4 : Nat) = (4 : Nat),
      (0 : Nat) = (0 : Nat),
      (0 : Nat) = (0 : Nat),
      (0 : Nat) = (0 : Nat),
      (!(ca == pa && (cn == pn && true))) = b,
      pa = pa,
      pn = pn,
      true = true,
      px = px,
      Value.pointer none = Value.pointer none,
      Value.pointer none = Value.pointer none,
      a = a,
      n = n,
      u = u,
      x = x,
      (0 : Nat) = (0 : Nat),
      (0 : Nat) = (0 : Nat),
      A4 = A4,
      ka = ka,
      kn = kn,
      ku = ku,
      kx = kx,
      (0 : Nat) = (0 : Nat),
      (0 : Nat) = (0 : Nat),
      A6 = A6,
      A7 = A7,
      ca = ca,
      cn = cn]) (by kernel_rfl) (.cons (by rfl) (.cons (by rfl) (.cons (by rfl) (.cons (by rfl) (.cons (by rfl) (.cons (by assumption) (.cons (by rfl) (.cons (by rfl) (.cons (by rfl) (.cons (by rfl) (.cons (by rfl) (.cons (by rfl) (.cons (by rfl) (.cons (by rfl) (.cons (by rfl) (.cons (by rfl) (.cons (by rfl) (.cons (by rfl) (.cons (by rfl) (.cons (by rfl) (.cons (by rfl) (.cons (by rfl) (.cons (by rfl) (.cons (by rfl) (.cons (by rfl) (.cons (by rfl) (.cons (by rfl) (.cons (by rfl) (.cons (by rfl) .nil))))))))))))))))))))))))))))) (Nat.le_of_ble_eq_true (by kernel_rfl))

set_option maxHeartbeats 2000000 in
theorem ly0_11 (pa pn px a n x ka kn kx : Int) (u ku : Bool) (ca cn : Int) (A3 A4 A6 A7 : Abs) : CodeOk Try.prog 5 (subC [true, true, true, true, false, true, true, false, false] (bodyOf Try.f21)) (mkSt 107 [(1, .nv (.one (.ptr 1 0))), (4, .nv (.one (.ptr 2 4))), (5, .nv (.one (.ptr 5 0))), (6, .nv (.one (.ptr 1 0))), (7, .nv (.one (.ptr 8 0))), (76, bA true)] [.gone, .box 55 [.val (.int .u32 (pa)), .val (.int .i64 (pn)), .val (.bool true), .val (.int .i64 (px)), .val (.pointer none), .val (.pointer none)], .box 55 [.val (.int .u32 (a)), .val (.int .i64 (n)), .val (.bool u), .val (.int .i64 (x)), .ptr 5 0, .root 4 0 false], .gone, .abs A4, .box 55 [.val (.int .u32 (ka)), .val (.int .i64 (kn)), .val (.bool ku), .val (.int .i64 (kx)), .root 6 0 false, .root 7 0 false], .abs A6, .abs A7, .box 28 [.val (.int .u32 ca), .val (.int .i64 cn)]]) .normal (mkSt 107 [(1, .nv (.one (.ptr 1 0))), (4, .nv (.one (.ptr 2 4))), (5, .nv (.one (.ptr 5 0))), (6, .nv (.one (.ptr 9 0)))] [.gone, .box 55 [.val (.int .u32 (pa)), .val (.int .i64 (pn)), .val (.bool true), .val (.int .i64 (px)), .val (.pointer none), .val (.pointer none)], .box 55 [.val (.int .u32 (a)), .val (.int .i64 (n)), .val (.bool u), .val (.int .i64 (x)), .ptr 5 0, .root 4 0 false], .gone, .abs A4, .box 55 [.val (.int .u32 (ka)), .val (.int .i64 (kn)), .val (.bool ku), .val (.int .i64 (kx)), .root 6 0 false, .root 7 0 false], .abs A6, .abs A7, .gone, .box 55 [.val (.int .u32 (ca)), .val (.int .i64 (cn)), .val (.bool false), .val (.int .i64 (0)), .val (.pointer none), .val (.pointer none)]]) :=
  code_run Gt3_ok (orc := ⟨[], []⟩) (obl := [(0 : Nat) = (0 : Nat),
      (4 : Nat) = (4 : Nat),
      (0 : Nat) = (0 : Nat),
      (0 : Nat) = (0 : Nat),
      pa = pa,
      pn = pn,
      true = true,
      px = px,
      Value.pointer none = Value.pointer none,
      Value.pointer none = Value.pointer none,
      a = a,
      n = n,
      u = u,
      x = x,
      (0 : Nat) = (0 : Nat),
      (0 : Nat) = (0 : Nat),
      A4 = A4,
      ka = ka,
      kn = kn,
      ku = ku,
      kx = kx,
      (0 : Nat) = (0 : Nat),
      (0 : Nat) = (0 : Nat),
      A6 = A6,
      A7 = A7,
      ca = ca,
      cn = cn,
      false = false,
      (0 : Int) = (0 : Int),
      Value.pointer none = Value.pointer none,
      Value.pointer none = Value.pointer none]) (by kernel_rfl) (.cons (by rfl) (.cons (by rfl) (.cons (by rfl) (.cons (by rfl) (.cons (by rfl) (.cons (by rfl) (.cons (by rfl) (.cons (by rfl) (.cons (by rfl) (.cons (by rfl) (.cons (by rfl) (.cons (by rfl) (.cons (by rfl) (.cons (by rfl) (.cons (by rfl) (.cons (by rfl) (.cons (by rfl) (.cons (by rfl) (.cons (by rfl) (.cons (by rfl) (.cons (by rfl) (.cons (by rfl) (.cons (by rfl) (.cons (by rfl) (.cons (by rfl) (.cons (by rfl) (.cons (by rfl) (.cons (by rfl) (.cons (by rfl) (.cons (by rfl) (.cons (by rfl) .nil))))))))))))))))))))))))))))))) (Nat.le_of_ble_eq_true (by kernel_rfl))

set_option maxHeartbeats 2000000 in
theorem ly0_12_0 (pa pn px a n x ka kn kx : Int) (u ku : Bool) (ca cn : Int) (A3 A4 A6 A7 : Abs) (ha : 0 ≤ pa) (ha2 : pa ≤ 4294967295) (hc0 : 0 ≤ cn) (hc31 : cn ≤ 31) (hj : sdN pa cn = 0) : CodeOk Try.prog 5 (subC [true, true, true, true, false, true, true, false, true] (bodyOf Try.f21)) (mkSt 107 [(1, .nv (.one (.ptr 1 0))), (4, .nv (.one (.ptr 2 4))), (5, .nv (.one (.ptr 5 0))), (6, .nv (.one (.ptr 9 0)))] [.gone, .box 55 [.val (.int .u32 (pa)), .val (.int .i64 (pn)), .val (.bool true), .val (.int .i64 (px)), .val (.pointer none), .val (.pointer none)], .box 55 [.val (.int .u32 (a)), .val (.int .i64 (n)), .val (.bool u), .val (.int .i64 (x)), .ptr 5 0, .root 4 0 false], .gone, .abs A4, .box 55 [.val (.int .u32 (ka)), .val (.int .i64 (kn)), .val (.bool ku), .val (.int .i64 (kx)), .root 6 0 false, .root 7 0 false], .abs A6, .abs A7, .gone, .box 55 [.val (.int .u32 (ca)), .val (.int .i64 (cn)), .val (.bool false), .val (.int .i64 (0)), .val (.pointer none), .val (.pointer none)]]) .normal (mkSt 107 [(1, .nv (.one (.ptr 1 0))), (4, .nv (.one (.ptr 2 4))), (5, .nv (.one (.ptr 5 0))), (6, .nv (.one (.ptr 9 0)))] [.gone, .box 55 [.val (.int .u32 (pa)), .val (.int .i64 (pn)), .val (.bool true), .val (.int .i64 (px)), .val (.pointer none), .val (.pointer none)], .box 55 [.val (.int .u32 (a)), .val (.int .i64 (n)), .val (.bool u), .val (.int .i64 (x)), .ptr 5 0, .root 4 0 false], .gone, .abs A4, .box 55 [.val (.int .u32 (ka)), .val (.int .i64 (kn)), .val (.bool ku), .val (.int .i64 (kx)), .root 6 0 false, .root 7 0 false], .abs A6, .abs A7, .gone, .box 55 [.val (.int .u32 (ca)), .val (.int .i64 (cn)), .val (.bool false), .val (.int .i64 (0)), .ptr 1 0, .val (.pointer none)]]) :=
  code_run Gs0_ok (orc := ⟨[], []⟩) (obl := [(0 : Int) ≤ pa,
      pa ≤ (4294967295 : Int),
      (0 : Int) ≤ cn,
      cn ≤ (31 : Int),
      sdN pa cn = (0 : Int),
      (0 : Nat) = (0 : Nat),
      pa = pa,
      ca = ca,
      cn = cn,
      false = false,
      (0 : Int) = (0 : Int),
      (0 : Int) ≤ (0 : Int),
      (0 : Int) < (↑(2 : Nat) : Int),
      (0 : Nat) = (0 : Nat),
      (4 : Nat) = (4 : Nat),
      (0 : Nat) = (0 : Nat),
      (0 : Nat) = (0 : Nat),
      pa = pa,
      pn = pn,
      true = true,
      px = px,
      Value.pointer none = Value.pointer none,
      Value.pointer none = Value.pointer none,
      a = a,
      n = n,
      u = u,
      x = x,
      (0 : Nat) = (0 : Nat),
      (0 : Nat) = (0 : Nat),
      A4 = A4,
      ka = ka,
      kn = kn,
      ku = ku,
      kx = kx,
      (0 : Nat) = (0 : Nat),
      (0 : Nat) = (0 : Nat),
      A6 = A6,
      A7 = A7,
      ca = ca,
      cn = cn,
      false = false,
      (0 : Int) = (0 : Int),
      (0 : Nat) = (0 : Nat),
      Value.pointer none = Value.pointer none]) (by kernel_rfl) (.cons (by assumption) (.cons (by assumption) (.cons (by assumption) (.cons (by assumption) (.cons (by assumption) (.cons (by rfl) (.cons (by rfl) (.cons (by rfl) (.cons (by rfl) (.cons (by rfl) (.cons (by rfl) (.cons (by trivial) (.cons (by trivial) (.cons (by rfl) (.cons (by rfl) (.cons (by rfl) (.cons (by rfl) (.cons (by rfl) (.cons (by rfl) (.cons (by rfl) (.cons (by rfl) (.cons (by rfl) (.cons (by rfl) (.cons (by rfl) (.cons (by rfl) (.cons (by rfl) (.cons (by rfl) (.cons (by rfl) (.cons (by rfl) (.cons (by rfl) (.cons (by rfl) (.cons (by rfl) (.cons (by rfl) (.cons (by rfl) (.cons (by rfl) (.cons (by rfl) (.cons (by rfl) (.cons (by rfl) (.cons (by rfl) (.cons (by rfl) (.cons (by rfl) (.cons (by rfl) (.cons (by rfl) (.cons (by rfl) .nil)))))))))))))))))))))))))))))))))))))))))))) (Nat.le_of_ble_eq_true (by kernel_rfl))

set_option maxHeartbeats 2000000 in
theorem ly0_13_0 (pa pn px a n x ka kn kx : Int) (u ku : Bool) (ca cn : Int) (A3 A4 A6 A7 : Abs) (hk : 0 ≤ ka) (hk2 : ka ≤ 4294967295) (hc0 : 0 ≤ cn) (hc31 : cn ≤ 31) (hj : sdN ka cn = 1) : CodeOk Try.prog 5 (subC [true, true, true, true, true, false] (bodyOf Try.f21)) (mkSt 107 [(1, .nv (.one (.ptr 1 0))), (4, .nv (.one (.ptr 2 4))), (5, .nv (.one (.ptr 5 0))), (6, .nv (.one (.ptr 9 0)))] [.gone, .box 55 [.val (.int .u32 (pa)), .val (.int .i64 (pn)), .val (.bool true), .val (.int .i64 (px)), .val (.pointer none), .val (.pointer none)], .box 55 [.val (.int .u32 (a)), .val (.int .i64 (n)), .val (.bool u), .val (.int .i64 (x)), .ptr 5 0, .root 4 0 false], .gone, .abs A4, .box 55 [.val (.int .u32 (ka)), .val (.int .i64 (kn)), .val (.bool ku), .val (.int .i64 (kx)), .root 6 0 false, .root 7 0 false], .abs A6, .abs A7, .gone, .box 55 [.val (.int .u32 (ca)), .val (.int .i64 (cn)), .val (.bool false), .val (.int .i64 (0)), .ptr 1 0, .val (.pointer none)]]) .normal (mkSt 107 [(1, .nv (.one (.ptr 1 0))), (4, .nv (.one (.ptr 2 4))), (5, .nv (.one (.ptr 5 0))), (6, .nv (.one (.ptr 9 0)))] [.gone, .box 55 [.val (.int .u32 (pa)), .val (.int .i64 (pn)), .val (.bool true), .val (.int .i64 (px)), .val (.pointer none), .val (.pointer none)], .box 55 [.val (.int .u32 (a)), .val (.int .i64 (n)), .val (.bool u), .val (.int .i64 (x)), .ptr 5 0, .root 4 0 false], .gone, .abs A4, .box 55 [.val (.int .u32 (ka)), .val (.int .i64 (kn)), .val (.bool ku), .val (.int .i64 (kx)), .root 6 0 false, .root 7 0 false], .abs A6, .abs A7, .gone, .box 55 [.val (.int .u32 (ca)), .val (.int .i64 (cn)), .val (.bool false), .val (.int .i64 (0)), .ptr 1 0, .ptr 5 0]]) :=
  code_run Gs1_ok (orc := ⟨[], []⟩) (obl := [(0 : Int) ≤ ka,
      ka ≤ (4294967295 : Int),
      (0 : Int) ≤ cn,
      cn ≤ (31 : Int),
      sdN ka cn = (1 : Int),
      (0 : Nat) = (0 : Nat),
      ka = ka,
      ca = ca,
      cn = cn,
      false = false,
      (0 : Int) = (0 : Int),
      (0 : Int) ≤ (1 : Int),
      (1 : Int) < (↑(2 : Nat) : Int),
      (0 : Nat) = (0 : Nat),
      (4 : Nat) = (4 : Nat),
      (0 : Nat) = (0 : Nat),
      (0 : Nat) = (0 : Nat),
      pa = pa,
      pn = pn,
      true = true,
      px = px,
      Value.pointer none = Value.pointer none,
      Value.pointer none = Value.pointer none,
      a = a,
      n = n,
      u = u,
      x = x,
      (0 : Nat) = (0 : Nat),
      (0 : Nat) = (0 : Nat),
      A4 = A4,
      ka = ka,
      kn = kn,
      ku = ku,
      kx = kx,
      (0 : Nat) = (0 : Nat),
      (0 : Nat) = (0 : Nat),
      A6 = A6,
      A7 = A7,
      ca = ca,
      cn = cn,
      false = false,
      (0 : Int) = (0 : Int),
      (0 : Nat) = (0 : Nat),
      (0 : Nat) = (0 : Nat)]) (by kernel_rfl) (.cons (by assumption) (.cons (by assumption) (.cons (by assumption) (.cons (by assumption) (.cons (by assumption) (.cons (by rfl) (.cons (by rfl) (.cons (by rfl) (.cons (by rfl) (.cons (by rfl) (.cons (by rfl) (.cons (by trivial) (.cons (by trivial) (.cons (by rfl) (.cons (by rfl) (.cons (by rfl) (.cons (by rfl) (.cons (by rfl) (.cons (by rfl) (.cons (by rfl) (.cons (by rfl) (.cons (by rfl) (.cons (by rfl) (.cons (by rfl) (.cons (by rfl) (.cons (by rfl) (.cons (by rfl) (.cons (by rfl) (.cons (by rfl) (.cons (by rfl) (.cons (by rfl) (.cons (by rfl) (.cons (by rfl) (.cons (by rfl) (.cons (by rfl) (.cons (by rfl) (.cons (by rfl) (.cons (by rfl) (.cons (by rfl) (.cons (by rfl) (.cons (by rfl) (.cons (by rfl) (.cons (by rfl) (.cons (by rfl) .nil)))))))))))))))))))))))))))))))))))))))))))) (Nat.le_of_ble_eq_true (by kernel_rfl))

set_option maxHeartbeats 2000000 in
theorem ly0_14_0 (pa pn px a n x ka kn kx : Int) (u ku : Bool) (ca cn : Int) (A3 A4 A6 A7 : Abs) : CodeOk Try.prog 5 (subC [true, true, true, true, true, true] (bodyOf Try.f21)) (mkSt 107 [(1, .nv (.one (.ptr 1 0))), (4, .nv (.one (.ptr 2 4))), (5, .nv (.one (.ptr 5 0))), (6, .nv (.one (.ptr 9 0)))] [.gone, .box 55 [.val (.int .u32 (pa)), .val (.int .i64 (pn)), .val (.bool true), .val (.int .i64 (px)), .val (.pointer none), .val (.pointer none)], .box 55 [.val (.int .u32 (a)), .val (.int .i64 (n)), .val (.bool u), .val (.int .i64 (x)), .ptr 5 0, .root 4 0 false], .gone, .abs A4, .box 55 [.val (.int .u32 (ka)), .val (.int .i64 (kn)), .val (.bool ku), .val (.int .i64 (kx)), .root 6 0 false, .root 7 0 false], .abs A6, .abs A7, .gone, .box 55 [.val (.int .u32 (ca)), .val (.int .i64 (cn)), .val (.bool false), .val (.int .i64 (0)), .ptr 1 0, .ptr 5 0]]) .normal (mkSt 107 [] [.gone, .box 55 [.val (.int .u32 (pa)), .val (.int .i64 (pn)), .val (.bool true), .val (.int .i64 (px)), .val (.pointer none), .val (.pointer none)], .box 55 [.val (.int .u32 (a)), .val (.int .i64 (n)), .val (.bool u), .val (.int .i64 (x)), .ptr 9 0, .root 4 0 false], .gone, .abs A4, .box 55 [.val (.int .u32 (ka)), .val (.int .i64 (kn)), .val (.bool ku), .val (.int .i64 (kx)), .root 6 0 false, .root 7 0 false], .abs A6, .abs A7, .gone, .box 55 [.val (.int .u32 (ca)), .val (.int .i64 (cn)), .val (.bool false), .val (.int .i64 (0)), .ptr 1 0, .ptr 5 0]]) :=
  code_run Gt3_ok (orc := ⟨[], []⟩) (obl := [pa = pa,
      pn = pn,
      true = true,
      px = px,
      Value.pointer none = Value.pointer none,
      Value.pointer none = Value.pointer none,
      a = a,
      n = n,
      u = u,
      x = x,
      (0 : Nat) = (0 : Nat),
      (0 : Nat) = (0 : Nat),
      A4 = A4,
      ka = ka,
      kn = kn,
      ku = ku,
      kx = kx,
      (0 : Nat) = (0 : Nat),
      (0 : Nat) = (0 : Nat),
      A6 = A6,
      A7 = A7,
      ca = ca,
      cn = cn,
      false = false,
      (0 : Int) = (0 : Int),
      (0 : Nat) = (0 : Nat),
      (0 : Nat) = (0 : Nat)]) (by kernel_rfl) (.cons (by rfl) (.cons (by rfl) (.cons (by rfl) (.cons (by rfl) (.cons (by rfl) (.cons (by rfl) (.cons (by rfl) (.cons (by rfl) (.cons (by rfl) (.cons (by rfl) (.cons (by rfl) (.cons (by rfl) (.cons (by rfl) (.cons (by rfl) (.cons (by rfl) (.cons (by rfl) (.cons (by rfl) (.cons (by rfl) (.cons (by rfl) (.cons (by rfl) (.cons (by rfl) (.cons (by rfl) (.cons (by rfl) (.cons (by rfl) (.cons (by rfl) (.cons (by rfl) (.cons (by rfl) .nil))))))))))))))))))))))))))) (Nat.le_of_ble_eq_true (by kernel_rfl))

set_option maxHeartbeats 2000000 in
theorem ly0_n13_0 (pa pn px a n x ka kn kx : Int) (u ku : Bool) (ca cn : Int) (A3 A4 A6 A7 : Abs) (hk : 0 ≤ ka) (hk2 : ka ≤ 4294967295) (hc0 : 0 ≤ pn) (hc31 : pn ≤ 31) (hj : sdN ka pn = 0) : CodeOk Try.prog 5 (subC [true, true, true, true, true, false] (bodyOf Try.f21)) (mkSt 107 [(1, .nv (.one (.ptr 1 0))), (4, .nv (.one (.ptr 2 4))), (5, .nv (.one (.ptr 5 0))), (6, .nv (.one (.ptr 1 0))), (7, .nv (.one (.ptr 8 0))), (76, bA false)] [.gone, .box 55 [.val (.int .u32 (pa)), .val (.int .i64 (pn)), .val (.bool true), .val (.int .i64 (px)), .val (.pointer none), .val (.pointer none)], .box 55 [.val (.int .u32 (a)), .val (.int .i64 (n)), .val (.bool u), .val (.int .i64 (x)), .ptr 5 0, .root 4 0 false], .gone, .abs A4, .box 55 [.val (.int .u32 (ka)), .val (.int .i64 (kn)), .val (.bool ku), .val (.int .i64 (kx)), .root 6 0 false, .root 7 0 false], .abs A6, .abs A7, .box 28 [.val (.int .u32 ca), .val (.int .i64 cn)]]) .normal (mkSt 107 [(1, .nv (.one (.ptr 1 0))), (4, .nv (.one (.ptr 2 4))), (5, .nv (.one (.ptr 5 0))), (6, .nv (.one (.ptr 1 0)))] [.gone, .box 55 [.val (.int .u32 (pa)), .val (.int .i64 (pn)), .val (.bool true), .val (.int .i64 (px)), .ptr 5 0, .val (.pointer none)], .box 55 [.val (.int .u32 (a)), .val (.int .i64 (n)), .val (.bool u), .val (.int .i64 (x)), .ptr 5 0, .root 4 0 false], .gone, .abs A4, .box 55 [.val (.int .u32 (ka)), .val (.int .i64 (kn)), .val (.bool ku), .val (.int .i64 (kx)), .root 6 0 false, .root 7 0 false], .abs A6, .abs A7]) :=
  code_run Gs0_ok (orc := ⟨[], []⟩) (obl := [(0 : Int) ≤ ka,
      ka ≤ (4294967295 : Int),
      (0 : Int) ≤ pn,
      pn ≤ (31 : Int),
      sdN ka pn = (0 : Int),
      (0 : Nat) = (0 : Nat),
      ka = ka,
      pa = pa,
      pn = pn,
      true = true,
      px = px,
      (0 : Int) ≤ (0 : Int),
      (0 : Int) < (↑(2 : Nat) : Int),
      (0 : Nat) = (0 : Nat),
      (4 : Nat) = (4 : Nat),
      (0 : Nat) = (0 : Nat),
      (0 : Nat) = (0 : Nat),
      pa = pa,
      pn = pn,
      true = true,
      px = px,
      (0 : Nat) = (0 : Nat),
      Value.pointer none = Value.pointer none,
      a = a,
      n = n,
      u = u,
      x = x,
      (0 : Nat) = (0 : Nat),
      (0 : Nat) = (0 : Nat),
      A4 = A4,
      ka = ka,
      kn = kn,
      ku = ku,
      kx = kx,
      (0 : Nat) = (0 : Nat),
      (0 : Nat) = (0 : Nat),
      A6 = A6,
      A7 = A7]) (by kernel_rfl) (.cons (by assumption) (.cons (by assumption) (.cons (by assumption) (.cons (by assumption) (.cons (by assumption) (.cons (by rfl) (.cons (by rfl) (.cons (by rfl) (.cons (by rfl) (.cons (by rfl) (.cons (by rfl) (.cons (by trivial) (.cons (by trivial) (.cons (by rfl) (.cons (by rfl) (.cons (by rfl) (.cons (by rfl) (.cons (by rfl) (.cons (by rfl) (.cons (by rfl) (.cons (by rfl) (.cons (by rfl) (.cons (by rfl) (.cons (by rfl) (.cons (by rfl) (.cons (by rfl) (.cons (by rfl) (.cons (by rfl) (.cons (by rfl) (.cons (by rfl) (.cons (by rfl) (.cons (by rfl) (.cons (by rfl) (.cons (by rfl) (.cons (by rfl) (.cons (by rfl) (.cons (by rfl) (.cons (by rfl) .nil)))))))))))))))))))))))))))))))))))))) (Nat.le_of_ble_eq_true (by kernel_rfl))

set_option maxHeartbeats 2000000 in
theorem ly0_n14_0 (pa pn px a n x ka kn kx : Int) (u ku : Bool) (A3 A4 A6 A7 : Abs) : CodeOk Try.prog 5 (subC [true, true, true, true, true, true] (bodyOf Try.f21)) (mkSt 107 [(1, .nv (.one (.ptr 1 0))), (4, .nv (.one (.ptr 2 4))), (5, .nv (.one (.ptr 5 0))), (6, .nv (.one (.ptr 1 0)))] [.gone, .box 55 [.val (.int .u32 (pa)), .val (.int .i64 (pn)), .val (.bool true), .val (.int .i64 (px)), .ptr 5 0, .val (.pointer none)], .box 55 [.val (.int .u32 (a)), .val (.int .i64 (n)), .val (.bool u), .val (.int .i64 (x)), .ptr 5 0, .root 4 0 false], .gone, .abs A4, .box 55 [.val (.int .u32 (ka)), .val (.int .i64 (kn)), .val (.bool ku), .val (.int .i64 (kx)), .root 6 0 false, .root 7 0 false], .abs A6, .abs A7]) .normal (mkSt 107 [] [.gone, .box 55 [.val (.int .u32 (pa)), .val (.int .i64 (pn)), .val (.bool true), .val (.int .i64 (px)), .ptr 5 0, .val (.pointer none)], .box 55 [.val (.int .u32 (a)), .val (.int .i64 (n)), .val (.bool u), .val (.int .i64 (x)), .ptr 1 0, .root 4 0 false], .gone, .abs A4, .box 55 [.val (.int .u32 (ka)), .val (.int .i64 (kn)), .val (.bool ku), .val (.int .i64 (kx)), .root 6 0 false, .root 7 0 false], .abs A6, .abs A7]) :=
  code_run Gt3_ok (orc := ⟨[], []⟩) (obl := [pa = pa,
      pn = pn,
      true = true,
      px = px,
      (0 : Nat) = (0 : Nat),
      Value.pointer none = Value.pointer none,
      a = a,
      n = n,
      u = u,
      x = x,
      (0 : Nat) = (0 : Nat),
      (0 : Nat) = (0 : Nat),
      A4 = A4,
      ka = ka,
      kn = kn,
      ku = ku,
      kx = kx,
      (0 : Nat) = (0 : Nat),
      (0 : Nat) = (0 : Nat),
      A6 = A6,
      A7 = A7]) (by kernel_rfl) (.cons (by rfl) (.cons (by rfl) (.cons (by rfl) (.cons (by rfl) (.cons (by rfl) (.cons (by rfl) (.cons (by rfl) (.cons (by rfl) (.cons (by rfl) (.cons (by rfl) (.cons (by rfl) (.cons (by rfl) (.cons (by rfl) (.cons (by rfl) (.cons (by rfl) (.cons (by rfl) (.cons (by rfl) (.cons (by rfl) (.cons (by rfl) (.cons (by rfl) (.cons (by rfl) .nil))))))))))))))))))))) (Nat.le_of_ble_eq_true (by kernel_rfl))

set_option maxHeartbeats 2000000 in
theorem ly0_12_1 (pa pn px a n x ka kn kx : Int) (u ku : Bool) (ca cn : Int) (A3 A4 A6 A7 : Abs) (ha : 0 ≤ pa) (ha2 : pa ≤ 4294967295) (hc0 : 0 ≤ cn) (hc31 : cn ≤ 31) (hj : sdN pa cn = 1) : CodeOk Try.prog 5 (subC [true, true, true, true, false, true, true, false, true] (bodyOf Try.f21)) (mkSt 107 [(1, .nv (.one (.ptr 1 0))), (4, .nv (.one (.ptr 2 4))), (5, .nv (.one (.ptr 5 0))), (6, .nv (.one (.ptr 9 0)))] [.gone, .box 55 [.val (.int .u32 (pa)), .val (.int .i64 (pn)), .val (.bool true), .val (.int .i64 (px)), .val (.pointer none), .val (.pointer none)], .box 55 [.val (.int .u32 (a)), .val (.int .i64 (n)), .val (.bool u), .val (.int .i64 (x)), .ptr 5 0, .root 4 0 false], .gone, .abs A4, .box 55 [.val (.int .u32 (ka)), .val (.int .i64 (kn)), .val (.bool ku), .val (.int .i64 (kx)), .root 6 0 false, .root 7 0 false], .abs A6, .abs A7, .gone, .box 55 [.val (.int .u32 (ca)), .val (.int .i64 (cn)), .val (.bool false), .val (.int .i64 (0)), .val (.pointer none), .val (.pointer none)]]) .normal (mkSt 107 [(1, .nv (.one (.ptr 1 0))), (4, .nv (.one (.ptr 2 4))), (5, .nv (.one (.ptr 5 0))), (6, .nv (.one (.ptr 9 0)))] [.gone, .box 55 [.val (.int .u32 (pa)), .val (.int .i64 (pn)), .val (.bool true), .val (.int .i64 (px)), .val (.pointer none), .val (.pointer none)], .box 55 [.val (.int .u32 (a)), .val (.int .i64 (n)), .val (.bool u), .val (.int .i64 (x)), .ptr 5 0, .root 4 0 false], .gone, .abs A4, .box 55 [.val (.int .u32 (ka)), .val (.int .i64 (kn)), .val (.bool ku), .val (.int .i64 (kx)), .root 6 0 false, .root 7 0 false], .abs A6, .abs A7, .gone, .box 55 [.val (.int .u32 (ca)), .val (.int .i64 (cn)), .val (.bool false), .val (.int .i64 (0)), .val (.pointer none), .ptr 1 0]]) :=
  code_run Gs1_ok (orc := ⟨[], []⟩) (obl := [(0 : Int) ≤ pa,
      pa ≤ (4294967295 : Int),
      (0 : Int) ≤ cn,
      cn ≤ (31 : Int),
      sdN pa cn = (1 : Int),
      (0 : Nat) = (0 : Nat),
      pa = pa,
      ca = ca,
      cn = cn,
      false = false,
      (0 : Int) = (0 : Int),
      (0 : Int) ≤ (1 : Int),
      (1 : Int) < (↑(2 : Nat) : Int),
      (0 : Nat) = (0 : Nat),
      (4 : Nat) = (4 : Nat),
      (0 : Nat) = (0 : Nat),
      (0 : Nat) = (0 : Nat),
      pa = pa,
      pn = pn,
      true = true,
      px = px,
      Value.pointer none = Value.pointer none,
      Value.pointer none = Value.pointer none,
      a = a,
      n = n,
      u = u,
      x = x,
      (0 : Nat) = (0 : Nat),
      (0 : Nat) = (0 : Nat),
      A4 = A4,
      ka = ka,
      kn = kn,
      ku = ku,
      kx = kx,
      (0 : Nat) = (0 : Nat),
      (0 : Nat) = (0 : Nat),
      A6 = A6,
      A7 = A7,
      ca = ca,
      cn = cn,
      false = false,
      (0 : Int) = (0 : Int),
      Value.pointer none = Value.pointer none,
      (0 : Nat) = (0 : Nat)]) (by kernel_rfl) (.cons (by assumption) (.cons (by assumption) (.cons (by assumption) (.cons (by assumption) (.cons (by assumption) (.cons (by rfl) (.cons (by rfl) (.cons (by rfl) (.cons (by rfl) (.cons (by rfl) (.cons (by rfl) (.cons (by trivial) (.cons (by trivial) (.cons (by rfl) (.cons (by rfl) (.cons (by rfl) (.cons (by rfl) (.cons (by rfl) (.cons (by rfl) (.cons (by rfl) (.cons (by rfl) (.cons (by rfl) (.cons (by rfl) (.cons (by rfl) (.cons (by rfl) (.cons (by rfl) (.cons (by rfl) (.cons (by rfl) (.cons (by rfl) (.cons (by rfl) (.cons (by rfl) (.cons (by rfl) (.cons (by rfl) (.cons (by rfl) (.cons (by rfl) (.cons (by rfl) (.cons (by rfl) (.cons (by rfl) (.cons (by rfl) (.cons (by rfl) (.cons (by rfl) (.cons (by rfl) (.cons (by rfl) (.cons (by rfl) .nil)))))))))))))))))))))))))))))))))))))))))))) (Nat.le_of_ble_eq_true (by kernel_rfl))

set_option maxHeartbeats 2000000 in
theorem ly0_13_1 (pa pn px a n x ka kn kx : Int) (u ku : Bool) (ca cn : Int) (A3 A4 A6 A7 : Abs) (hk : 0 ≤ ka) (hk2 : ka ≤ 4294967295) (hc0 : 0 ≤ cn) (hc31 : cn ≤ 31) (hj : sdN ka cn = 0) : CodeOk Try.prog 5 (subC [true, true, true, true, true, false] (bodyOf Try.f21)) (mkSt 107 [(1, .nv (.one (.ptr 1 0))), (4, .nv (.one (.ptr 2 4))), (5, .nv (.one (.ptr 5 0))), (6, .nv (.one (.ptr 9 0)))] [.gone, .box 55 [.val (.int .u32 (pa)), .val (.int .i64 (pn)), .val (.bool true), .val (.int .i64 (px)), .val (.pointer none), .val (.pointer none)], .box 55 [.val (.int .u32 (a)), .val (.int .i64 (n)), .val (.bool u), .val (.int .i64 (x)), .ptr 5 0, .root 4 0 false], .gone, .abs A4, .box 55 [.val (.int .u32 (ka)), .val (.int .i64 (kn)), .val (.bool ku), .val (.int .i64 (kx)), .root 6 0 false, .root 7 0 false], .abs A6, .abs A7, .gone, .box 55 [.val (.int .u32 (ca)), .val (.int .i64 (cn)), .val (.bool false), .val (.int .i64 (0)), .val (.pointer none), .ptr 1 0]]) .normal (mkSt 107 [(1, .nv (.one (.ptr 1 0))), (4, .nv (.one (.ptr 2 4))), (5, .nv (.one (.ptr 5 0))), (6, .nv (.one (.ptr 9 0)))] [.gone, .box 55 [.val (.int .u32 (pa)), .val (.int .i64 (pn)), .val (.bool true), .val (.int .i64 (px)), .val (.pointer none), .val (.pointer none)], .box 55 [.val (.int .u32 (a)), .val (.int .i64 (n)), .val (.bool u), .val (.int .i64 (x)), .ptr 5 0, .root 4 0 false], .gone, .abs A4, .box 55 [.val (.int .u32 (ka)), .val (.int .i64 (kn)), .val (.bool ku), .val (.int .i64 (kx)), .root 6 0 false, .root 7 0 false], .abs A6, .abs A7, .gone, .box 55 [.val (.int .u32 (ca)), .val (.int .i64 (cn)), .val (.bool false), .val (.int .i64 (0)), .ptr 5 0, .ptr 1 0]]) :=
  code_run Gs0_ok (orc := ⟨[], []⟩) (obl := [(0 : Int) ≤ ka,
      ka ≤ (4294967295 : Int),
      (0 : Int) ≤ cn,
      cn ≤ (31 : Int),
      sdN ka cn = (0 : Int),
      (0 : Nat) = (0 : Nat),
      ka = ka,
      ca = ca,
      cn = cn,
      false = false,
      (0 : Int) = (0 : Int),
      (0 : Int) ≤ (0 : Int),
      (0 : Int) < (↑(2 : Nat) : Int),
      (0 : Nat) = (0 : Nat),
      (4 : Nat) = (4 : Nat),
      (0 : Nat) = (0 : Nat),
      (0 : Nat) = (0 : Nat),
      pa = pa,
      pn = pn,
      true = true,
      px = px,
      Value.pointer none = Value.pointer none,
      Value.pointer none = Value.pointer none,
      a = a,
      n = n,
      u = u,
      x = x,
      (0 : Nat) = (0 : Nat),
      (0 : Nat) = (0 : Nat),
      A4 = A4,
      ka = ka,
      kn = kn,
      ku = ku,
      kx = kx,
      (0 : Nat) = (0 : Nat),
      (0 : Nat) = (0 : Nat),
      A6 = A6,
      A7 = A7,
      ca = ca,
      cn = cn,
      false = false,
      (0 : Int) = (0 : Int),
      (0 : Nat) = (0 : Nat),
      (0 : Nat) = (0 : Nat)]) (by kernel_rfl) (.cons (by assumption) (.cons (by assumption) (.cons (by assumption) (.cons (by assumption) (.cons (by assumption) (.cons (by rfl) (.cons (by rfl) (.cons (by rfl) (.cons (by rfl) (.cons (by rfl) (.cons (by rfl) (.cons (by trivial) (.cons (by trivial) (.cons (by rfl) (.cons (by rfl) (.cons (by rfl) (.cons (by rfl) (.cons (by rfl) (.cons (by rfl) (.cons (by rfl) (.cons (by rfl) (.cons (by rfl) (.cons (by rfl) (.cons (by rfl) (.cons (by rfl) (.cons (by rfl) (.cons (by rfl) (.cons (by rfl) (.cons (by rfl) (.cons (by rfl) (.cons (by rfl) (.cons (by rfl) (.cons (by rfl) (.cons (by rfl) (.cons (by rfl) (.cons (by rfl) (.cons (by rfl) (.cons (by rfl) (.cons (by rfl) (.cons (by rfl) (.cons (by rfl) (.cons (by rfl) (.cons (by rfl) (.cons (by rfl) .nil)))))))))))))))))))))))))))))))))))))))))))) (Nat.le_of_ble_eq_true (by kernel_rfl))

set_option maxHeartbeats 2000000 in
theorem ly0_14_1 (pa pn px a n x ka kn kx : Int) (u ku : Bool) (ca cn : Int) (A3 A4 A6 A7 : Abs) : CodeOk Try.prog 5 (subC [true, true, true, true, true, true] (bodyOf Try.f21)) (mkSt 107 [(1, .nv (.one (.ptr 1 0))), (4, .nv (.one (.ptr 2 4))), (5, .nv (.one (.ptr 5 0))), (6, .nv (.one (.ptr 9 0)))] [.gone, .box 55 [.val (.int .u32 (pa)), .val (.int .i64 (pn)), .val (.bool true), .val (.int .i64 (px)), .val (.pointer none), .val (.pointer none)], .box 55 [.val (.int .u32 (a)), .val (.int .i64 (n)), .val (.bool u), .val (.int .i64 (x)), .ptr 5 0, .root 4 0 false], .gone, .abs A4, .box 55 [.val (.int .u32 (ka)), .val (.int .i64 (kn)), .val (.bool ku), .val (.int .i64 (kx)), .root 6 0 false, .root 7 0 false], .abs A6, .abs A7, .gone, .box 55 [.val (.int .u32 (ca)), .val (.int .i64 (cn)), .val (.bool false), .val (.int .i64 (0)), .ptr 5 0, .ptr 1 0]]) .normal (mkSt 107 [] [.gone, .box 55 [.val (.int .u32 (pa)), .val (.int .i64 (pn)), .val (.bool true), .val (.int .i64 (px)), .val (.pointer none), .val (.pointer none)], .box 55 [.val (.int .u32 (a)), .val (.int .i64 (n)), .val (.bool u), .val (.int .i64 (x)), .ptr 9 0, .root 4 0 false], .gone, .abs A4, .box 55 [.val (.int .u32 (ka)), .val (.int .i64 (kn)), .val (.bool ku), .val (.int .i64 (kx)), .root 6 0 false, .root 7 0 false], .abs A6, .abs A7, .gone, .box 55 [.val (.int .u32 (ca)), .val (.int .i64 (cn)), .val (.bool false), .val (.int .i64 (0)), .ptr 5 0, .ptr 1 0]]) :=
  code_run Gt3_ok (orc := ⟨[], []⟩) (obl := [pa = pa,
      pn = pn,
      true = true,
      px = px,
      Value.pointer none = Value.pointer none,
      Value.pointer none = Value.pointer none,
      a = a,
      n = n,
      u = u,
      x = x,
      (0 : Nat) = (0 : Nat),
      (0 : Nat) = (0 : Nat),
      A4 = A4,
      ka = ka,
      kn = kn,
      ku = ku,
      kx = kx,
      (0 : Nat) = (0 : Nat),
      (0 : Nat) = (0 : Nat),
      A6 = A6,
      A7 = A7,
      ca = ca,
      cn = cn,
      false = false,
      (0 : Int) = (0 : Int),
      (0 : Nat) = (0 : Nat),
      (0 : Nat) = (0 : Nat)]) (by kernel_rfl) (.cons (by rfl) (.cons (by rfl) (.cons (by rfl) (.cons (by rfl) (.cons (by rfl) (.cons (by rfl) (.cons (by rfl) (.cons (by rfl) (.cons (by rfl) (.cons (by rfl) (.cons (by rfl) (.cons (by rfl) (.cons (by rfl) (.cons (by rfl) (.cons (by rfl) (.cons (by rfl) (.cons (by rfl) (.cons (by rfl) (.cons (by rfl) (.cons (by rfl) (.cons (by rfl) (.cons (by rfl) (.cons (by rfl) (.cons (by rfl) (.cons (by rfl) (.cons (by rfl) (.cons (by rfl) .nil))))))))))))))))))))))))))) (Nat.le_of_ble_eq_true (by kernel_rfl))

set_option maxHeartbeats 2000000 in
theorem ly0_n13_1 (pa pn px a n x ka kn kx : Int) (u ku : Bool) (ca cn : Int) (A3 A4 A6 A7 : Abs) (hk : 0 ≤ ka) (hk2 : ka ≤ 4294967295) (hc0 : 0 ≤ pn) (hc31 : pn ≤ 31) (hj : sdN ka pn = 1) : CodeOk Try.prog 5 (subC [true, true, true, true, true, false] (bodyOf Try.f21)) (mkSt 107 [(1, .nv (.one (.ptr 1 0))), (4, .nv (.one (.ptr 2 4))), (5, .nv (.one (.ptr 5 0))), (6, .nv (.one (.ptr 1 0))), (7, .nv (.one (.ptr 8 0))), (76, bA false)] [.gone, .box 55 [.val (.int .u32 (pa)), .val (.int .i64 (pn)), .val (.bool true), .val (.int .i64 (px)), .val (.pointer none), .val (.pointer none)], .box 55 [.val (.int .u32 (a)), .val (.int .i64 (n)), .val (.bool u), .val (.int .i64 (x)), .ptr 5 0, .root 4 0 false], .gone, .abs A4, .box 55 [.val (.int .u32 (ka)), .val (.int .i64 (kn)), .val (.bool ku), .val (.int .i64 (kx)), .root 6 0 false, .root 7 0 false], .abs A6, .abs A7, .box 28 [.val (.int .u32 ca), .val (.int .i64 cn)]]) .normal (mkSt 107 [(1, .nv (.one (.ptr 1 0))), (4, .nv (.one (.ptr 2 4))), (5, .nv (.one (.ptr 5 0))), (6, .nv (.one (.ptr 1 0)))] [.gone, .box 55 [.val (.int .u32 (pa)), .val (.int .i64 (pn)), .val (.bool true), .val (.int .i64 (px)), .val (.pointer none), .ptr 5 0], .box 55 [.val (.int .u32 (a)), .val (.int .i64 (n)), .val (.bool u), .val (.int .i64 (x)), .ptr 5 0, .root 4 0 false], .gone, .abs A4, .box 55 [.val (.int .u32 (ka)), .val (.int .i64 (kn)), .val (.bool ku), .val (.int .i64 (kx)), .root 6 0 false, .root 7 0 false], .abs A6, .abs A7]) :=
  code_run Gs1_ok (orc := ⟨[], []⟩) (obl := [(0 : Int) ≤ ka,
      ka ≤ (4294967295 : Int),
      (0 : Int) ≤ pn,
      pn ≤ (31 : Int),
      sdN ka pn = (1 : Int),
      (0 : Nat) = (0 : Nat),
      ka = ka,
      pa = pa,
      pn = pn,
      true = true,
      px = px,
      (0 : Int) ≤ (1 : Int),
      (1 : Int) < (↑(2 : Nat) : Int),
      (0 : Nat) = (0 : Nat),
      (4 : Nat) = (4 : Nat),
      (0 : Nat) = (0 : Nat),
      (0 : Nat) = (0 : Nat),
      pa = pa,
      pn = pn,
      true = true,
      px = px,
      Value.pointer none = Value.pointer none,
      (0 : Nat) = (0 : Nat),
      a = a,
      n = n,
      u = u,
      x = x,
      (0 : Nat) = (0 : Nat),
      (0 : Nat) = (0 : Nat),
      A4 = A4,
      ka = ka,
      kn = kn,
      ku = ku,
      kx = kx,
      (0 : Nat) = (0 : Nat),
      (0 : Nat) = (0 : Nat),
      A6 = A6,
      A7 = A7]) (by kernel_rfl) (.cons (by assumption) (.cons (by assumption) (.cons (by assumption) (.cons (by assumption) (.cons (by assumption) (.cons (by rfl) (.cons (by rfl) (.cons (by rfl) (.cons (by rfl) (.cons (by rfl) (.cons (by rfl) (.cons (by trivial) (.cons (by trivial) (.cons (by rfl) (.cons (by rfl) (.cons (by rfl) (.cons (by rfl) (.cons (by rfl) (.cons (by rfl) (.cons (by rfl) (.cons (by rfl) (.cons (by rfl) (.cons (by rfl) (.cons (by rfl) (.cons (by rfl) (.cons (by rfl) (.cons (by rfl) (.cons (by rfl) (.cons (by rfl) (.cons (by rfl) (.cons (by rfl) (.cons (by rfl) (.cons (by rfl) (.cons (by rfl) (.cons (by rfl) (.cons (by rfl) (.cons (by rfl) (.cons (by rfl) .nil)))))))))))))))))))))))))))))))))))))) (Nat.le_of_ble_eq_true (by kernel_rfl))

set_option maxHeartbeats 2000000 in
theorem ly0_n14_1 (pa pn px a n x ka kn kx : Int) (u ku : Bool) (A3 A4 A6 A7 : Abs) : CodeOk Try.prog 5 (subC [true, true, true, true, true, true] (bodyOf Try.f21)) (mkSt 107 [(1, .nv (.one (.ptr 1 0))), (4, .nv (.one (.ptr 2 4))), (5, .nv (.one (.ptr 5 0))), (6, .nv (.one (.ptr 1 0)))] [.gone, .box 55 [.val (.int .u32 (pa)), .val (.int .i64 (pn)), .val (.bool true), .val (.int .i64 (px)), .val (.pointer none), .ptr 5 0], .box 55 [.val (.int .u32 (a)), .val (.int .i64 (n)), .val (.bool u), .val (.int .i64 (x)), .ptr 5 0, .root 4 0 false], .gone, .abs A4, .box 55 [.val (.int .u32 (ka)), .val (.int .i64 (kn)), .val (.bool ku), .val (.int .i64 (kx)), .root 6 0 false, .root 7 0 false], .abs A6, .abs A7]) .normal (mkSt 107 [] [.gone, .box 55 [.val (.int .u32 (pa)), .val (.int .i64 (pn)), .val (.bool true), .val (.int .i64 (px)), .val (.pointer none), .ptr 5 0], .box 55 [.val (.int .u32 (a)), .val (.int .i64 (n)), .val (.bool u), .val (.int .i64 (x)), .ptr 1 0, .root 4 0 false], .gone, .abs A4, .box 55 [.val (.int .u32 (ka)), .val (.int .i64 (kn)), .val (.bool ku), .val (.int .i64 (kx)), .root 6 0 false, .root 7 0 false], .abs A6, .abs A7]) :=
  code_run Gt3_ok (orc := ⟨[], []⟩) (obl := [pa = pa,
      pn = pn,
      true = true,
      px = px,
      Value.pointer none = Value.pointer none,
      (0 : Nat) = (0 : Nat),
      a = a,
      n = n,
      u = u,
      x = x,
      (0 : Nat) = (0 : Nat),
      (0 : Nat) = (0 : Nat),
      A4 = A4,
      ka = ka,
      kn = kn,
      ku = ku,
      kx = kx,
      (0 : Nat) = (0 : Nat),
      (0 : Nat) = (0 : Nat),
      A6 = A6,
      A7 = A7]) (by kernel_rfl) (.cons (by rfl) (.cons (by rfl) (.cons (by rfl) (.cons (by rfl) (.cons (by rfl) (.cons (by rfl) (.cons (by rfl) (.cons (by rfl) (.cons (by rfl) (.cons (by rfl) (.cons (by rfl) (.cons (by rfl) (.cons (by rfl) (.cons (by rfl) (.cons (by rfl) (.cons (by rfl) (.cons (by rfl) (.cons (by rfl) (.cons (by rfl) (.cons (by rfl) (.cons (by rfl) .nil))))))))))))))))))))) (Nat.le_of_ble_eq_true (by kernel_rfl))

set_option maxHeartbeats 2000000 in
theorem ly1_nil (pa pn px a n x ka kn kx : Int) (u ku : Bool) (A3 A4 A6 A7 : Abs) (ha : 0 ≤ pa) (ha2 : pa ≤ 4294967295) (hn0 : 0 ≤ n) (hn31 : n ≤ 31) (hs : sdN pa n = 1) : CodeOk Try.prog 5 (bodyOf Try.f21) (mkSt 107 [(0, .nv (.one (.ptr 2 0))), (1, .nv (.one (.ptr 1 0)))] [.gone, .box 55 [.val (.int .u32 (pa)), .val (.int .i64 (pn)), .val (.bool true), .val (.int .i64 (px)), .val (.pointer none), .val (.pointer none)], .box 55 [.val (.int .u32 (a)), .val (.int .i64 (n)), .val (.bool u), .val (.int .i64 (x)), .root 3 0 false, .val (.pointer none)], .abs A3, .abs A4]) .ret (mkSt 107 [] [.gone, .box 55 [.val (.int .u32 (pa)), .val (.int .i64 (pn)), .val (.bool true), .val (.int .i64 (px)), .val (.pointer none), .val (.pointer none)], .box 55 [.val (.int .u32 (a)), .val (.int .i64 (n)), .val (.bool u), .val (.int .i64 (x)), .root 3 0 false, .ptr 1 0], .abs A3, .abs A4]) :=
  code_run Gs1_ok (orc := ⟨[true], []⟩) (obl := [(0 : Int) ≤ pa,
      pa ≤ (4294967295 : Int),
      (0 : Int) ≤ n,
      n ≤ (31 : Int),
      sdN pa n = (1 : Int),
      (0 : Nat) = (0 : Nat),
      pa = pa,
      a = a,
      n = n,
      u = u,
      x = x,
      (0 : Int) ≤ (1 : Int),
      (1 : Int) < (↑(2 : Nat) : Int),
      true = true,
      pa = pa,
      pn = pn,
      true = true,
      px = px,
      Value.pointer none = Value.pointer none,
      Value.pointer none = Value.pointer none,
      a = a,
      n = n,
      u = u,
      x = x,
      (0 : Nat) = (0 : Nat),
      (0 : Nat) = (0 : Nat),
      A3 = A3,
      A4 = A4]) (by kernel_rfl) (.cons (by assumption) (.cons (by assumption) (.cons (by assumption) (.cons (by assumption) (.cons (by assumption) (.cons (by rfl) (.cons (by rfl) (.cons (by rfl) (.cons (by rfl) (.cons (by rfl) (.cons (by rfl) (.cons (by trivial) (.cons (by trivial) (.cons (by rfl) (.cons (by rfl) (.cons (by rfl) (.cons (by rfl) (.cons (by rfl) (.cons (by rfl) (.cons (by rfl) (.cons (by rfl) (.cons (by rfl) (.cons (by rfl) (.cons (by rfl) (.cons (by rfl) (.cons (by rfl) (.cons (by rfl) (.cons (by rfl) .nil)))))))))))))))))))))))))))) (Nat.le_of_ble_eq_true (by kernel_rfl))

set_option maxHeartbeats 2000000 in
theorem ly1_eq (pa pn px a n x ka kn kx : Int) (u ku : Bool) (A3 A4 A6 A7 : Abs) (ha : 0 ≤ pa) (ha2 : pa ≤ 4294967295) (hn0 : 0 ≤ n) (hn31 : n ≤ 31) (hk : 0 ≤ ka) (hk2 : ka ≤ 4294967295) (hs : sdN pa n = 1) (hb : (ka == pa && (kn == pn && true)) = true) : CodeOk Try.prog 5 (bodyOf Try.f21) (mkSt 107 [(0, .nv (.one (.ptr 2 0))), (1, .nv (.one (.ptr 1 0)))] [.gone, .box 55 [.val (.int .u32 (pa)), .val (.int .i64 (pn)), .val (.bool true), .val (.int .i64 (px)), .val (.pointer none), .val (.pointer none)], .box 55 [.val (.int .u32 (a)), .val (.int .i64 (n)), .val (.bool u), .val (.int .i64 (x)), .root 3 0 false, .ptr 5 0], .abs A3, .gone, .box 55 [.val (.int .u32 (ka)), .val (.int .i64 (kn)), .val (.bool ku), .val (.int .i64 (kx)), .root 6 0 false, .root 7 0 false], .abs A6, .abs A7]) .ret (mkSt 107 [] [.gone, .box 55 [.val (.int .u32 (pa)), .val (.int .i64 (pn)), .val (.bool true), .val (.int .i64 (px)), .val (.pointer none), .val (.pointer none)], .box 55 [.val (.int .u32 (a)), .val (.int .i64 (n)), .val (.bool u), .val (.int .i64 (x)), .root 3 0 false, .ptr 5 0], .abs A3, .gone, .box 55 [.val (.int .u32 (ka)), .val (.int .i64 (kn)), .val (.bool true), .val (.int .i64 (px)), .root 6 0 false, .root 7 0 false], .abs A6, .abs A7]) :=
  code_run Gs1_ok (orc := ⟨[false, true], []⟩) (obl := [(0 : Int) ≤ pa,
      pa ≤ (4294967295 : Int),
      (0 : Int) ≤ n,
      n ≤ (31 : Int),
      sdN pa n = (1 : Int),
      (0 : Nat) = (0 : Nat),
      pa = pa,
      a = a,
      n = n,
      u = u,
      x = x,
      (0 : Int) ≤ (1 : Int),
      (1 : Int) < (↑(2 : Nat) : Int),
      false = false,
      (ka == pa && (kn == pn && true)) = true,
      pa = pa,
      pn = pn,
      true = true,
      px = px,
      Value.pointer none = Value.pointer none,
      Value.pointer none = Value.pointer none,
      a = a,
      n = n,
      u = u,
      x = x,
      (0 : Nat) = (0 : Nat),
      (0 : Nat) = (0 : Nat),
      A3 = A3,
      ka = ka,
      kn = kn,
      true = true,
      px = px,
      (0 : Nat) = (0 : Nat),
      (0 : Nat) = (0 : Nat),
      A6 = A6,
      A7 = A7]) (by kernel_rfl) (.cons (by assumption) (.cons (by assumption) (.cons (by assumption) (.cons (by assumption) (.cons (by assumption) (.cons (by rfl) (.cons (by rfl) (.cons (by rfl) (.cons (by rfl) (.cons (by rfl) (.cons (by rfl) (.cons (by trivial) (.cons (by trivial) (.cons (by rfl) (.cons (by assumption) (.cons (by rfl) (.cons (by rfl) (.cons (by rfl) (.cons (by rfl) (.cons (by rfl) (.cons (by rfl) (.cons (by rfl) (.cons (by rfl) (.cons (by rfl) (.cons (by rfl) (.cons (by rfl) (.cons (by rfl) (.cons (by rfl) (.cons (by rfl) (.cons (by rfl) (.cons (by rfl) (.cons (by rfl) (.cons (by rfl) (.cons (by rfl) (.cons (by rfl) (.cons (by rfl) .nil)))))))))))))))))))))))))))))))))))) (Nat.le_of_ble_eq_true (by kernel_rfl))

set_option maxHeartbeats 2000000 in
theorem ly1_0 (pa pn px a n x ka kn kx : Int) (u ku : Bool) (A3 A4 A6 A7 : Abs) (ha : 0 ≤ pa) (ha2 : pa ≤ 4294967295) (hn0 : 0 ≤ n) (hn31 : n ≤ 31) (hs : sdN pa n = 1) : CodeOk Try.prog 5 (subC [false] (bodyOf Try.f21)) (mkSt 107 [(0, .nv (.one (.ptr 2 0))), (1, .nv (.one (.ptr 1 0)))] [.gone, .box 55 [.val (.int .u32 (pa)), .val (.int .i64 (pn)), .val (.bool true), .val (.int .i64 (px)), .val (.pointer none), .val (.pointer none)], .box 55 [.val (.int .u32 (a)), .val (.int .i64 (n)), .val (.bool u), .val (.int .i64 (x)), .root 3 0 false, .ptr 5 0], .abs A3, .gone, .box 55 [.val (.int .u32 (ka)), .val (.int .i64 (kn)), .val (.bool ku), .val (.int .i64 (kx)), .root 6 0 false, .root 7 0 false], .abs A6, .abs A7]) .normal (mkSt 107 [(1, .nv (.one (.ptr 1 0))), (4, .nv (.one (.ptr 2 5)))] [.gone, .box 55 [.val (.int .u32 (pa)), .val (.int .i64 (pn)), .val (.bool true), .val (.int .i64 (px)), .val (.pointer none), .val (.pointer none)], .box 55 [.val (.int .u32 (a)), .val (.int .i64 (n)), .val (.bool u), .val (.int .i64 (x)), .root 3 0 false, .ptr 5 0], .abs A3, .gone, .box 55 [.val (.int .u32 (ka)), .val (.int .i64 (kn)), .val (.bool ku), .val (.int .i64 (kx)), .root 6 0 false, .root 7 0 false], .abs A6, .abs A7]) :=
  code_run Gs1_ok (orc := ⟨[], []⟩) (obl := [(0 : Int) ≤ pa,
      pa ≤ (4294967295 : Int),
      (0 : Int) ≤ n,
      n ≤ (31 : Int),
      sdN pa n = (1 : Int),
      (0 : Nat) = (0 : Nat),
      pa = pa,
      a = a,
      n = n,
      u = u,
      x = x,
      (0 : Int) ≤ (1 : Int),
      (1 : Int) < (↑(2 : Nat) : Int),
      (0 : Nat) = (0 : Nat),
      (5 : Nat) = (5 : Nat),
      pa = pa,
      pn = pn,
      true = true,
      px = px,
      Value.pointer none = Value.pointer none,
      Value.pointer none = Value.pointer none,
      a = a,
      n = n,
      u = u,
      x = x,
      (0 : Nat) = (0 : Nat),
      (0 : Nat) = (0 : Nat),
      A3 = A3,
      ka = ka,
      kn = kn,
      ku = ku,
      kx = kx,
      (0 : Nat) = (0 : Nat),
      (0 : Nat) = (0 : Nat),
      A6 = A6,
      A7 = A7]) (by kernel_rfl) (.cons (by assumption) (.cons (by assumption) (.cons (by assumption) (.cons (by assumption) (.cons (by assumption) (.cons (by rfl) (.cons (by rfl) (.cons (by rfl) (.cons (by rfl) (.cons (by rfl) (.cons (by rfl) (.cons (by trivial) (.cons (by trivial) (.cons (by rfl) (.cons (by rfl) (.cons (by rfl) (.cons (by rfl) (.cons (by rfl) (.cons (by rfl) (.cons (by rfl) (.cons (by rfl) (.cons (by rfl) (.cons (by rfl) (.cons (by rfl) (.cons (by rfl) (.cons (by rfl) (.cons (by rfl) (.cons (by rfl) (.cons (by rfl) (.cons (by rfl) (.cons (by rfl) (.cons (by rfl) (.cons (by rfl) (.cons (by rfl) (.cons (by rfl) (.cons (by rfl) .nil)))))))))))))))))))))))))))))))))))) (Nat.le_of_ble_eq_true (by kernel_rfl))

set_option maxHeartbeats 2000000 in
theorem ly1_1 (pa pn px a n x ka kn kx : Int) (u ku : Bool) (A3 A4 A6 A7 : Abs) : CodeOk Try.prog 5 (subC [true, false] (bodyOf Try.f21)) (mkSt 107 [(1, .nv (.one (.ptr 1 0))), (4, .nv (.one (.ptr 2 5)))] [.gone, .box 55 [.val (.int .u32 (pa)), .val (.int .i64 (pn)), .val (.bool true), .val (.int .i64 (px)), .val (.pointer none), .val (.pointer none)], .box 55 [.val (.int .u32 (a)), .val (.int .i64 (n)), .val (.bool u), .val (.int .i64 (x)), .root 3 0 false, .ptr 5 0], .abs A3, .gone, .box 55 [.val (.int .u32 (ka)), .val (.int .i64 (kn)), .val (.bool ku), .val (.int .i64 (kx)), .root 6 0 false, .root 7 0 false], .abs A6, .abs A7]) .normal (mkSt 107 [(1, .nv (.one (.ptr 1 0))), (4, .nv (.one (.ptr 2 5))), (5, .nv (.one (.ptr 5 0)))] [.gone, .box 55 [.val (.int .u32 (pa)), .val (.int .i64 (pn)), .val (.bool true), .val (.int .i64 (px)), .val (.pointer none), .val (.pointer none)], .box 55 [.val (.int .u32 (a)), .val (.int .i64 (n)), .val (.bool u), .val (.int .i64 (x)), .root 3 0 false, .ptr 5 0], .abs A3, .gone, .box 55 [.val (.int .u32 (ka)), .val (.int .i64 (kn)), .val (.bool ku), .val (.int .i64 (kx)), .root 6 0 false, .root 7 0 false], .abs A6, .abs A7]) :=
  code_run Gt3_ok (orc := ⟨[], []⟩) (obl := [(0 : Nat) = (0 : Nat),
      (5 : Nat) = (5 : Nat),
      (0 : Nat) = (0 : Nat),
      pa = pa,
      pn = pn,
      true = true,
      px = px,
      Value.pointer none = Value.pointer none,
      Value.pointer none = Value.pointer none,
      a = a,
      n = n,
      u = u,
      x = x,
      (0 : Nat) = (0 : Nat),
      (0 : Nat) = (0 : Nat),
      A3 = A3,
      ka = ka,
      kn = kn,
      ku = ku,
      kx = kx,
      (0 : Nat) = (0 : Nat),
      (0 : Nat) = (0 : Nat),
      A6 = A6,
      A7 = A7]) (by kernel_rfl) (.cons (by rfl) (.cons (by rfl) (.cons (by rfl) (.cons (by rfl) (.cons (by rfl) (.cons (by rfl) (.cons (by rfl) (.cons (by rfl) (.cons (by rfl) (.cons (by rfl) (.cons (by rfl) (.cons (by rfl) (.cons (by rfl) (.cons (by rfl) (.cons (by rfl) (.cons (by rfl) (.cons (by rfl) (.cons (by rfl) (.cons (by rfl) (.cons (by rfl) (.cons (by rfl) (.cons (by rfl) (.cons (by rfl) (.cons (by rfl) .nil)))))))))))))))))))))))) (Nat.le_of_ble_eq_true (by kernel_rfl))

set_option maxHeartbeats 2000000 in
theorem ly1_2 (pa pn px a n x ka kn kx : Int) (u ku : Bool) (A3 A4 A6 A7 : Abs) : CodeOk Try.prog 5 (subC [true, true, false, true, false] (bodyOf Try.f21)) (mkSt 107 [(1, .nv (.one (.ptr 1 0))), (4, .nv (.one (.ptr 2 5))), (5, .nv (.one (.ptr 5 0)))] [.gone, .box 55 [.val (.int .u32 (pa)), .val (.int .i64 (pn)), .val (.bool true), .val (.int .i64 (px)), .val (.pointer none), .val (.pointer none)], .box 55 [.val (.int .u32 (a)), .val (.int .i64 (n)), .val (.bool u), .val (.int .i64 (x)), .root 3 0 false, .ptr 5 0], .abs A3, .gone, .box 55 [.val (.int .u32 (ka)), .val (.int .i64 (kn)), .val (.bool ku), .val (.int .i64 (kx)), .root 6 0 false, .root 7 0 false], .abs A6, .abs A7]) .normal (mkSt 107 [(1, .nv (.one (.ptr 1 0))), (4, .nv (.one (.ptr 2 5))), (5, .nv (.one (.ptr 5 0))), (22, bA false)] [.gone, .box 55 [.val (.int .u32 (pa)), .val (.int .i64 (pn)), .val (.bool true), .val (.int .i64 (px)), .val (.pointer none), .val (.pointer none)], .box 55 [.val (.int .u32 (a)), .val (.int .i64 (n)), .val (.bool u), .val (.int .i64 (x)), .root 3 0 false, .ptr 5 0], .abs A3, .gone, .box 55 [.val (.int .u32 (ka)), .val (.int .i64 (kn)), .val (.bool ku), .val (.int .i64 (kx)), .root 6 0 false, .root 7 0 false], .abs A6, .abs A7]) :=
  code_run Gt3_ok (orc := ⟨[], []⟩) (obl := [(0 : Nat) = (0 : Nat),
      (5 : Nat) = (5 : Nat),
      (0 : Nat) = (0 : Nat),
      false = false,
      pa = pa,
      pn = pn,
      true = true,
      px = px,
      Value.pointer none = Value.pointer none,
      Value.pointer none = Value.pointer none,
      a = a,
      n = n,
      u = u,
      x = x,
      (0 : Nat) = (0 : Nat),
      (0 : Nat) = (0 : Nat),
      A3 = A3,
      ka = ka,
      kn = kn,
      ku = ku,
      kx = kx,
      (0 : Nat) = (0 : Nat),
      (0 : Nat) = (0 : Nat),
      A6 = A6,
      A7 = A7]) (by kernel_rfl) (.cons (by rfl) (.cons (by rfl) (.cons (by rfl) (.cons (by rfl) (.cons (by rfl) (.cons (by rfl) (.cons (by rfl) (.cons (by rfl) (.cons (by rfl) (.cons (by rfl) (.cons (by rfl) (.cons (by rfl) (.cons (by rfl) (.cons (by rfl) (.cons (by rfl) (.cons (by rfl) (.cons (by rfl) (.cons (by rfl) (.cons (by rfl) (.cons (by rfl) (.cons (by rfl) (.cons (by rfl) (.cons (by rfl) (.cons (by rfl) (.cons (by rfl) .nil))))))))))))))))))))))))) (Nat.le_of_ble_eq_true (by kernel_rfl))

set_option maxHeartbeats 2000000 in
theorem ly1_4 (pa pn px a n x ka kn kx : Int) (u ku : Bool) (A3 A4 A6 A7 : Abs) (hb : (ka == pa && (kn == pn && true)) = false) : CodeOk Try.prog 5 (subC [true, true, false, true, true, true, false] (bodyOf Try.f21)) (mkSt 107 [(1, .nv (.one (.ptr 1 0))), (4, .nv (.one (.ptr 2 5))), (5, .nv (.one (.ptr 5 0))), (22, bA false)] [.gone, .box 55 [.val (.int .u32 (pa)), .val (.int .i64 (pn)), .val (.bool true), .val (.int .i64 (px)), .val (.pointer none), .val (.pointer none)], .box 55 [.val (.int .u32 (a)), .val (.int .i64 (n)), .val (.bool u), .val (.int .i64 (x)), .root 3 0 false, .ptr 5 0], .abs A3, .gone, .box 55 [.val (.int .u32 (ka)), .val (.int .i64 (kn)), .val (.bool ku), .val (.int .i64 (kx)), .root 6 0 false, .root 7 0 false], .abs A6, .abs A7]) .normal (mkSt 107 [(1, .nv (.one (.ptr 1 0))), (4, .nv (.one (.ptr 2 5))), (5, .nv (.one (.ptr 5 0))), (28, bA false)] [.gone, .box 55 [.val (.int .u32 (pa)), .val (.int .i64 (pn)), .val (.bool true), .val (.int .i64 (px)), .val (.pointer none), .val (.pointer none)], .box 55 [.val (.int .u32 (a)), .val (.int .i64 (n)), .val (.bool u), .val (.int .i64 (x)), .root 3 0 false, .ptr 5 0], .abs A3, .gone, .box 55 [.val (.int .u32 (ka)), .val (.int .i64 (kn)), .val (.bool ku), .val (.int .i64 (kx)), .root 6 0 false, .root 7 0 false], .abs A6, .abs A7]) :=
  code_run Gt3_ok (orc := ⟨[], []⟩) (obl := [(0 : Nat) = (0 : Nat),
      (5 : Nat) = (5 : Nat),
      (0 : Nat) = (0 : Nat),
      (ka == pa && (kn == pn && true)) = false,
      pa = pa,
      pn = pn,
      true = true,
      px = px,
      Value.pointer none = Value.pointer none,
      Value.pointer none = Value.pointer none,
      a = a,
      n = n,
      u = u,
      x = x,
      (0 : Nat) = (0 : Nat),
      (0 : Nat) = (0 : Nat),
      A3 = A3,
      ka = ka,
      kn = kn,
      ku = ku,
      kx = kx,
      (0 : Nat) = (0 : Nat),
      (0 : Nat) = (0 : Nat),
      A6 = A6,
      A7 = A7]) (by kernel_rfl) (.cons (by rfl) (.cons (by rfl) (.cons (by rfl) (.cons (by assumption) (.cons (by rfl) (.cons (by rfl) (.cons (by rfl) (.cons (by rfl) (.cons (by rfl) (.cons (by rfl) (.cons (by rfl) (.cons (by rfl) (.cons (by rfl) (.cons (by rfl) (.cons (by rfl) (.cons (by rfl) (.cons (by rfl) (.cons (by rfl) (.cons (by rfl) (.cons (by rfl) (.cons (by rfl) (.cons (by rfl) (.cons (by rfl) (.cons (by rfl) (.cons (by rfl) .nil))))))))))))))))))))))))) (Nat.le_of_ble_eq_true (by kernel_rfl))

set_option maxHeartbeats 2000000 in
theorem ly1_6 (pa pn px a n x ka kn kx : Int) (u ku : Bool) (A3 A4 A6 A7 : Abs) (b : Bool) (ha : 0 ≤ pa) (ha2 : pa ≤ 4294967295) (hk : 0 ≤ ka) (hk2 : ka ≤ 4294967295) (hb : covB ka kn pa pn = b) : CodeOk Try.prog 5 (subC [true, true, false, true, true, true, true, true, false] (bodyOf Try.f21)) (mkSt 107 [(1, .nv (.one (.ptr 1 0))), (4, .nv (.one (.ptr 2 5))), (5, .nv (.one (.ptr 5 0))), (28, bA false)] [.gone, .box 55 [.val (.int .u32 (pa)), .val (.int .i64 (pn)), .val (.bool true), .val (.int .i64 (px)), .val (.pointer none), .val (.pointer none)], .box 55 [.val (.int .u32 (a)), .val (.int .i64 (n)), .val (.bool u), .val (.int .i64 (x)), .root 3 0 false, .ptr 5 0], .abs A3, .gone, .box 55 [.val (.int .u32 (ka)), .val (.int .i64 (kn)), .val (.bool ku), .val (.int .i64 (kx)), .root 6 0 false, .root 7 0 false], .abs A6, .abs A7]) .normal (mkSt 107 [(1, .nv (.one (.ptr 1 0))), (4, .nv (.one (.ptr 2 5))), (5, .nv (.one (.ptr 5 0))), (48, bA b)] [.gone, .box 55 [.val (.int .u32 (pa)), .val (.int .i64 (pn)), .val (.bool true), .val (.int .i64 (px)), .val (.pointer none), .val (.pointer none)], .box 55 [.val (.int .u32 (a)), .val (.int .i64 (n)), .val (.bool u), .val (.int .i64 (x)), .root 3 0 false, .ptr 5 0], .abs A3, .gone, .box 55 [.val (.int .u32 (ka)), .val (.int .i64 (kn)), .val (.bool ku), .val (.int .i64 (kx)), .root 6 0 false, .root 7 0 false], .abs A6, .abs A7]) :=
  code_run Gt3_ok (orc := ⟨[], []⟩) (obl := [(0 : Int) ≤ ka,
      ka ≤ (4294967295 : Int),
      (0 : Int) ≤ pa,
      pa ≤ (4294967295 : Int),
      (0 : Nat) = (0 : Nat),
      (5 : Nat) = (5 : Nat),
      (0 : Nat) = (0 : Nat),
      covB ka kn pa pn = b,
      pa = pa,
      pn = pn,
      true = true,
      px = px,
      Value.pointer none = Value.pointer none,
      Value.pointer none = Value.pointer none,
      a = a,
      n = n,
      u = u,
      x = x,
      (0 : Nat) = (0 : Nat),
      (0 : Nat) = (0 : Nat),
      A3 = A3,
      ka = ka,
      kn = kn,
      ku = ku,
      kx = kx,
      (0 : Nat) = (0 : Nat),
      (0 : Nat) = (0 : Nat),
      A6 = A6,
      A7 = A7]) (by kernel_rfl) (.cons (by assumption) (.cons (by assumption) (.cons (by assumption) (.cons (by assumption) (.cons (by rfl) (.cons (by rfl) (.cons (by rfl) (.cons (by assumption) (.cons (by rfl) (.cons (by rfl) (.cons (by rfl) (.cons (by rfl) (.cons (by rfl) (.cons (by rfl) (.cons (by rfl) (.cons (by rfl) (.cons (by rfl) (.cons (by rfl) (.cons (by rfl) (.cons (by rfl) (.cons (by rfl) (.cons (by rfl) (.cons (by rfl) (.cons (by rfl) (.cons (by rfl) (.cons (by rfl) (.cons (by rfl) (.cons (by rfl) (.cons (by rfl) .nil))))))))))))))))))))))))))))) (Nat.le_of_ble_eq_true (by kernel_rfl))

set_option maxHeartbeats 2000000 in
theorem ly1_7 (N : LyN) (ih : LyIh N.pa N.pn N.px N.k) (a n x : Int) (u : Bool) (A3 A4 : Abs) (hok : LyOk N.pa N.pn N.k) : CodeOk Try.prog 5 (subC [true, true, false, true, true, true, true, true, true, false] (bodyOf Try.f21)) (mkSt 107 [(1, .nv (.one (.ptr 1 0))), (4, .nv (.one (.ptr 2 5))), (5, .nv (.one (.root 8 0 true))), (48, bA true)] [.gone, .box 55 [.val (.int .u32 (N.pa)), .val (.int .i64 (N.pn)), .val (.bool true), .val (.int .i64 (N.px)), .val (.pointer none), .val (.pointer none)], .box 55 [.val (.int .u32 (a)), .val (.int .i64 (n)), .val (.bool u), .val (.int .i64 (x)), .root 3 0 false, .val (.pointer N.w)], .abs A3, .gone, .gone, .gone, .gone, .abs (TA (some (.pointer N.w)) N.k)]) .ret (mkSt 107 [] [.gone, .gone, .box 55 [.val (.int .u32 (a)), .val (.int .i64 (n)), .val (.bool u), .val (.int .i64 (x)), .root 3 0 false, .val (.pointer N.w)], .abs A3, .gone, .gone, .gone, .gone, .gone, .abs (TA (some (.pointer N.w)) (layP N.pa N.pn N.px N.k))]) :=
  code_run (Gly_ok N ih) (orc := ⟨[], []⟩) (obl := [LyOk (LyN.pa N) (LyN.pn N) (LyN.k N),
      (0 : Nat) = (0 : Nat),
      (0 : Nat) = (0 : Nat),
      TA (some (Value.pointer (LyN.w N))) (LyN.k N) = TA (some (Value.pointer (LyN.w N))) (LyN.k N),
      LyN.pa N = LyN.pa N,
      LyN.pn N = LyN.pn N,
      true = true,
      LyN.px N = LyN.px N,
      Value.pointer none = Value.pointer none,
      Value.pointer none = Value.pointer none,
      a = a,
      n = n,
      u = u,
      x = x,
      (0 : Nat) = (0 : Nat),
      Value.pointer N.4 = Value.pointer (LyN.w N),
      A3 = A3,
      TA (some (Value.pointer (LyN.w N))) (layP (LyN.pa N) (LyN.pn N) (LyN.px N) (LyN.k N)) = TA (some (Value.pointer (LyN.w N))) (layP (LyN.pa N) (LyN.pn N) (LyN.px N) (LyN.k N))]) (by kernel_rfl) (.cons (by assumption) (.cons (by rfl) (.cons (by rfl) (.cons (by rfl) (.cons (by rfl) (.cons (by rfl) (.cons (by rfl) (.cons (by rfl) (.cons (by rfl) (.cons (by rfl) (.cons (by rfl) (.cons (by rfl) (.cons (by rfl) (.cons (by rfl) (.cons (by rfl) (.cons (by rfl) (.cons (by rfl) (.cons (by rfl) .nil)))))))))))))))))) (Nat.le_of_ble_eq_true (by kernel_rfl))

set_option maxHeartbeats 2000000 in
theorem ly1_8 (pa pn px a n x ka kn kx : Int) (u ku : Bool) (A3 A4 A6 A7 : Abs) : CodeOk Try.prog 5 (subC [true, true, true, false] (bodyOf Try.f21)) (mkSt 107 [(1, .nv (.one (.ptr 1 0))), (4, .nv (.one (.ptr 2 5))), (5, .nv (.one (.ptr 5 0))), (48, bA false)] [.gone, .box 55 [.val (.int .u32 (pa)), .val (.int .i64 (pn)), .val (.bool true), .val (.int .i64 (px)), .val (.pointer none), .val (.pointer none)], .box 55 [.val (.int .u32 (a)), .val (.int .i64 (n)), .val (.bool u), .val (.int .i64 (x)), .root 3 0 false, .ptr 5 0], .abs A3, .gone, .box 55 [.val (.int .u32 (ka)), .val (.int .i64 (kn)), .val (.bool ku), .val (.int .i64 (kx)), .root 6 0 false, .root 7 0 false], .abs A6, .abs A7]) .normal (mkSt 107 [(1, .nv (.one (.ptr 1 0))), (4, .nv (.one (.ptr 2 5))), (5, .nv (.one (.ptr 5 0))), (6, .nv (.one (.ptr 1 0)))] [.gone, .box 55 [.val (.int .u32 (pa)), .val (.int .i64 (pn)), .val (.bool true), .val (.int .i64 (px)), .val (.pointer none), .val (.pointer none)], .box 55 [.val (.int .u32 (a)), .val (.int .i64 (n)), .val (.bool u), .val (.int .i64 (x)), .root 3 0 false, .ptr 5 0], .abs A3, .gone, .box 55 [.val (.int .u32 (ka)), .val (.int .i64 (kn)), .val (.bool ku), .val (.int .i64 (kx)), .root 6 0 false, .root 7 0 false], .abs A6, .abs A7]) :=
  code_run Gt3_ok (orc := ⟨[], []⟩) (obl := [(0 : Nat) = (0 : Nat),
      (5 : Nat) = (5 : Nat),
      (0 : Nat) = (0 : Nat),
      (0 : Nat) = (0 : Nat),
      pa = pa,
      pn = pn,
      true = true,
      px = px,
      Value.pointer none = Value.pointer none,
      Value.pointer none = Value.pointer none,
      a = a,
      n = n,
      u = u,
      x = x,
      (0 : Nat) = (0 : Nat),
      (0 : Nat) = (0 : Nat),
      A3 = A3,
      ka = ka,
      kn = kn,
      ku = ku,
      kx = kx,
      (0 : Nat) = (0 : Nat),
      (0 : Nat) = (0 : Nat),
      A6 = A6,
      A7 = A7]) (by kernel_rfl) (.cons (by rfl) (.cons (by rfl) (.cons (by rfl) (.cons (by rfl) (.cons (by rfl) (.cons (by rfl) (.cons (by rfl) (.cons (by rfl) (.cons (by rfl) (.cons (by rfl) (.cons (by rfl) (.cons (by rfl) (.cons (by rfl) (.cons (by rfl) (.cons (by rfl) (.cons (by rfl) (.cons (by rfl) (.cons (by rfl) (.cons (by rfl) (.cons (by rfl) (.cons (by rfl) (.cons (by rfl) (.cons (by rfl) (.cons (by rfl) (.cons (by rfl) .nil))))))))))))))))))))))))) (Nat.le_of_ble_eq_true (by kernel_rfl))

set_option maxHeartbeats 2000000 in
theorem ly1_9 (pa pn px a n x ka kn kx : Int) (u ku : Bool) (A3 A4 A6 A7 : Abs) (ha : 0 ≤ pa) (ha2 : pa ≤ 4294967295) (hk : 0 ≤ ka) (hk2 : ka ≤ 4294967295) (hkn : 0 ≤ kn) (hp0 : 0 ≤ pn) (hA : ka - ka % (wdN (comN ka kn pa pn) : Int) = comA ka kn pa pn) : CodeOk Try.prog 5 (subC [true, true, true, true, false, false] (bodyOf Try.f21)) (mkSt 107 [(1, .nv (.one (.ptr 1 0))), (4, .nv (.one (.ptr 2 5))), (5, .nv (.one (.ptr 5 0))), (6, .nv (.one (.ptr 1 0)))] [.gone, .box 55 [.val (.int .u32 (pa)), .val (.int .i64 (pn)), .val (.bool true), .val (.int .i64 (px)), .val (.pointer none), .val (.pointer none)], .box 55 [.val (.int .u32 (a)), .val (.int .i64 (n)), .val (.bool u), .val (.int .i64 (x)), .root 3 0 false, .ptr 5 0], .abs A3, .gone, .box 55 [.val (.int .u32 (ka)), .val (.int .i64 (kn)), .val (.bool ku), .val (.int .i64 (kx)), .root 6 0 false, .root 7 0 false], .abs A6, .abs A7]) .normal (mkSt 107 [(1, .nv (.one (.ptr 1 0))), (4, .nv (.one (.ptr 2 5))), (5, .nv (.one (.ptr 5 0))), (6, .nv (.one (.ptr 1 0))), (7, .nv (.one (.ptr 8 0)))] [.gone, .box 55 [.val (.int .u32 (pa)), .val (.int .i64 (pn)), .val (.bool true), .val (.int .i64 (px)), .val (.pointer none), .val (.pointer none)], .box 55 [.val (.int .u32 (a)), .val (.int .i64 (n)), .val (.bool u), .val (.int .i64 (x)), .root 3 0 false, .ptr 5 0], .abs A3, .gone, .box 55 [.val (.int .u32 (ka)), .val (.int .i64 (kn)), .val (.bool ku), .val (.int .i64 (kx)), .root 6 0 false, .root 7 0 false], .abs A6, .abs A7, .box 28 [.val (.int .u32 (comA ka kn pa pn)), .val (.int .i64 (comN ka kn pa pn))]]) :=
  code_run Gt3_ok (orc := ⟨[], []⟩) (obl := [(0 : Int) ≤ ka,
      ka ≤ (4294967295 : Int),
      (0 : Int) ≤ pa,
      pa ≤ (4294967295 : Int),
      (0 : Int) ≤ kn,
      (0 : Int) ≤ pn,
      (0 : Nat) = (0 : Nat),
      (5 : Nat) = (5 : Nat),
      (0 : Nat) = (0 : Nat),
      (0 : Nat) = (0 : Nat),
      (0 : Nat) = (0 : Nat),
      pa = pa,
      pn = pn,
      true = true,
      px = px,
      Value.pointer none = Value.pointer none,
      Value.pointer none = Value.pointer none,
      a = a,
      n = n,
      u = u,
      x = x,
      (0 : Nat) = (0 : Nat),
      (0 : Nat) = (0 : Nat),
      A3 = A3,
      ka = ka,
      kn = kn,
      ku = ku,
      kx = kx,
      (0 : Nat) = (0 : Nat),
      (0 : Nat) = (0 : Nat),
      A6 = A6,
      A7 = A7,
      ka - ka % (↑(wdN (comN ka kn pa pn)) : Int) = comA ka kn pa pn,
      comN ka kn pa pn = comN ka kn pa pn]) (by kernel_rfl) (.cons (by assumption) (.cons (by assumption) (.cons (by assumption) (.cons (by assumption) (.cons (by assumption) (.cons (by assumption) (.cons (by rfl) (.cons (by rfl) (.cons (by rfl) (.cons (by rfl) (.cons (by rfl) (.cons (by rfl) (.cons (by rfl) (.cons (by rfl) (.cons (by rfl) (.cons (by rfl) (.cons (by rfl) (.cons (by rfl) (.cons (by rfl) (.cons (by rfl) (.cons (by rfl) (.cons (by rfl) (.cons (by rfl) (.cons (by rfl) (.cons (by rfl) (.cons (by rfl) (.cons (by rfl) (.cons (by rfl) (.cons (by rfl) (.cons (by rfl) (.cons (by rfl) (.cons (by rfl) (.cons (by assumption) (.cons (by rfl) .nil)))))))))))))))))))))))))))))))))) (Nat.le_of_ble_eq_true (by kernel_rfl))

set_option maxHeartbeats 2000000 in
theorem ly1_10 (pa pn px a n x ka kn kx : Int) (u ku : Bool) (ca cn : Int) (A3 A4 A6 A7 : Abs) (b : Bool) (hb : (!(ca == pa && (cn == pn && true))) = b) : CodeOk Try.prog 5 (subC [true, true, true, true, false, true, false] (bodyOf Try.f21)) (mkSt 107 [(1, .nv (.one (.ptr 1 0))), (4, .nv (.one (.ptr 2 5))), (5, .nv (.one (.ptr 5 0))), (6, .nv (.one (.ptr 1 0))), (7, .nv (.one (.ptr 8 0)))] [.gone, .box 55 [.val (.int .u32 (pa)), .val (.int .i64 (pn)), .val (.bool true), .val (.int .i64 (px)), .val (.pointer none), .val (.pointer none)], .box 55 [.val (.int .u32 (a)), .val (.int .i64 (n)), .val (.bool u), .val (.int .i64 (x)), .root 3 0 false, .ptr 5 0], .abs A3, .gone, .box 55 [.val (.int .u32 (ka)), .val (.int .i64 (kn)), .val (.bool ku), .val (.int .i64 (kx)), .root 6 0 false, .root 7 0 false], .abs A6, .abs A7, .box 28 [.val (.int .u32 ca), .val (.int .i64 cn)]]) .normal (mkSt 107 [(1, .nv (.one (.ptr 1 0))), (4, .nv (.one (.ptr 2 5))), (5, .nv (.one (.ptr 5 0))), (6, .nv (.one (.ptr 1 0))), (7, .nv (.one (.ptr 8 0))), (76, bA b)] [.gone, .box 55 [.val (.int .u32 (pa)), .val (.int .i64 (pn)), .val (.bool true), .val (.int .i64 (px)), .val (.pointer none), .val (.pointer none)], .box 55 [.val (.int .u32 (a)), .val (.int .i64 (n)), .val (.bool u), .val (.int .i64 (x)), .root 3 0 false, .ptr 5 0], .abs A3, .gone, .box 55 [.val (.int .u32 (ka)), .val (.int .i64 (kn)), .val (.bool ku), .val (.int .i64 (kx)), .root 6 0 false, .root 7 0 false], .abs A6, .abs A7, .box 28 [.val (.int .u32 ca), .val (.int .i64 cn)]]) :=
  code_run Gt3_ok (orc := ⟨[], []⟩) (obl := [(0 : Nat) = (0 : Nat),
      (5 : Nat) = (5 : Nat),
      (0 : Nat) = (0 : Nat),
      (0 : Nat) = (0 : Nat),
      (0 : Nat) = (0 : Nat),
      (!(ca == pa && (cn == pn && true))) = b,
      pa = pa,
      pn = pn,
      true = true,
      px = px,
      Value.pointer none = Value.pointer none,
      Value.pointer none = Value.pointer none,
      a = a,
      n = n,
      u = u,
      x = x,
      (0 : Nat) = (0 : Nat),
      (0 : Nat) = (0 : Nat),
      A3 = A3,
      ka = ka,
      kn = kn,
      ku = ku,
      kx = kx,
      (0 : Nat) = (0 : Nat),
      (0 : Nat) = (0 : Nat),
      A6 = A6,
      A7 = A7,
      ca = ca,
      cn = cn]) (by kernel_rfl) (.cons (by rfl) (.cons (by rfl) (.cons (by rfl) (.cons (by rfl) (.cons (by rfl) (.cons (by assumption) (.cons (by rfl) (.cons (by rfl) (.cons (by rfl) (.cons (by rfl) (.cons (by rfl) (.cons (by rfl) (.cons (by rfl) (.cons (by rfl) (.cons (by rfl) (.cons (by rfl) (.cons (by rfl) (.cons (by rfl) (.cons (by rfl) (.cons (by rfl) (.cons (by rfl) (.cons (by rfl) (.cons (by rfl) (.cons (by rfl) (.cons (by rfl) (.cons (by rfl) (.cons (by rfl) (.cons (by rfl) (.cons (by rfl) .nil))))))))))))))))))))))))))))) (Nat.le_of_ble_eq_true (by kernel_rfl))

set_option maxHeartbeats 2000000 in
theorem ly1_11 (pa pn px a n x ka kn kx : Int) (u ku : Bool) (ca cn : Int) (A3 A4 A6 A7 : Abs) : CodeOk Try.prog 5 (subC [true, true, true, true, false, true, true, false, false] (bodyOf Try.f21)) (mkSt 107 [(1, .nv (.one (.ptr 1 0))), (4, .nv (.one (.ptr 2 5))), (5, .nv (.one (.ptr 5 0))), (6, .nv (.one (.ptr 1 0))), (7, .nv (.one (.ptr 8 0))), (76, bA true)] [.gone, .box 55 [.val (.int .u32 (pa)), .val (.int .i64 (pn)), .val (.bool true), .val (.int .i64 (px)), .val (.pointer none), .val (.pointer none)], .box 55 [.val (.int .u32 (a)), .val (.int .i64 (n)), .val (.bool u), .val (.int .i64 (x)), .root 3 0 false, .ptr 5 0], .abs A3, .gone, .box 55 [.val (.int .u32 (ka)), .val (.int .i64 (kn)), .val (.bool ku), .val (.int .i64 (kx)), .root 6 0 false, .root 7 0 false], .abs A6, .abs A7, .box 28 [.val (.int .u32 ca), .val (.int .i64 cn)]]) .normal (mkSt 107 [(1, .nv (.one (.ptr 1 0))), (4, .nv (.one (.ptr 2 5))), (5, .nv (.one (.ptr 5 0))), (6, .nv (.one (.ptr 9 0)))] [.gone, .box 55 [.val (.int .u32 (pa)), .val (.int .i64 (pn)), .val (.bool true), .val (.int .i64 (px)), .val (.pointer none), .val (.pointer none)], .box 55 [.val (.int .u32 (a)), .val (.int .i64 (n)), .val (.bool u), .val (.int .i64 (x)), .root 3 0 false, .ptr 5 0], .abs A3, .gone, .box 55 [.val (.int .u32 (ka)), .val (.int .i64 (kn)), .val (.bool ku), .val (.int .i64 (kx)), .root 6 0 false, .root 7 0 false], .abs A6, .abs A7, .gone, .box 55 [.val (.int .u32 (ca)), .val (.int .i64 (cn)), .val (.bool false), .val (.int .i64 (0)), .val (.pointer none), .val (.pointer none)]]) :=
  code_run Gt3_ok (orc := ⟨[], []⟩) (obl := [(0 : Nat) = (0 : Nat),
      (5 : Nat) = (5 : Nat),
      (0 : Nat) = (0 : Nat),
      (0 : Nat) = (0 : Nat),
      pa = pa,
      pn = pn,
      true = true,
      px = px,
      Value.pointer none = Value.pointer none,
      Value.pointer none = Value.pointer none,
      a = a,
      n = n,
      u = u,
      x = x,
      (0 : Nat) = (0 : Nat),
      (0 : Nat) = (0 : Nat),
      A3 = A3,
      ka = ka,
      kn = kn,
      ku = ku,
      kx = kx,
      (0 : Nat) = (0 : Nat),
      (0 : Nat) = (0 : Nat),
      A6 = A6,
      A7 = A7,
      ca = ca,
      cn = cn,
      false = false,
      (0 : Int) = (0 : Int),
      Value.pointer none = Value.pointer none,
      Value.pointer none = Value.pointer none]) (by kernel_rfl) (.cons (by rfl) (.cons (by rfl) (.cons (by rfl) (.cons (by rfl) (.cons (by rfl) (.cons (by rfl) (.cons (by rfl) (.cons (by rfl) (.cons (by rfl) (.cons (by rfl) (.cons (by rfl) (.cons (by rfl) (.cons (by rfl) (.cons (by rfl) (.cons (by rfl) (.cons (by rfl) (.cons (by rfl) (.cons (by rfl) (.cons (by rfl) (.cons (by rfl) (.cons (by rfl) (.cons (by rfl) (.cons (by rfl) (.cons (by rfl) (.cons (by rfl) (.cons (by rfl) (.cons (by rfl) (.cons (by rfl) (.cons (by rfl) (.cons (by rfl) (.cons (by rfl) .nil))))))))))))))))))))))))))))))) (Nat.le_of_ble_eq_true (by kernel_rfl))

set_option maxHeartbeats 2000000 in
theorem ly1_12_0 (pa pn px a n x ka kn kx : Int) (u ku : Bool) (ca cn : Int) (A3 A4 A6 A7 : Abs) (ha : 0 ≤ pa) (ha2 : pa ≤ 4294967295) (hc0 : 0 ≤ cn) (hc31 : cn ≤ 31) (hj : sdN pa cn = 0) : CodeOk Try.prog 5 (subC [true, true, true, true, false, true, true, false, true] (bodyOf Try.f21)) (mkSt 107 [(1, .nv (.one (.ptr 1 0))), (4, .nv (.one (.ptr 2 5))), (5, .nv (.one (.ptr 5 0))), (6, .nv (.one (.ptr 9 0)))] [.gone, .box 55 [.val (.int .u32 (pa)), .val (.int .i64 (pn)), .val (.bool true), .val (.int .i64 (px)), .val (.pointer none), .val (.pointer none)], .box 55 [.val (.int .u32 (a)), .val (.int .i64 (n)), .val (.bool u), .val (.int .i64 (x)), .root 3 0 false, .ptr 5 0], .abs A3, .gone, .box 55 [.val (.int .u32 (ka)), .val (.int .i64 (kn)), .val (.bool ku), .val (.int .i64 (kx)), .root 6 0 false, .root 7 0 false], .abs A6, .abs A7, .gone, .box 55 [.val (.int .u32 (ca)), .val (.int .i64 (cn)), .val (.bool false), .val (.int .i64 (0)), .val (.pointer none), .val (.pointer none)]]) .normal (mkSt 107 [(1, .nv (.one (.ptr 1 0))), (4, .nv (.one (.ptr 2 5))), (5, .nv (.one (.ptr 5 0))), (6, .nv (.one (.ptr 9 0)))] [.gone, .box 55 [.val (.int .u32 (pa)), .val (.int .i64 (pn)), .val (.bool true), .val (.int .i64 (px)), .val (.pointer none), .val (.pointer none)], .box 55 [.val (.int .u32 (a)), .val (.int .i64 (n)), .val (.bool u), .val (.int .i64 (x)), .root 3 0 false, .ptr 5 0], .abs A3, .gone, .box 55 [.val (.int .u32 (ka)), .val (.int .i64 (kn)), .val (.bool ku), .val (.int .i64 (kx)), .root 6 0 false, .root 7 0 false], .abs A6, .abs A7, .gone, .box 55 [.val (.int .u32 (ca)), .val (.int .i64 (cn)), .val (.bool false), .val (.int .i64 (0)), .ptr 1 0, .val (.pointer none)]]) :=
  code_run Gs0_ok (orc := ⟨[], []⟩) (obl := [(0 : Int) ≤ pa,
      pa ≤ (4294967295 : Int),
      (0 : Int) ≤ cn,
      cn ≤ (31 : Int),
      sdN pa cn = (0 : Int),
      (0 : Nat) = (0 : Nat),
      pa = pa,
      ca = ca,
      cn = cn,
      false = false,
      (0 : Int) = (0 : Int),
      (0 : Int) ≤ (0 : Int),
      (0 : Int) < (↑(2 : Nat) : Int),
      (0 : Nat) = (0 : Nat),
      (5 : Nat) = (5 : Nat),
      (0 : Nat) = (0 : Nat),
      (0 : Nat) = (0 : Nat),
      pa = pa,
      pn = pn,
      true = true,
      px = px,
      Value.pointer none = Value.pointer none,
      Value.pointer none = Value.pointer none,
      a = a,
      n = n,
      u = u,
      x = x,
      (0 : Nat) = (0 : Nat),
      (0 : Nat) = (0 : Nat),
      A3 = A3,
      ka = ka,
      kn = kn,
      ku = ku,
      kx = kx,
      (0 : Nat) = (0 : Nat),
      (0 : Nat) = (0 : Nat),
      A6 = A6,
      A7 = A7,
      ca = ca,
      cn = cn,
      false = false,
      (0 : Int) = (0 : Int),
      (0 : Nat) = (0 : Nat),
      Value.pointer none = Value.pointer none]) (by kernel_rfl) (.cons (by assumption) (.cons (by assumption) (.cons (by assumption) (.cons (by assumption) (.cons (by assumption) (.cons (by rfl) (.cons (by rfl) (.cons (by rfl) (.cons (by rfl) (.cons (by rfl) (.cons (by rfl) (.cons (by trivial) (.cons (by trivial) (.cons (by rfl) (.cons (by rfl) (.cons (by rfl) (.cons (by rfl) (.cons (by rfl) (.cons (by rfl) (.cons (by rfl) (.cons (by rfl) (.cons (by rfl) (.cons (by rfl) (.cons (by rfl) (.cons (by rfl) (.cons (by rfl) (.cons (by rfl) (.cons (by rfl) (.cons (by rfl) (.cons (by rfl) (.cons (by rfl) (.cons (by rfl) (.cons (by rfl) (.cons (by rfl) (.cons (by rfl) (.cons (by rfl) (.cons (by rfl) (.cons (by rfl) (.cons (by rfl) (.cons (by rfl) (.cons (by rfl) (.cons (by rfl) (.cons (by rfl) (.cons (by rfl) .nil)))))))))))))))))))))))))))))))))))))))))))) (Nat.le_of_ble_eq_true (by kernel_rfl))

set_option maxHeartbeats 2000000 in
theorem ly1_13_0 (pa pn px a n x ka kn kx : Int) (u ku : Bool) (ca cn : Int) (A3 A4 A6 A7 : Abs) (hk : 0 ≤ ka) (hk2 : ka ≤ 4294967295) (hc0 : 0 ≤ cn) (hc31 : cn ≤ 31) (hj : sdN ka cn = 1) : CodeOk Try.prog 5 (subC [true, true, true, true, true, false] (bodyOf Try.f21)) (mkSt 107 [(1, .nv (.one (.ptr 1 0))), (4, .nv (.one (.ptr 2 5))), (5, .nv (.one (.ptr 5 0))), (6, .nv (.one (.ptr 9 0)))] [.gone, .box 55 [.val (.int .u32 (pa)), .val (.int .i64 (pn)), .val (.bool true), .val (.int .i64 (px)), .val (.pointer none), .val (.pointer none)], .box 55 [.val (.int .u32 (a)), .val (.int .i64 (n)), .val (.bool u), .val (.int .i64 (x)), .root 3 0 false, .ptr 5 0], .abs A3, .gone, .box 55 [.val (.int .u32 (ka)), .val (.int .i64 (kn)), .val (.bool ku), .val (.int .i64 (kx)), .root 6 0 false, .root 7 0 false], .abs A6, .abs A7, .gone, .box 55 [.val (.int .u32 (ca)), .val (.int .i64 (cn)), .val (.bool false), .val (.int .i64 (0)), .ptr 1 0, .val (.pointer none)]]) .normal (mkSt 107 [(1, .nv (.one (.ptr 1 0))), (4, .nv (.one (.ptr 2 5))), (5, .nv (.one (.ptr 5 0))), (6, .nv (.one (.ptr 9 0)))] [.gone, .box 55 [.val (.int .u32 (pa)), .val (.int .i64 (pn)), .val (.bool true), .val (.int .i64 (px)), .val (.pointer none), .val (.pointer none)], .box 55 [.val (.int .u32 (a)), .val (.int .i64 (n)), .val (.bool u), .val (.int .i64 (x)), .root 3 0 false, .ptr 5 0], .abs A3, .gone, .box 55 [.val (.int .u32 (ka)), .val (.int .i64 (kn)), .val (.bool ku), .val (.int .i64 (kx)), .root 6 0 false, .root 7 0 false], .abs A6, .abs A7, .gone, .box 55 [.val (.int .u32 (ca)), .val (.int .i64 (cn)), .val (.bool false), .val (.int .i64 (0)), .ptr 1 0, .ptr 5 0]]) :=
  code_run Gs1_ok (orc := ⟨[], []⟩) (obl := [(0 : Int) ≤ ka,
      ka ≤ (4294967295 : Int),
      (0 : Int) ≤ cn,
      cn ≤ (31 : Int),
      sdN ka cn = (1 : Int),
      (0 : Nat) = (0 : Nat),
      ka = ka,
      ca = ca,
      cn = cn,
      false = false,
      (0 : Int) = (0 : Int),
      (0 : Int) ≤ (1 : Int),
      (1 : Int) < (↑(2 : Nat) : Int),
      (0 : Nat) = (0 : Nat),
      (5 : Nat) = (5 : Nat),
      (0 : Nat) = (0 : Nat),
      (0 : Nat) = (0 : Nat),
      pa = pa,
      pn = pn,
      true = true,
      px = px,
      Value.pointer none = Value.pointer none,
      Value.pointer none = Value.pointer none,
      a = a,
      n = n,
      u = u,
      x = x,
      (0 : Nat) = (0 : Nat),
      (0 : Nat) = (0 : Nat),
      A3 = A3,
      ka = ka,
      kn = kn,
      ku = ku,
      kx = kx,
      (0 : Nat) = (0 : Nat),
      (0 : Nat) = (0 : Nat),
      A6 = A6,
      A7 = A7,
      ca = ca,
      cn = cn,
      false = false,
      (0 : Int) = (0 : Int),
      (0 : Nat) = (0 : Nat),
      (0 : Nat) = (0 : Nat)]) (by kernel_rfl) (.cons (by assumption) (.cons (by assumption) (.cons (by assumption) (.cons (by assumption) (.cons (by assumption) (.cons (by rfl) (.cons (by rfl) (.cons (by rfl) (.cons (by rfl) (.cons (by rfl) (.cons (by rfl) (.cons (by trivial) (.cons (by trivial) (.cons (by rfl) (.cons (by rfl) (.cons (by rfl) (.cons (by rfl) (.cons (by rfl) (.cons (by rfl) (.cons (by rfl) (.cons (by rfl) (.cons (by rfl) (.cons (by rfl) (.cons (by rfl) (.cons (by rfl) (.cons (by rfl) (.cons (by rfl) (.cons (by rfl) (.cons (by rfl) (.cons (by rfl) (.cons (by rfl) (.cons (by rfl) (.cons (by rfl) (.cons (by rfl) (.cons (by rfl) (.cons (by rfl) (.cons (by rfl) (.cons (by rfl) (.cons (by rfl) (.cons (by rfl) (.cons (by rfl) (.cons (by rfl) (.cons (by rfl) (.cons (by rfl) .nil)))))))))))))))))))))))))))))))))))))))))))) (Nat.le_of_ble_eq_true (by kernel_rfl))

set_option maxHeartbeats 2000000 in
theorem ly1_14_0 (pa pn px a n x ka kn kx : Int) (u ku : Bool) (ca cn : Int) (A3 A4 A6 A7 : Abs) : CodeOk Try.prog 5 (subC [true, true, true, true, true, true] (bodyOf Try.f21)) (mkSt 107 [(1, .nv (.one (.ptr 1 0))), (4, .nv (.one (.ptr 2 5))), (5, .nv (.one (.ptr 5 0))), (6, .nv (.one (.ptr 9 0)))] [.gone, .box 55 [.val (.int .u32 (pa)), .val (.int .i64 (pn)), .val (.bool true), .val (.int .i64 (px)), .val (.pointer none), .val (.pointer none)], .box 55 [.val (.int .u32 (a)), .val (.int .i64 (n)), .val (.bool u), .val (.int .i64 (x)), .root 3 0 false, .ptr 5 0], .abs A3, .gone, .box 55 [.val (.int .u32 (ka)), .val (.int .i64 (kn)), .val (.bool ku), .val (.int .i64 (kx)), .root 6 0 false, .root 7 0 false], .abs A6, .abs A7, .gone, .box 55 [.val (.int .u32 (ca)), .val (.int .i64 (cn)), .val (.bool false), .val (.int .i64 (0)), .ptr 1 0, .ptr 5 0]]) .normal (mkSt 107 [] [.gone, .box 55 [.val (.int .u32 (pa)), .val (.int .i64 (pn)), .val (.bool true), .val (.int .i64 (px)), .val (.pointer none), .val (.pointer none)], .box 55 [.val (.int .u32 (a)), .val (.int .i64 (n)), .val (.bool u), .val (.int .i64 (x)), .root 3 0 false, .ptr 9 0], .abs A3, .gone, .box 55 [.val (.int .u32 (ka)), .val (.int .i64 (kn)), .val (.bool ku), .val (.int .i64 (kx)), .root 6 0 false, .root 7 0 false], .abs A6, .abs A7, .gone, .box 55 [.val (.int .u32 (ca)), .val (.int .i64 (cn)), .val (.bool false), .val (.int .i64 (0)), .ptr 1 0, .ptr 5 0]]) :=
  code_run Gt3_ok (orc := ⟨[], []⟩) (obl := [pa = pa,
      pn = pn,
      true = true,
      px = px,
      Value.pointer none = Value.pointer none,
      Value.pointer none = Value.pointer none,
      a = a,
      n = n,
      u = u,
      x = x,
      (0 : Nat) = (0 : Nat),
      (0 : Nat) = (0 : Nat),
      A3 = A3,
      ka = ka,
      kn = kn,
      ku = ku,
      kx = kx,
      (0 : Nat) = (0 : Nat),
      (0 : Nat) = (0 : Nat),
      A6 = A6,
      A7 = A7,
      ca = ca,
      cn = cn,
      false = false,
      (0 : Int) = (0 : Int),
      (0 : Nat) = (0 : Nat),
      (0 : Nat) = (0 : Nat)]) (by kernel_rfl) (.cons (by rfl) (.cons (by rfl) (.cons (by rfl) (.cons (by rfl) (.cons (by rfl) (.cons (by rfl) (.cons (by rfl) (.cons (by rfl) (.cons (by rfl) (.cons (by rfl) (.cons (by rfl) (.cons (by rfl) (.cons (by rfl) (.cons (by rfl) (.cons (by rfl) (.cons (by rfl) (.cons (by rfl) (.cons (by rfl) (.cons (by rfl) (.cons (by rfl) (.cons (by rfl) (.cons (by rfl) (.cons (by rfl) (.cons (by rfl) (.cons (by rfl) (.cons (by rfl) (.cons (by rfl) .nil))))))))))))))))))))))))))) (Nat.le_of_ble_eq_true (by kernel_rfl))

set_option maxHeartbeats 2000000 in
theorem ly1_n13_0 (pa pn px a n x ka kn kx : Int) (u ku : Bool) (ca cn : Int) (A3 A4 A6 A7 : Abs) (hk : 0 ≤ ka) (hk2 : ka ≤ 4294967295) (hc0 : 0 ≤ pn) (hc31 : pn ≤ 31) (hj : sdN ka pn = 0) : CodeOk Try.prog 5 (subC [true, true, true, true, true, false] (bodyOf Try.f21)) (mkSt 107 [(1, .nv (.one (.ptr 1 0))), (4, .nv (.one (.ptr 2 5))), (5, .nv (.one (.ptr 5 0))), (6, .nv (.one (.ptr 1 0))), (7, .nv (.one (.ptr 8 0))), (76, bA false)] [.gone, .box 55 [.val (.int .u32 (pa)), .val (.int .i64 (pn)), .val (.bool true), .val (.int .i64 (px)), .val (.pointer none), .val (.pointer none)], .box 55 [.val (.int .u32 (a)), .val (.int .i64 (n)), .val (.bool u), .val (.int .i64 (x)), .root 3 0 false, .ptr 5 0], .abs A3, .gone, .box 55 [.val (.int .u32 (ka)), .val (.int .i64 (kn)), .val (.bool ku), .val (.int .i64 (kx)), .root 6 0 false, .root 7 0 false], .abs A6, .abs A7, .box 28 [.val (.int .u32 ca), .val (.int .i64 cn)]]) .normal (mkSt 107 [(1, .nv (.one (.ptr 1 0))), (4, .nv (.one (.ptr 2 5))), (5, .nv (.one (.ptr 5 0))), (6, .nv (.one (.ptr 1 0)))] [.gone, .box 55 [.val (.int .u32 (pa)), .val (.int .i64 (pn)), .val (.bool true), .val (.int .i64 (px)), .ptr 5 0, .val (.pointer none)], .box 55 [.val (.int .u32 (a)), .val (.int .i64 (n)), .val (.bool u), .val (.int .i64 (x)), .root 3 0 false, .ptr 5 0], .abs A3, .gone, .box 55 [.val (.int .u32 (ka)), .val (.int .i64 (kn)), .val (.bool ku), .val (.int .i64 (kx)), .root 6 0 false, .root 7 0 false], .abs A6, .abs A7]) :=
  code_run Gs0_ok (orc := ⟨[], []⟩) (obl := [(0 : Int) ≤ ka,
      ka ≤ (4294967295 : Int),
      (0 : Int) ≤ pn,
      pn ≤ (31 : Int),
      sdN ka pn = (0 : Int),
      (0 : Nat) = (0 : Nat),
      ka = ka,
      pa = pa,
      pn = pn,
      true = true,
      px = px,
      (0 : Int) ≤ (0 : Int),
      (0 : Int) < (↑(2 : Nat) : Int),
      (0 : Nat) = (0 : Nat),
      (5 : Nat) = (5 : Nat),
      (0 : Nat) = (0 : Nat),
      (0 : Nat) = (0 : Nat),
      pa = pa,
      pn = pn,
      true = true,
      px = px,
      (0 : Nat) = (0 : Nat),
      Value.pointer none = Value.pointer none,
      a = a,
      n = n,
      u = u,
      x = x,
      (0 : Nat) = (0 : Nat),
      (0 : Nat) = (0 : Nat),
      A3 = A3,
      ka = ka,
      kn = kn,
      ku = ku,
      kx = kx,
      (0 : Nat) = (0 : Nat),
      (0 : Nat) = (0 : Nat),
      A6 = A6,
      A7 = A7]) (by kernel_rfl) (.cons (by assumption) (.cons (by assumption) (.cons (by assumption) (.cons (by assumption) (.cons (by assumption) (.cons (by rfl) (.cons (by rfl) (.cons (by rfl) (.cons (by rfl) (.cons (by rfl) (.cons (by rfl) (.cons (by trivial) (.cons (by trivial) (.cons (by rfl) (.cons (by rfl) (.cons (by rfl) (.cons (by rfl) (.cons (by rfl) (.cons (by rfl) (.cons (by rfl) (.cons (by rfl) (.cons (by rfl) (.cons (by rfl) (.cons (by rfl) (.cons (by rfl) (.cons (by rfl) (.cons (by rfl) (.cons (by rfl) (.cons (by rfl) (.cons (by rfl) (.cons (by rfl) (.cons (by rfl) (.cons (by rfl) (.cons (by rfl) (.cons (by rfl) (.cons (by rfl) (.cons (by rfl) (.cons (by rfl) .nil)))))))))))))))))))))))))))))))))))))) (Nat.le_of_ble_eq_true (by kernel_rfl))

set_option maxHeartbeats 2000000 in
theorem ly1_n14_0 (pa pn px a n x ka kn kx : Int) (u ku : Bool) (A3 A4 A6 A7 : Abs) : CodeOk Try.prog 5 (subC [true, true, true, true, true, true] (bodyOf Try.f21)) (mkSt 107 [(1, .nv (.one (.ptr 1 0))), (4, .nv (.one (.ptr 2 5))), (5, .nv (.one (.ptr 5 0))), (6, .nv (.one (.ptr 1 0)))] [.gone, .box 55 [.val (.int .u32 (pa)), .val (.int .i64 (pn)), .val (.bool true), .val (.int .i64 (px)), .ptr 5 0, .val (.pointer none)], .box 55 [.val (.int .u32 (a)), .val (.int .i64 (n)), .val (.bool u), .val (.int .i64 (x)), .root 3 0 false, .ptr 5 0], .abs A3, .gone, .box 55 [.val (.int .u32 (ka)), .val (.int .i64 (kn)), .val (.bool ku), .val (.int .i64 (kx)), .root 6 0 false, .root 7 0 false], .abs A6, .abs A7]) .normal (mkSt 107 [] [.gone, .box 55 [.val (.int .u32 (pa)), .val (.int .i64 (pn)), .val (.bool true), .val (.int .i64 (px)), .ptr 5 0, .val (.pointer none)], .box 55 [.val (.int .u32 (a)), .val (.int .i64 (n)), .val (.bool u), .val (.int .i64 (x)), .root 3 0 false, .ptr 1 0], .abs A3, .gone, .box 55 [.val (.int .u32 (ka)), .val (.int .i64 (kn)), .val (.bool ku), .val (.int .i64 (kx)), .root 6 0 false, .root 7 0 false], .abs A6, .abs A7]) :=
  code_run Gt3_ok (orc := ⟨[], []⟩) (obl := [pa = pa,
      pn = pn,
      true = true,
      px = px,
      (0 : Nat) = (0 : Nat),
      Value.pointer none = Value.pointer none,
      a = a,
      n = n,
      u = u,
      x = x,
      (0 : Nat) = (0 : Nat),
      (0 : Nat) = (0 : Nat),
      A3 = A3,
      ka = ka,
      kn = kn,
      ku = ku,
      kx = kx,
      (0 : Nat) = (0 : Nat),
      (0 : Nat) = (0 : Nat),
      A6 = A6,
      A7 = A7]) (by kernel_rfl) (.cons (by rfl) (.cons (by rfl) (.cons (by rfl) (.cons (by rfl) (.cons (by rfl) (.cons (by rfl) (.cons (by rfl) (.cons (by rfl) (.cons (by rfl) (.cons (by rfl) (.cons (by rfl) (.cons (by rfl) (.cons (by rfl) (.cons (by rfl) (.cons (by rfl) (.cons (by rfl) (.cons (by rfl) (.cons (by rfl) (.cons (by rfl) (.cons (by rfl) (.cons (by rfl) .nil))))))))))))))))))))) (Nat.le_of_ble_eq_true (by kernel_rfl))

set_option maxHeartbeats 2000000 in
theorem ly1_12_1 (pa pn px a n x ka kn kx : Int) (u ku : Bool) (ca cn : Int) (A3 A4 A6 A7 : Abs) (ha : 0 ≤ pa) (ha2 : pa ≤ 4294967295) (hc0 : 0 ≤ cn) (hc31 : cn ≤ 31) (hj : sdN pa cn = 1) : CodeOk Try.prog 5 (subC [true, true, true, true, false, true, true, false, true] (bodyOf Try.f21)) (mkSt 107 [(1, .nv (.one (.ptr 1 0))), (4, .nv (.one (.ptr 2 5))), (5, .nv (.one (.ptr 5 0))), (6, .nv (.one (.ptr 9 0)))] [.gone, .box 55 [.val (.int .u32 (pa)), .val (.int .i64 (pn)), .val (.bool true), .val (.int .i64 (px)), .val (.pointer none), .val (.pointer none)], .box 55 [.val (.int .u32 (a)), .val (.int .i64 (n)), .val (.bool u), .val (.int .i64 (x)), .root 3 0 false, .ptr 5 0], .abs A3, .gone, .box 55 [.val (.int .u32 (ka)), .val (.int .i64 (kn)), .val (.bool ku), .val (.int .i64 (kx)), .root 6 0 false, .root 7 0 false], .abs A6, .abs A7, .gone, .box 55 [.val (.int .u32 (ca)), .val (.int .i64 (cn)), .val (.bool false), .val (.int .i64 (0)), .val (.pointer none), .val (.pointer none)]]) .normal (mkSt 107 [(1, .nv (.one (.ptr 1 0))), (4, .nv (.one (.ptr 2 5))), (5, .nv (.one (.ptr 5 0))), (6, .nv (.one (.ptr 9 0)))] [.gone, .box 55 [.val (.int .u32 (pa)), .val (.int .i64 (pn)), .val (.bool true), .val (.int .i64 (px)), .val (.pointer none), .val (.pointer none)], .box 55 [.val (.int .u32 (a)), .val (.int .i64 (n)), .val (.bool u), .val (.int .i64 (x)), .root 3 0 false, .ptr 5 0], .abs A3, .gone, .box 55 [.val (.int .u32 (ka)), .val (.int .i64 (kn)), .val (.bool ku), .val (.int .i64 (kx)), .root 6 0 false, .root 7 0 false], .abs A6, .abs A7, .gone, .box 55 [.val (.int .u32 (ca)), .val (.int .i64 (cn)), .val (.bool false), .val (.int .i64 (0)), .val (.pointer none), .ptr 1 0]]) :=
  code_run Gs1_ok (orc := ⟨[], []⟩) (obl := [(0 : Int) ≤ pa,
      pa ≤ (4294967295 : Int),
      (0 : Int) ≤ cn,
      cn ≤ (31 : Int),
      sdN pa cn = (1 : Int),
      (0 : Nat) = (0 : Nat),
      pa = pa,
      ca = ca,
      cn = cn,
      false = false,
      (0 : Int) = (0 : Int),
      (0 : Int) ≤ (1 : Int),
      (1 : Int) < (↑(2 : Nat) : Int),
      (0 : Nat) = (0 : Nat),
      (5 : Nat) = (5 : Nat),
      (0 : Nat) = (0 : Nat),
      (0 : Nat) = (0 : Nat),
      pa = pa,
      pn = pn,
      true = true,
      px = px,
      Value.pointer none = Value.pointer none,
      Value.pointer none = Value.pointer none,
      a = a,
      n = n,
      u = u,
      x = x,
      (0 : Nat) = (0 : Nat),
      (0 : Nat) = (0 : Nat),
      A3 = A3,
      ka = ka,
      kn = kn,
      ku = ku,
      kx = kx,
      (0 : Nat) = (0 : Nat),
      (0 : Nat) = (0 : Nat),
      A6 = A6,
      A7 = A7,
      ca = ca,
      cn = cn,
      false = false,
      (0 : Int) = (0 : Int),
      Value.pointer none = Value.pointer none,
      (0 : Nat) = (0 : Nat)]) (by kernel_rfl) (.cons (by assumption) (.cons (by assumption) (.cons (by assumption) (.cons (by assumption) (.cons (by assumption) (.cons (by rfl) (.cons (by rfl) (.cons (by rfl) (.cons (by rfl) (.cons (by rfl) (.cons (by rfl) (.cons (by trivial) (.cons (by trivial) (.cons (by rfl) (.cons (by rfl) (.cons (by rfl) (.cons (by rfl) (.cons (by rfl) (.cons (by rfl) (.cons (by rfl) (.cons (by rfl) (.cons (by rfl) (.cons (by rfl) (.cons (by rfl) (.cons (by rfl) (.cons (by rfl) (.cons (by rfl) (.cons (by rfl) (.cons (by rfl) (.cons (by rfl) (.cons (by rfl) (.cons (by rfl) (.cons (by rfl) (.cons (by rfl) (.cons (by rfl) (.cons (by rfl) (.cons (by rfl) (.cons (by rfl) (.cons (by rfl) (.cons (by rfl) (.cons (by rfl) (.cons (by rfl) (.cons (by rfl) (.cons (by rfl) .nil)))))))))))))))))))))))))))))))))))))))))))) (Nat.le_of_ble_eq_true (by kernel_rfl))

set_option maxHeartbeats 2000000 in
theorem ly1_13_1 (pa pn px a n x ka kn kx : Int) (u ku : Bool) (ca cn : Int) (A3 A4 A6 A7 : Abs) (hk : 0 ≤ ka) (hk2 : ka ≤ 4294967295) (hc0 : 0 ≤ cn) (hc31 : cn ≤ 31) (hj : sdN ka cn = 0) : CodeOk Try.prog 5 (subC [true, true, true, true, true, false] (bodyOf Try.f21)) (mkSt 107 [(1, .nv (.one (.ptr 1 0))), (4, .nv (.one (.ptr 2 5))), (5, .nv (.one (.ptr 5 0))), (6, .nv (.one (.ptr 9 0)))] [.gone, .box 55 [.val (.int .u32 (pa)), .val (.int .i64 (pn)), .val (.bool true), .val (.int .i64 (px)), .val (.pointer none), .val (.pointer none)], .box 55 [.val (.int .u32 (a)), .val (.int .i64 (n)), .val (.bool u), .val (.int .i64 (x)), .root 3 0 false, .ptr 5 0], .abs A3, .gone, .box 55 [.val (.int .u32 (ka)), .val (.int .i64 (kn)), .val (.bool ku), .val (.int .i64 (kx)), .root 6 0 false, .root 7 0 false], .abs A6, .abs A7, .gone, .box 55 [.val (.int .u32 (ca)), .val (.int .i64 (cn)), .val (.bool false), .val (.int .i64 (0)), .val (.pointer none), .ptr 1 0]]) .normal (mkSt 107 [(1, .nv (.one (.ptr 1 0))), (4, .nv (.one (.ptr 2 5))), (5, .nv (.one (.ptr 5 0))), (6, .nv (.one (.ptr 9 0)))] [.gone, .box 55 [.val (.int .u32 (pa)), .val (.int .i64 (pn)), .val (.bool true), .val (.int .i64 (px)), .val (.pointer none), .val (.pointer none)], .box 55 [.val (.int .u32 (a)), .val (.int .i64 (n)), .val (.bool u), .val (.int .i64 (x)), .root 3 0 false, .ptr 5 0], .abs A3, .gone, .box 55 [.val (.int .u32 (ka)), .val (.int .i64 (kn)), .val (.bool ku), .val (.int .i64 (kx)), .root 6 0 false, .root 7 0 false], .abs A6, .abs A7, .gone, .box 55 [.val (.int .u32 (ca)), .val (.int .i64 (cn)), .val (.bool false), .val (.int .i64 (0)), .ptr 5 0, .ptr 1 0]]) :=
  code_run Gs0_ok (orc := ⟨[], []⟩) (obl := [(0 : Int) ≤ ka,
      ka ≤ (4294967295 : Int),
      (0 : Int) ≤ cn,
      cn ≤ (31 : Int),
      sdN ka cn = (0 : Int),
      (0 : Nat) = (0 : Nat),
      ka = ka,
      ca = ca,
      cn = cn,
      false = false,
      (0 : Int) = (0 : Int),
      (0 : Int) ≤ (0 : Int),
      (0 : Int) < (↑(2 : Nat) : Int),
      (0 : Nat) = (0 : Nat),
      (5 : Nat) = (5 : Nat),
      (0 : Nat) = (0 : Nat),
      (0 : Nat) = (0 : Nat),
      pa = pa,
      pn = pn,
      true = true,
      px = px,
      Value.pointer none = Value.pointer none,
      Value.pointer none = Value.pointer none,
      a = a,
      n = n,
      u = u,
      x = x,
      (0 : Nat) = (0 : Nat),
      (0 : Nat) = (0 : Nat),
      A3 = A3,
      ka = ka,
      kn = kn,
      ku = ku,
      kx = kx,
      (0 : Nat) = (0 : Nat),
      (0 : Nat) = (0 : Nat),
      A6 = A6,
      A7 = A7,
      ca = ca,
      cn = cn,
      false = false,
      (0 : Int) = (0 : Int),
      (0 : Nat) = (0 : Nat),
      (0 : Nat) = (0 : Nat)]) (by kernel_rfl) (.cons (by assumption) (.cons (by assumption) (.cons (by assumption) (.cons (by assumption) (.cons (by assumption) (.cons (by rfl) (.cons (by rfl) (.cons (by rfl) (.cons (by rfl) (.cons (by rfl) (.cons (by rfl) (.cons (by trivial) (.cons (by trivial) (.cons (by rfl) (.cons (by rfl) (.cons (by rfl) (.cons (by rfl) (.cons (by rfl) (.cons (by rfl) (.cons (by rfl) (.cons (by rfl) (.cons (by rfl) (.cons (by rfl) (.cons (by rfl) (.cons (by rfl) (.cons (by rfl) (.cons (by rfl) (.cons (by rfl) (.cons (by rfl) (.cons (by rfl) (.cons (by rfl) (.cons (by rfl) (.cons (by rfl) (.cons (by rfl) (.cons (by rfl) (.cons (by rfl) (.cons (by rfl) (.cons (by rfl) (.cons (by rfl) (.cons (by rfl) (.cons (by rfl) (.cons (by rfl) (.cons (by rfl) (.cons (by rfl) .nil)))))))))))))))))))))))))))))))))))))))))))) (Nat.le_of_ble_eq_true (by kernel_rfl))

set_option maxHeartbeats 2000000 in
theorem ly1_14_1 (pa pn px a n x ka kn kx : Int) (u ku : Bool) (ca cn : Int) (A3 A4 A6 A7 : Abs) : CodeOk Try.prog 5 (subC [true, true, true, true, true, true] (bodyOf Try.f21)) (mkSt 107 [(1, .nv (.one (.ptr 1 0))), (4, .nv (.one (.ptr 2 5))), (5, .nv (.one (.ptr 5 0))), (6, .nv (.one (.ptr 9 0)))] [.gone, .box 55 [.val (.int .u32 (pa)), .val (.int .i64 (pn)), .val (.bool true), .val (.int .i64 (px)), .val (.pointer none), .val (.pointer none)], .box 55 [.val (.int .u32 (a)), .val (.int .i64 (n)), .val (.bool u), .val (.int .i64 (x)), .root 3 0 false, .ptr 5 0], .abs A3, .gone, .box 55 [.val (.int .u32 (ka)), .val (.int .i64 (kn)), .val (.bool ku), .val (.int .i64 (kx)), .root 6 0 false, .root 7 0 false], .abs A6, .abs A7, .gone, .box 55 [.val (.int .u32 (ca)), .val (.int .i64 (cn)), .val (.bool false), .val (.int .i64 (0)), .ptr 5 0, .ptr 1 0]]) .normal (mkSt 107 [] [.gone, .box 55 [.val (.int .u32 (pa)), .val (.int .i64 (pn)), .val (.bool true), .val (.int .i64 (px)), .val (.pointer none), .val (.pointer none)], .box 55 [.val (.int .u32 (a)), .val (.int .i64 (n)), .val (.bool u), .val (.int .i64 (x)), .root 3 0 false, .ptr 9 0], .abs A3, .gone, .box 55 [.val (.int .u32 (ka)), .val (.int .i64 (kn)), .val (.bool ku), .val (.int .i64 (kx)), .root 6 0 false, .root 7 0 false], .abs A6, .abs A7, .gone, .box 55 [.val (.int .u32 (ca)), .val (.int .i64 (cn)), .val (.bool false), .val (.int .i64 (0)), .ptr 5 0, .ptr 1 0]]) :=
  code_run Gt3_ok (orc := ⟨[], []⟩) (obl := [pa = pa,
      pn = pn,
      true = true,
      px = px,
      Value.pointer none = Value.pointer none,
      Value.pointer none = Value.pointer none,
      a = a,
      n = n,
      u = u,
      x = x,
      (0 : Nat) = (0 : Nat),
      (0 : Nat) = (0 : Nat),
      A3 = A3,
      ka = ka,
      kn = kn,
      ku = ku,
      kx = kx,
      (0 : Nat) = (0 : Nat),
      (0 : Nat) = (0 : Nat),
      A6 = A6,
      A7 = A7,
      ca = ca,
      cn = cn,
      false = false,
      (0 : Int) = (0 : Int),
      (0 : Nat) = (0 : Nat),
      (0 : Nat) = (0 : Nat)]) (by kernel_rfl) (.cons (by rfl) (.cons (by rfl) (.cons (by rfl) (.cons (by rfl) (.cons (by rfl) (.cons (by rfl) (.cons (by rfl) (.cons (by rfl) (.cons (by rfl) (.cons (by rfl) (.cons (by rfl) (.cons (by rfl) (.cons (by rfl) (.cons (by rfl) (.cons (by rfl) (.cons (by rfl) (.cons (by rfl) (.cons (by rfl) (.cons (by rfl) (.cons (by rfl) (.cons (by rfl) (.cons (by rfl) (.cons (by rfl) (.cons (by rfl) (.cons (by rfl) (.cons (by rfl) (.cons (by rfl) .nil))))))))))))))))))))))))))) (Nat.le_of_ble_eq_true (by kernel_rfl))

set_option maxHeartbeats 2000000 in
theorem ly1_n13_1 (pa pn px a n x ka kn kx : Int) (u ku : Bool) (ca cn : Int) (A3 A4 A6 A7 : Abs) (hk : 0 ≤ ka) (hk2 : ka ≤ 4294967295) (hc0 : 0 ≤ pn) (hc31 : pn ≤ 31) (hj : sdN ka pn = 1) : CodeOk Try.prog 5 (subC [true, true, true, true, true, false] (bodyOf Try.f21)) (mkSt 107 [(1, .nv (.one (.ptr 1 0))), (4, .nv (.one (.ptr 2 5))), (5, .nv (.one (.ptr 5 0))), (6, .nv (.one (.ptr 1 0))), (7, .nv (.one (.ptr 8 0))), (76, bA false)] [.gone, .box 55 [.val (.int .u32 (pa)), .val (.int .i64 (pn)), .val (.bool true), .val (.int .i64 (px)), .val (.pointer none), .val (.pointer none)], .box 55 [.val (.int .u32 (a)), .val (.int .i64 (n)), .val (.bool u), .val (.int .i64 (x)), .root 3 0 false, .ptr 5 0], .abs A3, .gone, .box 55 [.val (.int .u32 (ka)), .val (.int .i64 (kn)), .val (.bool ku), .val (.int .i64 (kx)), .root 6 0 false, .root 7 0 false], .abs A6, .abs A7, .box 28 [.val (.int .u32 ca), .val (.int .i64 cn)]]) .normal (mkSt 107 [(1, .nv (.one (.ptr 1 0))), (4, .nv (.one (.ptr 2 5))), (5, .nv (.one (.ptr 5 0))), (6, .nv (.one (.ptr 1 0)))] [.gone, .box 55 [.val (.int .u32 (pa)), .val (.int .i64 (pn)), .val (.bool true), .val (.int .i64 (px)), .val (.pointer none), .ptr 5 0], .box 55 [.val (.int .u32 (a)), .val (.int .i64 (n)), .val (.bool u), .val (.int .i64 (x)), .root 3 0 false, .ptr 5 0], .abs A3, .gone, .box 55 [.val (.int .u32 (ka)), .val (.int .i64 (kn)), .val (.bool ku), .val (.int .i64 (kx)), .root 6 0 false, .root 7 0 false], .abs A6, .abs A7]) :=
  code_run Gs1_ok (orc := ⟨[], []⟩) (obl := [(0 : Int) ≤ ka,
      ka ≤ (4294967295 : Int),
      (0 : Int) ≤ pn,
      pn ≤ (31 : Int),
      sdN ka pn = (1 : Int),
      (0 : Nat) = (0 : Nat),
      ka = ka,
      pa = pa,
      pn = pn,
      true = true,
      px = px,
      (0 : Int) ≤ (1 : Int),
      (1 : Int) < (↑(2 : Nat) : Int),
      (0 : Nat) = (0 : Nat),
      (5 : Nat) = (5 : Nat),
      (0 : Nat) = (0 : Nat),
      (0 : Nat) = (0 : Nat),
      pa = pa,
      pn = pn,
      true = true,
      px = px,
      Value.pointer none = Value.pointer none,
      (0 : Nat) = (0 : Nat),
      a = a,
      n = n,
      u = u,
      x = x,
      (0 : Nat) = (0 : Nat),
      (0 : Nat) = (0 : Nat),
      A3 = A3,
      ka = ka,
      kn = kn,
      ku = ku,
      kx = kx,
      (0 : Nat) = (0 : Nat),
      (0 : Nat) = (0 : Nat),
      A6 = A6,
      A7 = A7]) (by kernel_rfl) (.cons (by assumption) (.cons (by assumption) (.cons (by assumption) (.cons (by assumption) (.cons (by assumption) (.cons (by rfl) (.cons (by rfl) (.cons (by rfl) (.cons (by rfl) (.cons (by rfl) (.cons (by rfl) (.cons (by trivial) (.cons (by trivial) (.cons (by rfl) (.cons (by rfl) (.cons (by rfl) (.cons (by rfl) (.cons (by rfl) (.cons (by rfl) (.cons (by rfl) (.cons (by rfl) (.cons (by rfl) (.cons (by rfl) (.cons (by rfl) (.cons (by rfl) (.cons (by rfl) (.cons (by rfl) (.cons (by rfl) (.cons (by rfl) (.cons (by rfl) (.cons (by rfl) (.cons (by rfl) (.cons (by rfl) (.cons (by rfl) (.cons (by rfl) (.cons (by rfl) (.cons (by rfl) (.cons (by rfl) .nil)))))))))))))))))))))))))))))))))))))) (Nat.le_of_ble_eq_true (by kernel_rfl))

set_option maxHeartbeats 2000000 in
theorem ly1_n14_1 (pa pn px a n x ka kn kx : Int) (u ku : Bool) (A3 A4 A6 A7 : Abs) : CodeOk Try.prog 5 (subC [true, true, true, true, true, true] (bodyOf Try.f21)) (mkSt 107 [(1, .nv (.one (.ptr 1 0))), (4, .nv (.one (.ptr 2 5))), (5, .nv (.one (.ptr 5 0))), (6, .nv (.one (.ptr 1 0)))] [.gone, .box 55 [.val (.int .u32 (pa)), .val (.int .i64 (pn)), .val (.bool true), .val (.int .i64 (px)), .val (.pointer none), .ptr 5 0], .box 55 [.val (.int .u32 (a)), .val (.int .i64 (n)), .val (.bool u), .val (.int .i64 (x)), .root 3 0 false, .ptr 5 0], .abs A3, .gone, .box 55 [.val (.int .u32 (ka)), .val (.int .i64 (kn)), .val (.bool ku), .val (.int .i64 (kx)), .root 6 0 false, .root 7 0 false], .abs A6, .abs A7]) .normal (mkSt 107 [] [.gone, .box 55 [.val (.int .u32 (pa)), .val (.int .i64 (pn)), .val (.bool true), .val (.int .i64 (px)), .val (.pointer none), .ptr 5 0], .box 55 [.val (.int .u32 (a)), .val (.int .i64 (n)), .val (.bool u), .val (.int .i64 (x)), .root 3 0 false, .ptr 1 0], .abs A3, .gone, .box 55 [.val (.int .u32 (ka)), .val (.int .i64 (kn)), .val (.bool ku), .val (.int .i64 (kx)), .root 6 0 false, .root 7 0 false], .abs A6, .abs A7]) :=
  code_run Gt3_ok (orc := ⟨[], []⟩) (obl := [pa = pa,
      pn = pn,
      true = true,
      px = px,
      Value.pointer none = Value.pointer none,
      (0 : Nat) = (0 : Nat),
      a = a,
      n = n,
      u = u,
      x = x,
      (0 : Nat) = (0 : Nat),
      (0 : Nat) = (0 : Nat),
      A3 = A3,
      ka = ka,
      kn = kn,
      ku = ku,
      kx = kx,
      (0 : Nat) = (0 : Nat),
      (0 : Nat) = (0 : Nat),
      A6 = A6,
      A7 = A7]) (by kernel_rfl) (.cons (by rfl) (.cons (by rfl) (.cons (by rfl) (.cons (by rfl) (.cons (by rfl) (.cons (by rfl) (.cons (by rfl) (.cons (by rfl) (.cons (by rfl) (.cons (by rfl) (.cons (by rfl) (.cons (by rfl) (.cons (by rfl) (.cons (by rfl) (.cons (by rfl) (.cons (by rfl) (.cons (by rfl) (.cons (by rfl) (.cons (by rfl) (.cons (by rfl) (.cons (by rfl) .nil))))))))))))))))))))) (Nat.le_of_ble_eq_true (by kernel_rfl))
end Go.Proofs.Ytfienpkogkepkaa

/- trie: lay's frame. No condition. -/
namespace Go.Proofs.Ytfienpkogkepkaa
set_option linter.unusedVariables false
set_option linter.unusedSimpArgs false
open Go.RowKit E
def lyTm : List SV := [.nv (.one (.root 0 0 true)), .nv (.one (.ptr 1 0))] ++ List.replicate 105 .any
def lyS (pa pn px a n : Int) (u : Bool) (x : Int) (c d : At) (l r : PT) : E.St := mkSt 107 [(0, .nv (.one (.ptr 2 0))), (1, .nv (.one (.ptr 1 0)))] [.gone, nwS pa pn px, .box tNd (ndA a n u x c d), .abs (TA none l), .abs (TA none r)]
theorem leSeg_abs {ρ : List (Nat × Bd)} {m : Nat} {A : Abs} : AllT (leSeg ρ m (.abs A) (.abs A)) := ⟨rfl, trivial⟩
set_option maxRecDepth 100000 in
theorem ly_frame {pa pn px a n : Int} {u : Bool} {x : Int} {l r l' r' : PT} (v : Value) {e : Ex} (he : e = .ret ∨ e = .normal) {M : List Seg} {cl cr : At} {ol orr : Option Nat}
    (hc : CodeOk Try.prog 5 (bodyOf Try.f21) (lyS pa pn px a n u x (.root 3 0 false) (.root 4 0 false) l r) e (mkSt 107 [] M)) (hb : M[2]? = some (.box tNd (ndA a n u x cl cr))) (hl : KidAt M cl l' ol) (hr : KidAt M cr r' orr) (h1 : ol ≠ some 2) (h2 : orr ≠ some 2) (h3 : ∀ i, ol = some i → orr ≠ some i) :
    FnOk Try.prog 21 [.nv (.one (.root 0 0 true)), .nv (.one (.ptr 1 0))] [.abs (TA (some v) (.node a n u x l r)), nwS pa pn px] (.tup []) [.gone, .gone, .abs (TA (some v) (.node a n u x l' r'))] := by
  have key : CodeOk Try.prog 2 (bodyOf Try.f21) ⟨lyTm, [.abs (TA (some v) (.node a n u x l r)), nwS pa pn px]⟩ e ⟨List.replicate 107 .any, [.gone, .gone, .abs (TA (some v) (.node a n u x l' r'))]⟩ := by
    refine CodeOk.rebase (m1 := 5) (st1 := lyS pa pn px a n u x (.root 3 0 false) (.root 4 0 false) l r) (Q := fun env1 => env1 2 = some v) ?_ (by omega) (Nat.le_refl 5) hc ?_
    · intro cx env act w hm0 hk
      obtain ⟨b, vals, h0, hp, k⟩ := open_ok (h := 0) (pin := some v) hk rfl
      refine ⟨_, ?_, k⟩
      have := extE_ge (env := env) (m := 2) (vals := vals) 0
      rw [Nat.add_zero] at this
      show extE env 2 vals 2 = some v
      rw [this, h0, hp v rfl]
    · intro cx env1 env2 act w hm0 q hf hk
      obtain ⟨b, F, e1, hM⟩ := shut_mem hk.mem hb hl hr h1 h2 h3
      have hv : v = pB b := by
        rcases hf 2 (by omega) with z | z
        · rw [e1] at z; cases z
        · rw [e1, q] at z; exact (Option.some.inj z).symm
      have hM := hM (some v) (fun u hu => by cases hu; exact hv)
      have hlt : 2 < M.length := (List.getElem?_eq_some_iff.1 hb).1
      have hlen : (mkSt 107 [] M).mem.length = M.length := rfl
      have m2 := leMem_sound (ρ := [(0, .same 0), (1, .same 1), (2, .same M.length)]) (m := 3) (ys := [.gone, .gone, .abs (TA (some v) (.node a n u x l' r'))]) hM rfl (by
        refine leMem_mk fun h s hs => ?_
        match h, hs with
        | 0, hs => cases hs; exact leEntry_gone
        | 1, hs => cases hs; exact leEntry_gone
        | 2, hs =>
          cases hs
          have hg : (dropAll (mkSt 107 [] M).mem (clH 2 ol orr) ++ [Seg.abs (TA (some v) (.node a n u x l' r'))])[M.length]? = some (.abs (TA (some v) (.node a n u x l' r'))) := by
            rw [List.getElem?_append_right (by rw [dropAll_len, hlen]; exact Nat.le_refl _), dropAll_len, hlen, Nat.sub_self]; rfl
          show AllT (match (dropAll (mkSt 107 [] M).mem (clH 2 ol orr) ++ [Seg.abs (TA (some v) (.node a n u x l' r'))])[M.length]? with | some x => leSeg _ 3 x _ | none => _)
          rw [hg]
          exact leSeg_abs) rfl
      refine ⟨_, hk.defers, ?_, m2, by rw [hm0]; simp, fun j hj => ?_⟩
      · have ht : AllSV env2 (List.replicate 107 .any) act.tmps.toList := hk.tm
        have := ht.length
        have h4 := AllSV.anys (env := env2) act.tmps.toList
        have e3 : act.tmps.toList.length = 107 := by simpa using this.symm
        have h5 := AllSV.anys (env := (extE env2 (mkSt 107 [] M).mem.length [.tuple (trV (pB b) F)]).cutR [(0, .same 0), (1, .same 1), (2, .same M.length)] 3) act.tmps.toList
        rw [e3] at h5
        exact h5
      · rw [hm0] at hj
        match j, hj with
        | 0, _ =>
          rw [Env.cutR_lt (i := 0) rfl (by omega), extE_lt (by rw [hlen]; omega)]
          exact hk.fix 0 (by rw [hm0]; omega)
        | 1, _ =>
          rw [Env.cutR_lt (i := 1) rfl (by omega), extE_lt (by rw [hlen]; omega)]
          exact hk.fix 1 (by rw [hm0]; omega)
  exact fn_of_code (c := bodyOf Try.f21) (tm := lyTm) (r := .tup []) (o := []) Try.func21 (by kernel_rfl) (by kernel_rfl) key he (by kernel_rfl) trivial
/-- The same as shutV_tran, the address told. -/
theorem shutB_tran {m0 : Nat} {tm : List SV} {mem : List Seg} {k : Nat} {a n : Int} {u : Bool} {x : Int} {cl cr : At} {l r : PT} {ol orr : Option Nat} (hb : mem[k]? = some (.box tNd (ndA a n u x cl cr))) (hl : KidAt mem cl l ol) (hr : KidAt mem cr r orr) (h1 : ol ≠ some k) (h2 : orr ≠ some k) (h3 : ∀ i, ol = some i → orr ≠ some i) :
    TranE m0 ⟨tm, mem⟩ (fun b : Nat => ⟨tm.map (SV.map (clA k mem.length)), (dropAll mem (clH k ol orr) ++ [Seg.abs (TA (some (pB b)) (.node a n u x l r))]).map (Seg.map (clV k (pB b)))⟩) := fun cx env act w _ hk => by
  obtain ⟨b, F, e1, hM⟩ := shut_mem hk.mem hb hl hr h1 h2 h3
  have hlt : k < mem.length := (List.getElem?_eq_some_iff.1 hb).1
  have k2 := ok_ext hk (hM (some (pB b)) (fun v hv => (Option.some.inj hv).symm)) (by simp [dropAll_len])
  have e0 := extE_ge (env := env) (m := mem.length) (vals := [.tuple (trV (pB b) F)]) 0
  rw [Nat.add_zero] at e0
  have ek : extE env mem.length [.tuple (trV (pB b) F)] k = some (pB b) := by rw [extE_lt hlt]; exact e1
  have m1 := ok_map (clA_ok e0 rfl ek) k2
  have m2 := ok_map (clV_ok ek) k2
  exact ⟨b, _, m1.defers, m1.tm, m2.mem, m2.long, m2.fix⟩
theorem E.TranE.eq {β : Type} {m0 : Nat} {x : E.St} {y z : β → E.St} (h : TranE m0 x y) (e : ∀ b, y b = z b) : TranE m0 x z := fun cx env a w hm hk => by
  obtain ⟨b, e1, h1⟩ := h cx env a w hm hk
  exact ⟨b, e1, e b ▸ h1⟩
noncomputable abbrev lyC (p : List Bool) : Code := subC p (bodyOf Try.f21)
set_option maxRecDepth 100000 in
theorem ly_body : bodyOf Try.f21 = .seq (lyC [false]) (.seq (lyC [true, false]) (.seq (.block 0 (.seq (lyC [true, true, false, true, false]) (.cond (.tmp 22) (lyC [true, true, false, true, true, false]) (.seq (lyC [true, true, false, true, true, true, false]) (.cond (.tmp 28) (lyC [true, true, false, true, true, true, true, false]) (.seq (lyC [true, true, false, true, true, true, true, true, false]) (.cond (.tmp 48) (lyC [true, true, false, true, true, true, true, true, true, false]) .skip)))))))
  (.seq (lyC [true, true, true, false]) (.seq (.seq (lyC [true, true, true, true, false, false]) (.seq (lyC [true, true, true, true, false, true, false]) (.cond (.tmp 76) (.seq (lyC [true, true, true, true, false, true, true, false, false]) (lyC [true, true, true, true, false, true, true, false, true])) .skip))) (.seq (lyC [true, true, true, true, true, false]) (lyC [true, true, true, true, true, true])))))) := by kernel_rfl
end Go.Proofs.Ytfienpkogkepkaa

/- trie: lay. No condition. -/
namespace Go.Proofs.Ytfienpkogkepkaa
set_option linter.unusedVariables false
set_option linter.unusedSimpArgs false
open Go.RowKit E
theorem E.TranE.tran {β : Type} {m0 : Nat} {x : E.St} {y z : β → E.St} (h : TranE m0 x y) (k : ∀ b, Tran m0 (y b) (z b)) : TranE m0 x z := fun cx env a w hm hk => by
  obtain ⟨b, e1, h1⟩ := h cx env a w hm hk
  exact ⟨b, k b cx e1 a w hm h1⟩
theorem E.MemOk.reSeg {env : Env} {mem : List Seg} {w0 w : World} {S : Nat → Prop} (h : MemOk env mem w0 w S) {k : Nat} {s s' : Seg} (hs : mem[k]? = some s) (ho : SegOk env w k s') (hx : s'.excl = true → s.excl = true) (hl : s'.live → s.live) : MemOk env (mem.set k s') w0 w S := by
  have hlt : k < mem.length := (List.getElem?_eq_some_iff.1 hs).1
  have get : ∀ (j : Nat) t, (mem.set k s')[j]? = some t → ∃ t0, mem[j]? = some t0 ∧ (t.excl = true → t0.excl = true) ∧ (t.live → t0.live) ∧ SegOk env w j t := fun j t hj => by
    by_cases e : j = k
    · subst e
      rw [List.getElem?_set_self hlt] at hj
      cases hj
      exact ⟨s, hs, hx, hl, ho⟩
    · rw [List.getElem?_set_ne (Ne.symm e)] at hj
      exact ⟨t, hj, id, id, h.ok j t hj⟩
  refine ⟨fun j t hj => (get j t hj).choose_spec.2.2.2, fun j hj => h.top j (by simpa using hj), fun j i t u b hj hi hne q r => ?_, fun j t b hj q => ?_, h.os, h.tape, h.output, h.grow, h.frame⟩
  · obtain ⟨t0, h1, h2, _, _⟩ := get j t hj
    obtain ⟨u0, h3, _, h4, _⟩ := get i u hi
    exact h.sep j i t0 u0 b h1 h3 hne (h2 q) (h4 r)
  · obtain ⟨t0, h1, h2, _, _⟩ := get j t hj
    exact h.own j t0 b h1 (h2 q)
/-- A tree's address, told by its handle again. -/
theorem unpin_tran {m0 : Nat} {tm : List SV} {mem : List Seg} {i h : Nat} {v : Value} {t : PT} {a n : Int} {u : Bool} {x : Int} {c c' d d' : At} (h1 : mem[i]? = some (.box tNd (ndA a n u x c d))) (h2 : mem[h]? = some (.abs (TA (some v) t))) (hne : i ≠ h)
    (hc : c' = c ∨ c = .val v ∧ c' = .root h 0 false) (hd : d' = d ∨ d = .val v ∧ d' = .root h 0 false) : Tran m0 ⟨tm, mem⟩ ⟨tm, (mem.set i (.box tNd (ndA a n u x c' d'))).set h (.abs (TA none t))⟩ := fun cx env act w _ hk => by
  obtain ⟨vs, e1, v', F, rfl, ht, hp⟩ := hk.mem.ok h _ h2
  have hv := hp v rfl
  subst hv
  obtain ⟨ao, hao⟩ := pB_of ht
  have rel : ∀ {c c' : At}, (c' = c ∨ c = .val v' ∧ c' = .root h 0 false) → ∀ z : Value, c.rel env z → c'.rel env z := by
    rintro c c' (rfl | ⟨rfl, rfl⟩) z hz
    · exact hz
    · have hz : z = v' := hz
      subst hz
      exact ⟨_, ao, e1, by rw [trV_0, hao], hao, fun e => by cases e⟩
  obtain ⟨b, cs, q1, q2, q3⟩ := hk.mem.ok i _ h1
  have m1 := MemOk.reSeg hk.mem (s' := .box tNd (ndA a n u x c' d')) h1 ⟨b, cs, q1, q2, by
    match cs, q3 with
    | ⟨[p1, p2, p3, p4, vl, vr]⟩, ⟨g1, g2, g3, g4, g5, g6, g7⟩ => exact ⟨g1, g2, g3, g4, rel hc _ g5, rel hd _ g6, g7⟩⟩ id id
  have m2 := MemOk.reSeg m1 (k := h) (s := .abs (TA (some v') t)) (s' := .abs (TA none t)) (by rw [List.getElem?_set_ne hne]; exact h2) ⟨_, e1, v', F, rfl, ht, fun u hu => by cases hu⟩ id id
  exact ⟨env, hk.defers, hk.tm, m2, by simpa using hk.long, hk.fix⟩
abbrev zP : At := .val (.pointer none)
abbrev tN (A : PT) : Seg := .abs (TA none A)
set_option maxRecDepth 100000 in
theorem lyN0 {pa pn px a n : Int} {u : Bool} {x : Int} {o : PT} (v : Value) (ha : 0 ≤ pa ∧ pa ≤ 4294967295) (hp : 0 ≤ pn) (hn : 0 ≤ n ∧ n ≤ 31) (hs : sdN pa n = 0) : FnOk Try.prog 21 [.nv (.one (.root 0 0 true)), .nv (.one (.ptr 1 0))] [.abs (TA (some v) (.node a n u x .nil o)), nwS pa pn px] (.tup []) [.gone, .gone, .abs (TA (some v) (.node a n u x (nwT pa pn px) o))] := by
  have h1 : Tran 5 (lyS pa pn px a n u x (.root 3 0 false) (.root 4 0 false) .nil o) (lyS pa pn px a n u x zP (.root 4 0 false) .nil o) := (nil_tran (h := 3) (pin := none) (.inl rfl)).eq (by kernel_rfl)
  have h2 := ly0_nil pa pn px a n x 0 0 0 u false (TA none .nil) (TA none o) (TA none .nil) (TA none .nil) ha.1 ha.2 hn.1 hn.2 hs
  have h3 := CodeOk.post (CodeOk.pre h1 h2) ((shut_tran (k := 1) (cl := zP) (cr := zP) (l := .nil) (r := .nil) (ol := none) (orr := none) rfl ⟨rfl, rfl⟩ ⟨rfl, rfl⟩ (by simp) (by simp) (by simp)).eq (z := mkSt 107 [] [.gone, .gone, .box tNd (ndA a n u x (.root 5 0 true) (.root 4 0 false)), tN .nil, tN o, tN (nwT pa pn px)]) (by kernel_rfl))
  exact ly_frame v (.inl rfl) (M := [.gone, .gone, .box tNd (ndA a n u x (.root 5 0 true) (.root 4 0 false)), tN .nil, tN o, tN (nwT pa pn px)]) (ol := some 5) (orr := some 4) h3 rfl (⟨none, rfl, .inl ⟨true, rfl⟩⟩) (⟨none, rfl, .inl ⟨false, rfl⟩⟩) (by simp) (by simp) (by simp)
set_option maxRecDepth 100000 in
theorem lyO0 {pa pn px a n : Int} {u : Bool} {x : Int} {o : PT} {ka kn : Int} {ku : Bool} {kx : Int} {kl kr : PT} : Tran 5 (lyS pa pn px a n u x (.root 3 0 false) (.root 4 0 false) (.node ka kn ku kx kl kr) o) (mkSt 107 [(0, .nv (.one (.ptr 2 0))), (1, .nv (.one (.ptr 1 0)))] [.gone, nwS pa pn px, .box tNd (ndA a n u x (.ptr 5 0) (.root 4 0 false)), .gone, tN o, .box tNd (ndA ka kn ku kx (.root 6 0 false) (.root 7 0 false)), tN kl, tN kr]) := (open_tran (h := 3) (pin := none) rfl).eq (by kernel_rfl)
set_option maxRecDepth 100000 in
theorem lyE0 {pa pn px a n : Int} {u : Bool} {x : Int} {o : PT} {ka kn : Int} {ku : Bool} {kx : Int} {kl kr : PT} (v : Value) (ha : 0 ≤ pa ∧ pa ≤ 4294967295) (hp : 0 ≤ pn) (hn : 0 ≤ n ∧ n ≤ 31) (hs : sdN pa n = 0) (hk : 0 ≤ ka ∧ ka ≤ 4294967295) (he : ka = pa ∧ kn = pn) : FnOk Try.prog 21 [.nv (.one (.root 0 0 true)), .nv (.one (.ptr 1 0))] [.abs (TA (some v) (.node a n u x (.node ka kn ku kx kl kr) o)), nwS pa pn px] (.tup []) [.gone, .gone, .abs (TA (some v) (.node a n u x (.node ka kn true px kl kr) o))] := by
  have h2 := ly0_eq pa pn px a n x ka kn kx u ku (TA none .nil) (TA none o) (TA none kl) (TA none kr) ha.1 ha.2 hn.1 hn.2 hk.1 hk.2 hs (by simp [he])
  have h3 := CodeOk.post (CodeOk.pre lyO0 h2) ((shut_tran (k := 5) (cl := .root 6 0 false) (cr := .root 7 0 false) (l := kl) (r := kr) (ol := some 6) (orr := some 7) rfl (⟨none, rfl, .inl ⟨false, rfl⟩⟩) (⟨none, rfl, .inl ⟨false, rfl⟩⟩) (by simp) (by simp) (by simp)).eq (z := mkSt 107 [] [.gone, nwS pa pn px, .box tNd (ndA a n u x (.root 8 0 true) (.root 4 0 false)), .gone, tN o, .gone, .gone, .gone, tN (.node ka kn true px kl kr)]) (by kernel_rfl))
  exact ly_frame v (.inl rfl) (M := [.gone, nwS pa pn px, .box tNd (ndA a n u x (.root 8 0 true) (.root 4 0 false)), .gone, tN o, .gone, .gone, .gone, tN (.node ka kn true px kl kr)]) (ol := some 8) (orr := some 4) h3 rfl (⟨none, rfl, .inl ⟨true, rfl⟩⟩) (⟨none, rfl, .inl ⟨false, rfl⟩⟩) (by simp) (by simp) (by simp)
theorem lyX0 {pa pn px a n : Int} {u : Bool} {x : Int} {o : PT} {ka kn : Int} {ku : Bool} {kx : Int} {kl kr : PT} {e : Ex} {st : E.St} (ha : 0 ≤ pa ∧ pa ≤ 4294967295) (hp : 0 ≤ pn) (hn : 0 ≤ n ∧ n ≤ 31) (hs : sdN pa n = 0) (hk : 0 ≤ ka ∧ ka ≤ 4294967295) (he : ¬ (ka = pa ∧ kn = pn)) {b : Bool} (hb : covB ka kn pa pn = b) {y : Code}
    (h : CodeOk Try.prog 5 (if b then lyC [true, true, false, true, true, true, true, true, true, false] else .skip) (mkSt 107 [(1, .nv (.one (.ptr 1 0))), (4, .nv (.one (.ptr 2 4))), (5, .nv (.one (.ptr 5 0))), (48, bA b)] [.gone, nwS pa pn px, .box tNd (ndA a n u x (.ptr 5 0) (.root 4 0 false)), .gone, tN o, .box tNd (ndA ka kn ku kx (.root 6 0 false) (.root 7 0 false)), tN kl, tN kr]) e st) :
    CodeOk Try.prog 5 (.seq (lyC [true, true, false, true, false]) (.cond (.tmp 22) (lyC [true, true, false, true, true, false]) (.seq (lyC [true, true, false, true, true, true, false]) (.cond (.tmp 28) (lyC [true, true, false, true, true, true, true, false]) (.seq (lyC [true, true, false, true, true, true, true, true, false]) (.cond (.tmp 48) (lyC [true, true, false, true, true, true, true, true, true, false]) .skip)))))) (mkSt 107 [(1, .nv (.one (.ptr 1 0))), (4, .nv (.one (.ptr 2 4))), (5, .nv (.one (.ptr 5 0)))] [.gone, nwS pa pn px, .box tNd (ndA a n u x (.ptr 5 0) (.root 4 0 false)), .gone, tN o, .box tNd (ndA ka kn ku kx (.root 6 0 false) (.root 7 0 false)), tN kl, tN kr]) e st := by
  have he : (ka == pa && (kn == pn && true)) = false := by
    rw [Bool.eq_false_iff]; simp; exact fun e1 e2 => he ⟨e1, e2⟩
  refine CodeOk.seq (ly0_2 pa pn px a n x ka kn kx u ku (TA none .nil) (TA none o) (TA none kl) (TA none kr)) (CodeOk.cond (t := false) (.inl rfl) ?_)
  refine CodeOk.seq (ly0_4 pa pn px a n x ka kn kx u ku (TA none .nil) (TA none o) (TA none kl) (TA none kr) he) (CodeOk.cond (t := false) (.inl rfl) ?_)
  refine CodeOk.seq (ly0_6 pa pn px a n x ka kn kx u ku (TA none .nil) (TA none o) (TA none kl) (TA none kr) b ha.1 ha.2 hk.1 hk.2 hb) (CodeOk.cond (t := b) (.inl rfl) h)
set_option maxRecDepth 100000 in
theorem lyC0 {pa pn px a n : Int} {u : Bool} {x : Int} {o : PT} {ka kn : Int} {ku : Bool} {kx : Int} {kl kr : PT} (v : Value) (ha : 0 ≤ pa ∧ pa ≤ 4294967295) (hp : 0 ≤ pn) (hn : 0 ≤ n ∧ n ≤ 31) (hs : sdN pa n = 0) (hk : 0 ≤ ka ∧ ka ≤ 4294967295) (he : ¬ (ka = pa ∧ kn = pn)) (hb : covB ka kn pa pn = true) (ih : LyIh pa pn px (.node ka kn ku kx kl kr)) (hok : LyOk pa pn (.node ka kn ku kx kl kr)) : FnOk Try.prog 21 [.nv (.one (.root 0 0 true)), .nv (.one (.ptr 1 0))] [.abs (TA (some v) (.node a n u x (.node ka kn ku kx kl kr) o)), nwS pa pn px] (.tup []) [.gone, .gone, .abs (TA (some v) (.node a n u x (layP pa pn px (.node ka kn ku kx kl kr)) o))] := by
  have h7 : CodeOk Try.prog 5 (lyC [true, true, false, true, true, true, true, true, true, false]) (mkSt 107 [(1, .nv (.one (.ptr 1 0))), (4, .nv (.one (.ptr 2 4))), (5, .nv (.one (.ptr 5 0))), (48, bA true)] [.gone, nwS pa pn px, .box tNd (ndA a n u x (.ptr 5 0) (.root 4 0 false)), .gone, tN o, .box tNd (ndA ka kn ku kx (.root 6 0 false) (.root 7 0 false)), tN kl, tN kr]) .ret (mkSt 107 [] [.gone, .gone, .box tNd (ndA a n u x (.root 9 0 false) (.root 4 0 false)), .gone, tN o, .gone, .gone, .gone, .gone, tN (layP pa pn px (.node ka kn ku kx kl kr))]) := by
    refine CodeOk.preE (s1 := fun b : Nat => mkSt 107 [(1, .nv (.one (.ptr 1 0))), (4, .nv (.one (.ptr 2 4))), (5, .nv (.one (.root 8 0 true))), (48, bA true)] [.gone, nwS pa pn px, .box tNd (ndA a n u x (.val (pB b)) (.root 4 0 false)), .gone, tN o, .gone, .gone, .gone, .abs (TA (some (pB b)) (.node ka kn ku kx kl kr))]) ((shutB_tran (k := 5) (cl := .root 6 0 false) (cr := .root 7 0 false) (l := kl) (r := kr) (ol := some 6) (orr := some 7) rfl (⟨none, rfl, .inl ⟨false, rfl⟩⟩) (⟨none, rfl, .inl ⟨false, rfl⟩⟩) (by simp) (by simp) (by simp)).eq (fun b => by kernel_rfl)) (fun b => ?_)
    exact CodeOk.post (ly0_7 ⟨pa, pn, px, some ⟨b, 0, none⟩, (.node ka kn ku kx kl kr)⟩ ih a n x u (TA none .nil) (TA none o) hok) (unpin_tran (i := 2) (h := 9) rfl rfl (by simp) (.inr ⟨rfl, rfl⟩) (.inl rfl))
  have h3 : CodeOk Try.prog 5 (bodyOf Try.f21) (lyS pa pn px a n u x (.root 3 0 false) (.root 4 0 false) (.node ka kn ku kx kl kr) o) .ret (mkSt 107 [] [.gone, .gone, .box tNd (ndA a n u x (.root 9 0 false) (.root 4 0 false)), .gone, tN o, .gone, .gone, .gone, .gone, tN (layP pa pn px (.node ka kn ku kx kl kr))]) := by
    rw [ly_body]
    exact CodeOk.pre lyO0 (CodeOk.seq (ly0_0 pa pn px a n x ka kn kx u ku (TA none .nil) (TA none o) (TA none kl) (TA none kr) ha.1 ha.2 hn.1 hn.2 hs) (CodeOk.seq (ly0_1 pa pn px a n x ka kn kx u ku (TA none .nil) (TA none o) (TA none kl) (TA none kr)) (CodeOk.seqX (by simp) (CodeOk.block (lyX0 (y := .skip) ha hp hn hs hk he hb h7) (by simp)))))
  exact ly_frame v (.inl rfl) (M := [.gone, .gone, .box tNd (ndA a n u x (.root 9 0 false) (.root 4 0 false)), .gone, tN o, .gone, .gone, .gone, .gone, tN (layP pa pn px (.node ka kn ku kx kl kr))]) (ol := some 9) (orr := some 4) h3 rfl (⟨none, rfl, .inl ⟨false, rfl⟩⟩) (⟨none, rfl, .inl ⟨false, rfl⟩⟩) (by simp) (by simp) (by simp)
set_option maxRecDepth 100000 in
theorem lyF0_0 {pa pn px a n : Int} {u : Bool} {x : Int} {o : PT} {ka kn : Int} {ku : Bool} {kx : Int} {kl kr : PT} (v : Value) (ha : 0 ≤ pa ∧ pa ≤ 4294967295) (hp : 0 ≤ pn) (hn : 0 ≤ n ∧ n ≤ 31) (hs : sdN pa n = 0) (hk : 0 ≤ ka ∧ ka ≤ 4294967295) (hkn : 0 ≤ kn) (he : ¬ (ka = pa ∧ kn = pn)) (hb : covB ka kn pa pn = false) (hc : 0 ≤ comN ka kn pa pn ∧ comN ka kn pa pn ≤ 31) (hne : ¬ (comA ka kn pa pn = pa ∧ comN ka kn pa pn = pn)) (hj : sdN pa (comN ka kn pa pn) = 0) (hj2 : sdN ka (comN ka kn pa pn) = 1) : FnOk Try.prog 21 [.nv (.one (.root 0 0 true)), .nv (.one (.ptr 1 0))] [.abs (TA (some v) (.node a n u x (.node ka kn ku kx kl kr) o)), nwS pa pn px] (.tup []) [.gone, .gone, .abs (TA (some v) (.node a n u x (.node (comA ka kn pa pn) (comN ka kn pa pn) false 0 (nwT pa pn px) (.node ka kn ku kx kl kr)) o))] := by
  have hne : (!(comA ka kn pa pn == pa && (comN ka kn pa pn == pn && true))) = true := by
    rw [Bool.not_eq_true', Bool.eq_false_iff]; simp; exact fun e1 e2 => hne ⟨e1, e2⟩
  have h14 : CodeOk Try.prog 5 (lyC [true, true, true, true, true, true]) (mkSt 107 [(1, .nv (.one (.ptr 1 0))), (4, .nv (.one (.ptr 2 4))), (5, .nv (.one (.ptr 5 0))), (6, .nv (.one (.ptr 9 0)))] [.gone, nwS pa pn px, .box tNd (ndA a n u x (.ptr 5 0) (.root 4 0 false)), .gone, tN o, .box tNd (ndA ka kn ku kx (.root 6 0 false) (.root 7 0 false)), tN kl, tN kr, .gone, .box tNd (ndA (comA ka kn pa pn) (comN ka kn pa pn) false 0 (.ptr 1 0) (.ptr 5 0))]) .normal (mkSt 107 [] [.gone, .gone, .box tNd (ndA a n u x (.root 12 0 true) (.root 4 0 false)), .gone, tN o, .gone, .gone, .gone, .gone, .gone, .gone, .gone, tN (.node (comA ka kn pa pn) (comN ka kn pa pn) false 0 (nwT pa pn px) (.node ka kn ku kx kl kr))]) :=
    CodeOk.post (ly0_14_0 pa pn px a n x ka kn kx u ku (comA ka kn pa pn) (comN ka kn pa pn) (TA none .nil) (TA none o) (TA none kl) (TA none kr)) ((((shut_tran (k := 1) (cl := zP) (cr := zP) (l := .nil) (r := .nil) (ol := none) (orr := none) rfl ⟨rfl, rfl⟩ ⟨rfl, rfl⟩ (by simp) (by simp) (by simp)).eq (z := mkSt 107 [] [.gone, .gone, .box tNd (ndA a n u x (.ptr 9 0) (.root 4 0 false)), .gone, tN o, .box tNd (ndA ka kn ku kx (.root 6 0 false) (.root 7 0 false)), tN kl, tN kr, .gone, .box tNd (ndA (comA ka kn pa pn) (comN ka kn pa pn) false 0 (.root 10 0 true) (.ptr 5 0)), tN (nwT pa pn px)]) (by kernel_rfl)).trans
      ((shut_tran (k := 5) (cl := .root 6 0 false) (cr := .root 7 0 false) (l := kl) (r := kr) (ol := some 6) (orr := some 7) rfl (⟨none, rfl, .inl ⟨false, rfl⟩⟩) (⟨none, rfl, .inl ⟨false, rfl⟩⟩) (by simp) (by simp) (by simp)).eq (z := mkSt 107 [] [.gone, .gone, .box tNd (ndA a n u x (.ptr 9 0) (.root 4 0 false)), .gone, tN o, .gone, .gone, .gone, .gone, .box tNd (ndA (comA ka kn pa pn) (comN ka kn pa pn) false 0 (.root 10 0 true) (.root 11 0 true)), tN (nwT pa pn px), tN (.node ka kn ku kx kl kr)]) (by kernel_rfl))).trans
      ((shut_tran (k := 9) (cl := .root 10 0 true) (cr := .root 11 0 true) (l := nwT pa pn px) (r := (.node ka kn ku kx kl kr)) (ol := some 10) (orr := some 11) rfl (⟨none, rfl, .inl ⟨true, rfl⟩⟩) (⟨none, rfl, .inl ⟨true, rfl⟩⟩) (by simp) (by simp) (by simp)).eq (z := mkSt 107 [] [.gone, .gone, .box tNd (ndA a n u x (.root 12 0 true) (.root 4 0 false)), .gone, tN o, .gone, .gone, .gone, .gone, .gone, .gone, .gone, tN (.node (comA ka kn pa pn) (comN ka kn pa pn) false 0 (nwT pa pn px) (.node ka kn ku kx kl kr))]) (by kernel_rfl)))
  have h3 : CodeOk Try.prog 5 (bodyOf Try.f21) (lyS pa pn px a n u x (.root 3 0 false) (.root 4 0 false) (.node ka kn ku kx kl kr) o) .normal (mkSt 107 [] [.gone, .gone, .box tNd (ndA a n u x (.root 12 0 true) (.root 4 0 false)), .gone, tN o, .gone, .gone, .gone, .gone, .gone, .gone, .gone, tN (.node (comA ka kn pa pn) (comN ka kn pa pn) false 0 (nwT pa pn px) (.node ka kn ku kx kl kr))]) := by
    rw [ly_body]
    refine CodeOk.pre lyO0 (CodeOk.seq (ly0_0 pa pn px a n x ka kn kx u ku (TA none .nil) (TA none o) (TA none kl) (TA none kr) ha.1 ha.2 hn.1 hn.2 hs) (CodeOk.seq (ly0_1 pa pn px a n x ka kn kx u ku (TA none .nil) (TA none o) (TA none kl) (TA none kr)) (CodeOk.seq (CodeOk.block (lyX0 (y := .skip) ha hp hn hs hk he hb CodeOk.skip) (by simp)) (CodeOk.seq (ly0_8 pa pn px a n x ka kn kx u ku (TA none .nil) (TA none o) (TA none kl) (TA none kr)) (CodeOk.seq (CodeOk.seq (ly0_9 pa pn px a n x ka kn kx u ku (TA none .nil) (TA none o) (TA none kl) (TA none kr) ha.1 ha.2 hk.1 hk.2 hkn hp rfl) (CodeOk.seq (ly0_10 pa pn px a n x ka kn kx u ku (comA ka kn pa pn) (comN ka kn pa pn) (TA none .nil) (TA none o) (TA none kl) (TA none kr) true hne) (CodeOk.cond (t := true) (.inl rfl) (CodeOk.seq (ly0_11 pa pn px a n x ka kn kx u ku (comA ka kn pa pn) (comN ka kn pa pn) (TA none .nil) (TA none o) (TA none kl) (TA none kr)) (ly0_12_0 pa pn px a n x ka kn kx u ku (comA ka kn pa pn) (comN ka kn pa pn) (TA none .nil) (TA none o) (TA none kl) (TA none kr) ha.1 ha.2 hc.1 hc.2 hj))))) (CodeOk.seq (ly0_13_0 pa pn px a n x ka kn kx u ku (comA ka kn pa pn) (comN ka kn pa pn) (TA none .nil) (TA none o) (TA none kl) (TA none kr) hk.1 hk.2 hc.1 hc.2 hj2) h14))))))
  exact ly_frame v (.inr rfl) (M := [.gone, .gone, .box tNd (ndA a n u x (.root 12 0 true) (.root 4 0 false)), .gone, tN o, .gone, .gone, .gone, .gone, .gone, .gone, .gone, tN (.node (comA ka kn pa pn) (comN ka kn pa pn) false 0 (nwT pa pn px) (.node ka kn ku kx kl kr))]) (ol := some 12) (orr := some 4) h3 rfl (⟨none, rfl, .inl ⟨true, rfl⟩⟩) (⟨none, rfl, .inl ⟨false, rfl⟩⟩) (by simp) (by simp) (by simp)
set_option maxRecDepth 100000 in
theorem lyG0_0 {pa pn px a n : Int} {u : Bool} {x : Int} {o : PT} {ka kn : Int} {ku : Bool} {kx : Int} {kl kr : PT} (v : Value) (ha : 0 ≤ pa ∧ pa ≤ 4294967295) (hp : 0 ≤ pn) (hn : 0 ≤ n ∧ n ≤ 31) (hs : sdN pa n = 0) (hk : 0 ≤ ka ∧ ka ≤ 4294967295) (hkn : 0 ≤ kn) (he : ¬ (ka = pa ∧ kn = pn)) (hb : covB ka kn pa pn = false) (hc : 0 ≤ comN ka kn pa pn ∧ comN ka kn pa pn ≤ 31) (hne : comA ka kn pa pn = pa ∧ comN ka kn pa pn = pn) (hj2 : sdN ka pn = 0) : FnOk Try.prog 21 [.nv (.one (.root 0 0 true)), .nv (.one (.ptr 1 0))] [.abs (TA (some v) (.node a n u x (.node ka kn ku kx kl kr) o)), nwS pa pn px] (.tup []) [.gone, .gone, .abs (TA (some v) (.node a n u x (.node pa pn true px (.node ka kn ku kx kl kr) .nil) o))] := by
  have hb2 : (!(comA ka kn pa pn == pa && (comN ka kn pa pn == pn && true))) = false := by simp [hne]
  have hc : 0 ≤ pn ∧ pn ≤ 31 := by rw [hne.2] at hc; exact hc
  have h14 : CodeOk Try.prog 5 (lyC [true, true, true, true, true, true]) (mkSt 107 [(1, .nv (.one (.ptr 1 0))), (4, .nv (.one (.ptr 2 4))), (5, .nv (.one (.ptr 5 0))), (6, .nv (.one (.ptr 1 0)))] [.gone, .box tNd (ndA pa pn true px (.ptr 5 0) zP), .box tNd (ndA a n u x (.ptr 5 0) (.root 4 0 false)), .gone, tN o, .box tNd (ndA ka kn ku kx (.root 6 0 false) (.root 7 0 false)), tN kl, tN kr]) .normal (mkSt 107 [] [.gone, .gone, .box tNd (ndA a n u x (.root 9 0 true) (.root 4 0 false)), .gone, tN o, .gone, .gone, .gone, .gone, tN (.node pa pn true px (.node ka kn ku kx kl kr) .nil)]) :=
    CodeOk.post (ly0_n14_0 pa pn px a n x ka kn kx u ku (TA none .nil) (TA none o) (TA none kl) (TA none kr)) (((shut_tran (k := 5) (cl := .root 6 0 false) (cr := .root 7 0 false) (l := kl) (r := kr) (ol := some 6) (orr := some 7) rfl (⟨none, rfl, .inl ⟨false, rfl⟩⟩) (⟨none, rfl, .inl ⟨false, rfl⟩⟩) (by simp) (by simp) (by simp)).eq (z := mkSt 107 [] [.gone, .box tNd (ndA pa pn true px (.root 8 0 true) zP), .box tNd (ndA a n u x (.ptr 1 0) (.root 4 0 false)), .gone, tN o, .gone, .gone, .gone, tN (.node ka kn ku kx kl kr)]) (by kernel_rfl)).trans
      ((shut_tran (k := 1) (cl := .root 8 0 true) (cr := zP) (l := (.node ka kn ku kx kl kr)) (r := .nil) (ol := some 8) (orr := none) rfl (⟨none, rfl, .inl ⟨true, rfl⟩⟩) ⟨rfl, rfl⟩ (by simp) (by simp) (by simp)).eq (z := mkSt 107 [] [.gone, .gone, .box tNd (ndA a n u x (.root 9 0 true) (.root 4 0 false)), .gone, tN o, .gone, .gone, .gone, .gone, tN (.node pa pn true px (.node ka kn ku kx kl kr) .nil)]) (by kernel_rfl)))
  have h3 : CodeOk Try.prog 5 (bodyOf Try.f21) (lyS pa pn px a n u x (.root 3 0 false) (.root 4 0 false) (.node ka kn ku kx kl kr) o) .normal (mkSt 107 [] [.gone, .gone, .box tNd (ndA a n u x (.root 9 0 true) (.root 4 0 false)), .gone, tN o, .gone, .gone, .gone, .gone, tN (.node pa pn true px (.node ka kn ku kx kl kr) .nil)]) := by
    rw [ly_body]
    refine CodeOk.pre lyO0 (CodeOk.seq (ly0_0 pa pn px a n x ka kn kx u ku (TA none .nil) (TA none o) (TA none kl) (TA none kr) ha.1 ha.2 hn.1 hn.2 hs) (CodeOk.seq (ly0_1 pa pn px a n x ka kn kx u ku (TA none .nil) (TA none o) (TA none kl) (TA none kr)) (CodeOk.seq (CodeOk.block (lyX0 (y := .skip) ha hp hn hs hk he hb CodeOk.skip) (by simp)) (CodeOk.seq (ly0_8 pa pn px a n x ka kn kx u ku (TA none .nil) (TA none o) (TA none kl) (TA none kr)) (CodeOk.seq (CodeOk.seq (ly0_9 pa pn px a n x ka kn kx u ku (TA none .nil) (TA none o) (TA none kl) (TA none kr) ha.1 ha.2 hk.1 hk.2 hkn hp rfl) (CodeOk.seq (ly0_10 pa pn px a n x ka kn kx u ku (comA ka kn pa pn) (comN ka kn pa pn) (TA none .nil) (TA none o) (TA none kl) (TA none kr) false hb2) (CodeOk.cond (t := false) (.inl rfl) CodeOk.skip))) (CodeOk.seq (ly0_n13_0 pa pn px a n x ka kn kx u ku (comA ka kn pa pn) (comN ka kn pa pn) (TA none .nil) (TA none o) (TA none kl) (TA none kr) hk.1 hk.2 hc.1 hc.2 hj2) h14))))))
  exact ly_frame v (.inr rfl) (M := [.gone, .gone, .box tNd (ndA a n u x (.root 9 0 true) (.root 4 0 false)), .gone, tN o, .gone, .gone, .gone, .gone, tN (.node pa pn true px (.node ka kn ku kx kl kr) .nil)]) (ol := some 9) (orr := some 4) h3 rfl (⟨none, rfl, .inl ⟨true, rfl⟩⟩) (⟨none, rfl, .inl ⟨false, rfl⟩⟩) (by simp) (by simp) (by simp)
set_option maxRecDepth 100000 in
theorem lyF0_1 {pa pn px a n : Int} {u : Bool} {x : Int} {o : PT} {ka kn : Int} {ku : Bool} {kx : Int} {kl kr : PT} (v : Value) (ha : 0 ≤ pa ∧ pa ≤ 4294967295) (hp : 0 ≤ pn) (hn : 0 ≤ n ∧ n ≤ 31) (hs : sdN pa n = 0) (hk : 0 ≤ ka ∧ ka ≤ 4294967295) (hkn : 0 ≤ kn) (he : ¬ (ka = pa ∧ kn = pn)) (hb : covB ka kn pa pn = false) (hc : 0 ≤ comN ka kn pa pn ∧ comN ka kn pa pn ≤ 31) (hne : ¬ (comA ka kn pa pn = pa ∧ comN ka kn pa pn = pn)) (hj : sdN pa (comN ka kn pa pn) = 1) (hj2 : sdN ka (comN ka kn pa pn) = 0) : FnOk Try.prog 21 [.nv (.one (.root 0 0 true)), .nv (.one (.ptr 1 0))] [.abs (TA (some v) (.node a n u x (.node ka kn ku kx kl kr) o)), nwS pa pn px] (.tup []) [.gone, .gone, .abs (TA (some v) (.node a n u x (.node (comA ka kn pa pn) (comN ka kn pa pn) false 0 (.node ka kn ku kx kl kr) (nwT pa pn px)) o))] := by
  have hne : (!(comA ka kn pa pn == pa && (comN ka kn pa pn == pn && true))) = true := by
    rw [Bool.not_eq_true', Bool.eq_false_iff]; simp; exact fun e1 e2 => hne ⟨e1, e2⟩
  have h14 : CodeOk Try.prog 5 (lyC [true, true, true, true, true, true]) (mkSt 107 [(1, .nv (.one (.ptr 1 0))), (4, .nv (.one (.ptr 2 4))), (5, .nv (.one (.ptr 5 0))), (6, .nv (.one (.ptr 9 0)))] [.gone, nwS pa pn px, .box tNd (ndA a n u x (.ptr 5 0) (.root 4 0 false)), .gone, tN o, .box tNd (ndA ka kn ku kx (.root 6 0 false) (.root 7 0 false)), tN kl, tN kr, .gone, .box tNd (ndA (comA ka kn pa pn) (comN ka kn pa pn) false 0 (.ptr 5 0) (.ptr 1 0))]) .normal (mkSt 107 [] [.gone, .gone, .box tNd (ndA a n u x (.root 12 0 true) (.root 4 0 false)), .gone, tN o, .gone, .gone, .gone, .gone, .gone, .gone, .gone, tN (.node (comA ka kn pa pn) (comN ka kn pa pn) false 0 (.node ka kn ku kx kl kr) (nwT pa pn px))]) :=
    CodeOk.post (ly0_14_1 pa pn px a n x ka kn kx u ku (comA ka kn pa pn) (comN ka kn pa pn) (TA none .nil) (TA none o) (TA none kl) (TA none kr)) ((((shut_tran (k := 1) (cl := zP) (cr := zP) (l := .nil) (r := .nil) (ol := none) (orr := none) rfl ⟨rfl, rfl⟩ ⟨rfl, rfl⟩ (by simp) (by simp) (by simp)).eq (z := mkSt 107 [] [.gone, .gone, .box tNd (ndA a n u x (.ptr 9 0) (.root 4 0 false)), .gone, tN o, .box tNd (ndA ka kn ku kx (.root 6 0 false) (.root 7 0 false)), tN kl, tN kr, .gone, .box tNd (ndA (comA ka kn pa pn) (comN ka kn pa pn) false 0 (.ptr 5 0) (.root 10 0 true)), tN (nwT pa pn px)]) (by kernel_rfl)).trans
      ((shut_tran (k := 5) (cl := .root 6 0 false) (cr := .root 7 0 false) (l := kl) (r := kr) (ol := some 6) (orr := some 7) rfl (⟨none, rfl, .inl ⟨false, rfl⟩⟩) (⟨none, rfl, .inl ⟨false, rfl⟩⟩) (by simp) (by simp) (by simp)).eq (z := mkSt 107 [] [.gone, .gone, .box tNd (ndA a n u x (.ptr 9 0) (.root 4 0 false)), .gone, tN o, .gone, .gone, .gone, .gone, .box tNd (ndA (comA ka kn pa pn) (comN ka kn pa pn) false 0 (.root 11 0 true) (.root 10 0 true)), tN (nwT pa pn px), tN (.node ka kn ku kx kl kr)]) (by kernel_rfl))).trans
      ((shut_tran (k := 9) (cl := .root 11 0 true) (cr := .root 10 0 true) (l := (.node ka kn ku kx kl kr)) (r := nwT pa pn px) (ol := some 11) (orr := some 10) rfl (⟨none, rfl, .inl ⟨true, rfl⟩⟩) (⟨none, rfl, .inl ⟨true, rfl⟩⟩) (by simp) (by simp) (by simp)).eq (z := mkSt 107 [] [.gone, .gone, .box tNd (ndA a n u x (.root 12 0 true) (.root 4 0 false)), .gone, tN o, .gone, .gone, .gone, .gone, .gone, .gone, .gone, tN (.node (comA ka kn pa pn) (comN ka kn pa pn) false 0 (.node ka kn ku kx kl kr) (nwT pa pn px))]) (by kernel_rfl)))
  have h3 : CodeOk Try.prog 5 (bodyOf Try.f21) (lyS pa pn px a n u x (.root 3 0 false) (.root 4 0 false) (.node ka kn ku kx kl kr) o) .normal (mkSt 107 [] [.gone, .gone, .box tNd (ndA a n u x (.root 12 0 true) (.root 4 0 false)), .gone, tN o, .gone, .gone, .gone, .gone, .gone, .gone, .gone, tN (.node (comA ka kn pa pn) (comN ka kn pa pn) false 0 (.node ka kn ku kx kl kr) (nwT pa pn px))]) := by
    rw [ly_body]
    refine CodeOk.pre lyO0 (CodeOk.seq (ly0_0 pa pn px a n x ka kn kx u ku (TA none .nil) (TA none o) (TA none kl) (TA none kr) ha.1 ha.2 hn.1 hn.2 hs) (CodeOk.seq (ly0_1 pa pn px a n x ka kn kx u ku (TA none .nil) (TA none o) (TA none kl) (TA none kr)) (CodeOk.seq (CodeOk.block (lyX0 (y := .skip) ha hp hn hs hk he hb CodeOk.skip) (by simp)) (CodeOk.seq (ly0_8 pa pn px a n x ka kn kx u ku (TA none .nil) (TA none o) (TA none kl) (TA none kr)) (CodeOk.seq (CodeOk.seq (ly0_9 pa pn px a n x ka kn kx u ku (TA none .nil) (TA none o) (TA none kl) (TA none kr) ha.1 ha.2 hk.1 hk.2 hkn hp rfl) (CodeOk.seq (ly0_10 pa pn px a n x ka kn kx u ku (comA ka kn pa pn) (comN ka kn pa pn) (TA none .nil) (TA none o) (TA none kl) (TA none kr) true hne) (CodeOk.cond (t := true) (.inl rfl) (CodeOk.seq (ly0_11 pa pn px a n x ka kn kx u ku (comA ka kn pa pn) (comN ka kn pa pn) (TA none .nil) (TA none o) (TA none kl) (TA none kr)) (ly0_12_1 pa pn px a n x ka kn kx u ku (comA ka kn pa pn) (comN ka kn pa pn) (TA none .nil) (TA none o) (TA none kl) (TA none kr) ha.1 ha.2 hc.1 hc.2 hj))))) (CodeOk.seq (ly0_13_1 pa pn px a n x ka kn kx u ku (comA ka kn pa pn) (comN ka kn pa pn) (TA none .nil) (TA none o) (TA none kl) (TA none kr) hk.1 hk.2 hc.1 hc.2 hj2) h14))))))
  exact ly_frame v (.inr rfl) (M := [.gone, .gone, .box tNd (ndA a n u x (.root 12 0 true) (.root 4 0 false)), .gone, tN o, .gone, .gone, .gone, .gone, .gone, .gone, .gone, tN (.node (comA ka kn pa pn) (comN ka kn pa pn) false 0 (.node ka kn ku kx kl kr) (nwT pa pn px))]) (ol := some 12) (orr := some 4) h3 rfl (⟨none, rfl, .inl ⟨true, rfl⟩⟩) (⟨none, rfl, .inl ⟨false, rfl⟩⟩) (by simp) (by simp) (by simp)
set_option maxRecDepth 100000 in
theorem lyG0_1 {pa pn px a n : Int} {u : Bool} {x : Int} {o : PT} {ka kn : Int} {ku : Bool} {kx : Int} {kl kr : PT} (v : Value) (ha : 0 ≤ pa ∧ pa ≤ 4294967295) (hp : 0 ≤ pn) (hn : 0 ≤ n ∧ n ≤ 31) (hs : sdN pa n = 0) (hk : 0 ≤ ka ∧ ka ≤ 4294967295) (hkn : 0 ≤ kn) (he : ¬ (ka = pa ∧ kn = pn)) (hb : covB ka kn pa pn = false) (hc : 0 ≤ comN ka kn pa pn ∧ comN ka kn pa pn ≤ 31) (hne : comA ka kn pa pn = pa ∧ comN ka kn pa pn = pn) (hj2 : sdN ka pn = 1) : FnOk Try.prog 21 [.nv (.one (.root 0 0 true)), .nv (.one (.ptr 1 0))] [.abs (TA (some v) (.node a n u x (.node ka kn ku kx kl kr) o)), nwS pa pn px] (.tup []) [.gone, .gone, .abs (TA (some v) (.node a n u x (.node pa pn true px .nil (.node ka kn ku kx kl kr)) o))] := by
  have hb2 : (!(comA ka kn pa pn == pa && (comN ka kn pa pn == pn && true))) = false := by simp [hne]
  have hc : 0 ≤ pn ∧ pn ≤ 31 := by rw [hne.2] at hc; exact hc
  have h14 : CodeOk Try.prog 5 (lyC [true, true, true, true, true, true]) (mkSt 107 [(1, .nv (.one (.ptr 1 0))), (4, .nv (.one (.ptr 2 4))), (5, .nv (.one (.ptr 5 0))), (6, .nv (.one (.ptr 1 0)))] [.gone, .box tNd (ndA pa pn true px zP (.ptr 5 0)), .box tNd (ndA a n u x (.ptr 5 0) (.root 4 0 false)), .gone, tN o, .box tNd (ndA ka kn ku kx (.root 6 0 false) (.root 7 0 false)), tN kl, tN kr]) .normal (mkSt 107 [] [.gone, .gone, .box tNd (ndA a n u x (.root 9 0 true) (.root 4 0 false)), .gone, tN o, .gone, .gone, .gone, .gone, tN (.node pa pn true px .nil (.node ka kn ku kx kl kr))]) :=
    CodeOk.post (ly0_n14_1 pa pn px a n x ka kn kx u ku (TA none .nil) (TA none o) (TA none kl) (TA none kr)) (((shut_tran (k := 5) (cl := .root 6 0 false) (cr := .root 7 0 false) (l := kl) (r := kr) (ol := some 6) (orr := some 7) rfl (⟨none, rfl, .inl ⟨false, rfl⟩⟩) (⟨none, rfl, .inl ⟨false, rfl⟩⟩) (by simp) (by simp) (by simp)).eq (z := mkSt 107 [] [.gone, .box tNd (ndA pa pn true px zP (.root 8 0 true)), .box tNd (ndA a n u x (.ptr 1 0) (.root 4 0 false)), .gone, tN o, .gone, .gone, .gone, tN (.node ka kn ku kx kl kr)]) (by kernel_rfl)).trans
      ((shut_tran (k := 1) (cl := zP) (cr := .root 8 0 true) (l := .nil) (r := (.node ka kn ku kx kl kr)) (ol := none) (orr := some 8) rfl ⟨rfl, rfl⟩ (⟨none, rfl, .inl ⟨true, rfl⟩⟩) (by simp) (by simp) (by simp)).eq (z := mkSt 107 [] [.gone, .gone, .box tNd (ndA a n u x (.root 9 0 true) (.root 4 0 false)), .gone, tN o, .gone, .gone, .gone, .gone, tN (.node pa pn true px .nil (.node ka kn ku kx kl kr))]) (by kernel_rfl)))
  have h3 : CodeOk Try.prog 5 (bodyOf Try.f21) (lyS pa pn px a n u x (.root 3 0 false) (.root 4 0 false) (.node ka kn ku kx kl kr) o) .normal (mkSt 107 [] [.gone, .gone, .box tNd (ndA a n u x (.root 9 0 true) (.root 4 0 false)), .gone, tN o, .gone, .gone, .gone, .gone, tN (.node pa pn true px .nil (.node ka kn ku kx kl kr))]) := by
    rw [ly_body]
    refine CodeOk.pre lyO0 (CodeOk.seq (ly0_0 pa pn px a n x ka kn kx u ku (TA none .nil) (TA none o) (TA none kl) (TA none kr) ha.1 ha.2 hn.1 hn.2 hs) (CodeOk.seq (ly0_1 pa pn px a n x ka kn kx u ku (TA none .nil) (TA none o) (TA none kl) (TA none kr)) (CodeOk.seq (CodeOk.block (lyX0 (y := .skip) ha hp hn hs hk he hb CodeOk.skip) (by simp)) (CodeOk.seq (ly0_8 pa pn px a n x ka kn kx u ku (TA none .nil) (TA none o) (TA none kl) (TA none kr)) (CodeOk.seq (CodeOk.seq (ly0_9 pa pn px a n x ka kn kx u ku (TA none .nil) (TA none o) (TA none kl) (TA none kr) ha.1 ha.2 hk.1 hk.2 hkn hp rfl) (CodeOk.seq (ly0_10 pa pn px a n x ka kn kx u ku (comA ka kn pa pn) (comN ka kn pa pn) (TA none .nil) (TA none o) (TA none kl) (TA none kr) false hb2) (CodeOk.cond (t := false) (.inl rfl) CodeOk.skip))) (CodeOk.seq (ly0_n13_1 pa pn px a n x ka kn kx u ku (comA ka kn pa pn) (comN ka kn pa pn) (TA none .nil) (TA none o) (TA none kl) (TA none kr) hk.1 hk.2 hc.1 hc.2 hj2) h14))))))
  exact ly_frame v (.inr rfl) (M := [.gone, .gone, .box tNd (ndA a n u x (.root 9 0 true) (.root 4 0 false)), .gone, tN o, .gone, .gone, .gone, .gone, tN (.node pa pn true px .nil (.node ka kn ku kx kl kr))]) (ol := some 9) (orr := some 4) h3 rfl (⟨none, rfl, .inl ⟨true, rfl⟩⟩) (⟨none, rfl, .inl ⟨false, rfl⟩⟩) (by simp) (by simp) (by simp)
set_option maxRecDepth 100000 in
theorem lyN1 {pa pn px a n : Int} {u : Bool} {x : Int} {o : PT} (v : Value) (ha : 0 ≤ pa ∧ pa ≤ 4294967295) (hp : 0 ≤ pn) (hn : 0 ≤ n ∧ n ≤ 31) (hs : sdN pa n = 1) : FnOk Try.prog 21 [.nv (.one (.root 0 0 true)), .nv (.one (.ptr 1 0))] [.abs (TA (some v) (.node a n u x o .nil)), nwS pa pn px] (.tup []) [.gone, .gone, .abs (TA (some v) (.node a n u x o (nwT pa pn px)))] := by
  have h1 : Tran 5 (lyS pa pn px a n u x (.root 3 0 false) (.root 4 0 false) o .nil) (lyS pa pn px a n u x (.root 3 0 false) zP o .nil) := (nil_tran (h := 4) (pin := none) (.inl rfl)).eq (by kernel_rfl)
  have h2 := ly1_nil pa pn px a n x 0 0 0 u false (TA none o) (TA none .nil) (TA none .nil) (TA none .nil) ha.1 ha.2 hn.1 hn.2 hs
  have h3 := CodeOk.post (CodeOk.pre h1 h2) ((shut_tran (k := 1) (cl := zP) (cr := zP) (l := .nil) (r := .nil) (ol := none) (orr := none) rfl ⟨rfl, rfl⟩ ⟨rfl, rfl⟩ (by simp) (by simp) (by simp)).eq (z := mkSt 107 [] [.gone, .gone, .box tNd (ndA a n u x (.root 3 0 false) (.root 5 0 true)), tN o, tN .nil, tN (nwT pa pn px)]) (by kernel_rfl))
  exact ly_frame v (.inl rfl) (M := [.gone, .gone, .box tNd (ndA a n u x (.root 3 0 false) (.root 5 0 true)), tN o, tN .nil, tN (nwT pa pn px)]) (ol := some 3) (orr := some 5) h3 rfl (⟨none, rfl, .inl ⟨false, rfl⟩⟩) (⟨none, rfl, .inl ⟨true, rfl⟩⟩) (by simp) (by simp) (by simp)
set_option maxRecDepth 100000 in
theorem lyO1 {pa pn px a n : Int} {u : Bool} {x : Int} {o : PT} {ka kn : Int} {ku : Bool} {kx : Int} {kl kr : PT} : Tran 5 (lyS pa pn px a n u x (.root 3 0 false) (.root 4 0 false) o (.node ka kn ku kx kl kr)) (mkSt 107 [(0, .nv (.one (.ptr 2 0))), (1, .nv (.one (.ptr 1 0)))] [.gone, nwS pa pn px, .box tNd (ndA a n u x (.root 3 0 false) (.ptr 5 0)), tN o, .gone, .box tNd (ndA ka kn ku kx (.root 6 0 false) (.root 7 0 false)), tN kl, tN kr]) := (open_tran (h := 4) (pin := none) rfl).eq (by kernel_rfl)
set_option maxRecDepth 100000 in
theorem lyE1 {pa pn px a n : Int} {u : Bool} {x : Int} {o : PT} {ka kn : Int} {ku : Bool} {kx : Int} {kl kr : PT} (v : Value) (ha : 0 ≤ pa ∧ pa ≤ 4294967295) (hp : 0 ≤ pn) (hn : 0 ≤ n ∧ n ≤ 31) (hs : sdN pa n = 1) (hk : 0 ≤ ka ∧ ka ≤ 4294967295) (he : ka = pa ∧ kn = pn) : FnOk Try.prog 21 [.nv (.one (.root 0 0 true)), .nv (.one (.ptr 1 0))] [.abs (TA (some v) (.node a n u x o (.node ka kn ku kx kl kr))), nwS pa pn px] (.tup []) [.gone, .gone, .abs (TA (some v) (.node a n u x o (.node ka kn true px kl kr)))] := by
  have h2 := ly1_eq pa pn px a n x ka kn kx u ku (TA none o) (TA none .nil) (TA none kl) (TA none kr) ha.1 ha.2 hn.1 hn.2 hk.1 hk.2 hs (by simp [he])
  have h3 := CodeOk.post (CodeOk.pre lyO1 h2) ((shut_tran (k := 5) (cl := .root 6 0 false) (cr := .root 7 0 false) (l := kl) (r := kr) (ol := some 6) (orr := some 7) rfl (⟨none, rfl, .inl ⟨false, rfl⟩⟩) (⟨none, rfl, .inl ⟨false, rfl⟩⟩) (by simp) (by simp) (by simp)).eq (z := mkSt 107 [] [.gone, nwS pa pn px, .box tNd (ndA a n u x (.root 3 0 false) (.root 8 0 true)), tN o, .gone, .gone, .gone, .gone, tN (.node ka kn true px kl kr)]) (by kernel_rfl))
  exact ly_frame v (.inl rfl) (M := [.gone, nwS pa pn px, .box tNd (ndA a n u x (.root 3 0 false) (.root 8 0 true)), tN o, .gone, .gone, .gone, .gone, tN (.node ka kn true px kl kr)]) (ol := some 3) (orr := some 8) h3 rfl (⟨none, rfl, .inl ⟨false, rfl⟩⟩) (⟨none, rfl, .inl ⟨true, rfl⟩⟩) (by simp) (by simp) (by simp)
theorem lyX1 {pa pn px a n : Int} {u : Bool} {x : Int} {o : PT} {ka kn : Int} {ku : Bool} {kx : Int} {kl kr : PT} {e : Ex} {st : E.St} (ha : 0 ≤ pa ∧ pa ≤ 4294967295) (hp : 0 ≤ pn) (hn : 0 ≤ n ∧ n ≤ 31) (hs : sdN pa n = 1) (hk : 0 ≤ ka ∧ ka ≤ 4294967295) (he : ¬ (ka = pa ∧ kn = pn)) {b : Bool} (hb : covB ka kn pa pn = b) {y : Code}
    (h : CodeOk Try.prog 5 (if b then lyC [true, true, false, true, true, true, true, true, true, false] else .skip) (mkSt 107 [(1, .nv (.one (.ptr 1 0))), (4, .nv (.one (.ptr 2 5))), (5, .nv (.one (.ptr 5 0))), (48, bA b)] [.gone, nwS pa pn px, .box tNd (ndA a n u x (.root 3 0 false) (.ptr 5 0)), tN o, .gone, .box tNd (ndA ka kn ku kx (.root 6 0 false) (.root 7 0 false)), tN kl, tN kr]) e st) :
    CodeOk Try.prog 5 (.seq (lyC [true, true, false, true, false]) (.cond (.tmp 22) (lyC [true, true, false, true, true, false]) (.seq (lyC [true, true, false, true, true, true, false]) (.cond (.tmp 28) (lyC [true, true, false, true, true, true, true, false]) (.seq (lyC [true, true, false, true, true, true, true, true, false]) (.cond (.tmp 48) (lyC [true, true, false, true, true, true, true, true, true, false]) .skip)))))) (mkSt 107 [(1, .nv (.one (.ptr 1 0))), (4, .nv (.one (.ptr 2 5))), (5, .nv (.one (.ptr 5 0)))] [.gone, nwS pa pn px, .box tNd (ndA a n u x (.root 3 0 false) (.ptr 5 0)), tN o, .gone, .box tNd (ndA ka kn ku kx (.root 6 0 false) (.root 7 0 false)), tN kl, tN kr]) e st := by
  have he : (ka == pa && (kn == pn && true)) = false := by
    rw [Bool.eq_false_iff]; simp; exact fun e1 e2 => he ⟨e1, e2⟩
  refine CodeOk.seq (ly1_2 pa pn px a n x ka kn kx u ku (TA none o) (TA none .nil) (TA none kl) (TA none kr)) (CodeOk.cond (t := false) (.inl rfl) ?_)
  refine CodeOk.seq (ly1_4 pa pn px a n x ka kn kx u ku (TA none o) (TA none .nil) (TA none kl) (TA none kr) he) (CodeOk.cond (t := false) (.inl rfl) ?_)
  refine CodeOk.seq (ly1_6 pa pn px a n x ka kn kx u ku (TA none o) (TA none .nil) (TA none kl) (TA none kr) b ha.1 ha.2 hk.1 hk.2 hb) (CodeOk.cond (t := b) (.inl rfl) h)
set_option maxRecDepth 100000 in
theorem lyC1 {pa pn px a n : Int} {u : Bool} {x : Int} {o : PT} {ka kn : Int} {ku : Bool} {kx : Int} {kl kr : PT} (v : Value) (ha : 0 ≤ pa ∧ pa ≤ 4294967295) (hp : 0 ≤ pn) (hn : 0 ≤ n ∧ n ≤ 31) (hs : sdN pa n = 1) (hk : 0 ≤ ka ∧ ka ≤ 4294967295) (he : ¬ (ka = pa ∧ kn = pn)) (hb : covB ka kn pa pn = true) (ih : LyIh pa pn px (.node ka kn ku kx kl kr)) (hok : LyOk pa pn (.node ka kn ku kx kl kr)) : FnOk Try.prog 21 [.nv (.one (.root 0 0 true)), .nv (.one (.ptr 1 0))] [.abs (TA (some v) (.node a n u x o (.node ka kn ku kx kl kr))), nwS pa pn px] (.tup []) [.gone, .gone, .abs (TA (some v) (.node a n u x o (layP pa pn px (.node ka kn ku kx kl kr))))] := by
  have h7 : CodeOk Try.prog 5 (lyC [true, true, false, true, true, true, true, true, true, false]) (mkSt 107 [(1, .nv (.one (.ptr 1 0))), (4, .nv (.one (.ptr 2 5))), (5, .nv (.one (.ptr 5 0))), (48, bA true)] [.gone, nwS pa pn px, .box tNd (ndA a n u x (.root 3 0 false) (.ptr 5 0)), tN o, .gone, .box tNd (ndA ka kn ku kx (.root 6 0 false) (.root 7 0 false)), tN kl, tN kr]) .ret (mkSt 107 [] [.gone, .gone, .box tNd (ndA a n u x (.root 3 0 false) (.root 9 0 false)), tN o, .gone, .gone, .gone, .gone, .gone, tN (layP pa pn px (.node ka kn ku kx kl kr))]) := by
    refine CodeOk.preE (s1 := fun b : Nat => mkSt 107 [(1, .nv (.one (.ptr 1 0))), (4, .nv (.one (.ptr 2 5))), (5, .nv (.one (.root 8 0 true))), (48, bA true)] [.gone, nwS pa pn px, .box tNd (ndA a n u x (.root 3 0 false) (.val (pB b))), tN o, .gone, .gone, .gone, .gone, .abs (TA (some (pB b)) (.node ka kn ku kx kl kr))]) ((shutB_tran (k := 5) (cl := .root 6 0 false) (cr := .root 7 0 false) (l := kl) (r := kr) (ol := some 6) (orr := some 7) rfl (⟨none, rfl, .inl ⟨false, rfl⟩⟩) (⟨none, rfl, .inl ⟨false, rfl⟩⟩) (by simp) (by simp) (by simp)).eq (fun b => by kernel_rfl)) (fun b => ?_)
    exact CodeOk.post (ly1_7 ⟨pa, pn, px, some ⟨b, 0, none⟩, (.node ka kn ku kx kl kr)⟩ ih a n x u (TA none o) (TA none .nil) hok) (unpin_tran (i := 2) (h := 9) rfl rfl (by simp) (.inl rfl) (.inr ⟨rfl, rfl⟩))
  have h3 : CodeOk Try.prog 5 (bodyOf Try.f21) (lyS pa pn px a n u x (.root 3 0 false) (.root 4 0 false) o (.node ka kn ku kx kl kr)) .ret (mkSt 107 [] [.gone, .gone, .box tNd (ndA a n u x (.root 3 0 false) (.root 9 0 false)), tN o, .gone, .gone, .gone, .gone, .gone, tN (layP pa pn px (.node ka kn ku kx kl kr))]) := by
    rw [ly_body]
    exact CodeOk.pre lyO1 (CodeOk.seq (ly1_0 pa pn px a n x ka kn kx u ku (TA none o) (TA none .nil) (TA none kl) (TA none kr) ha.1 ha.2 hn.1 hn.2 hs) (CodeOk.seq (ly1_1 pa pn px a n x ka kn kx u ku (TA none o) (TA none .nil) (TA none kl) (TA none kr)) (CodeOk.seqX (by simp) (CodeOk.block (lyX1 (y := .skip) ha hp hn hs hk he hb h7) (by simp)))))
  exact ly_frame v (.inl rfl) (M := [.gone, .gone, .box tNd (ndA a n u x (.root 3 0 false) (.root 9 0 false)), tN o, .gone, .gone, .gone, .gone, .gone, tN (layP pa pn px (.node ka kn ku kx kl kr))]) (ol := some 3) (orr := some 9) h3 rfl (⟨none, rfl, .inl ⟨false, rfl⟩⟩) (⟨none, rfl, .inl ⟨false, rfl⟩⟩) (by simp) (by simp) (by simp)
set_option maxRecDepth 100000 in
theorem lyF1_0 {pa pn px a n : Int} {u : Bool} {x : Int} {o : PT} {ka kn : Int} {ku : Bool} {kx : Int} {kl kr : PT} (v : Value) (ha : 0 ≤ pa ∧ pa ≤ 4294967295) (hp : 0 ≤ pn) (hn : 0 ≤ n ∧ n ≤ 31) (hs : sdN pa n = 1) (hk : 0 ≤ ka ∧ ka ≤ 4294967295) (hkn : 0 ≤ kn) (he : ¬ (ka = pa ∧ kn = pn)) (hb : covB ka kn pa pn = false) (hc : 0 ≤ comN ka kn pa pn ∧ comN ka kn pa pn ≤ 31) (hne : ¬ (comA ka kn pa pn = pa ∧ comN ka kn pa pn = pn)) (hj : sdN pa (comN ka kn pa pn) = 0) (hj2 : sdN ka (comN ka kn pa pn) = 1) : FnOk Try.prog 21 [.nv (.one (.root 0 0 true)), .nv (.one (.ptr 1 0))] [.abs (TA (some v) (.node a n u x o (.node ka kn ku kx kl kr))), nwS pa pn px] (.tup []) [.gone, .gone, .abs (TA (some v) (.node a n u x o (.node (comA ka kn pa pn) (comN ka kn pa pn) false 0 (nwT pa pn px) (.node ka kn ku kx kl kr))))] := by
  have hne : (!(comA ka kn pa pn == pa && (comN ka kn pa pn == pn && true))) = true := by
    rw [Bool.not_eq_true', Bool.eq_false_iff]; simp; exact fun e1 e2 => hne ⟨e1, e2⟩
  have h14 : CodeOk Try.prog 5 (lyC [true, true, true, true, true, true]) (mkSt 107 [(1, .nv (.one (.ptr 1 0))), (4, .nv (.one (.ptr 2 5))), (5, .nv (.one (.ptr 5 0))), (6, .nv (.one (.ptr 9 0)))] [.gone, nwS pa pn px, .box tNd (ndA a n u x (.root 3 0 false) (.ptr 5 0)), tN o, .gone, .box tNd (ndA ka kn ku kx (.root 6 0 false) (.root 7 0 false)), tN kl, tN kr, .gone, .box tNd (ndA (comA ka kn pa pn) (comN ka kn pa pn) false 0 (.ptr 1 0) (.ptr 5 0))]) .normal (mkSt 107 [] [.gone, .gone, .box tNd (ndA a n u x (.root 3 0 false) (.root 12 0 true)), tN o, .gone, .gone, .gone, .gone, .gone, .gone, .gone, .gone, tN (.node (comA ka kn pa pn) (comN ka kn pa pn) false 0 (nwT pa pn px) (.node ka kn ku kx kl kr))]) :=
    CodeOk.post (ly1_14_0 pa pn px a n x ka kn kx u ku (comA ka kn pa pn) (comN ka kn pa pn) (TA none o) (TA none .nil) (TA none kl) (TA none kr)) ((((shut_tran (k := 1) (cl := zP) (cr := zP) (l := .nil) (r := .nil) (ol := none) (orr := none) rfl ⟨rfl, rfl⟩ ⟨rfl, rfl⟩ (by simp) (by simp) (by simp)).eq (z := mkSt 107 [] [.gone, .gone, .box tNd (ndA a n u x (.root 3 0 false) (.ptr 9 0)), tN o, .gone, .box tNd (ndA ka kn ku kx (.root 6 0 false) (.root 7 0 false)), tN kl, tN kr, .gone, .box tNd (ndA (comA ka kn pa pn) (comN ka kn pa pn) false 0 (.root 10 0 true) (.ptr 5 0)), tN (nwT pa pn px)]) (by kernel_rfl)).trans
      ((shut_tran (k := 5) (cl := .root 6 0 false) (cr := .root 7 0 false) (l := kl) (r := kr) (ol := some 6) (orr := some 7) rfl (⟨none, rfl, .inl ⟨false, rfl⟩⟩) (⟨none, rfl, .inl ⟨false, rfl⟩⟩) (by simp) (by simp) (by simp)).eq (z := mkSt 107 [] [.gone, .gone, .box tNd (ndA a n u x (.root 3 0 false) (.ptr 9 0)), tN o, .gone, .gone, .gone, .gone, .gone, .box tNd (ndA (comA ka kn pa pn) (comN ka kn pa pn) false 0 (.root 10 0 true) (.root 11 0 true)), tN (nwT pa pn px), tN (.node ka kn ku kx kl kr)]) (by kernel_rfl))).trans
      ((shut_tran (k := 9) (cl := .root 10 0 true) (cr := .root 11 0 true) (l := nwT pa pn px) (r := (.node ka kn ku kx kl kr)) (ol := some 10) (orr := some 11) rfl (⟨none, rfl, .inl ⟨true, rfl⟩⟩) (⟨none, rfl, .inl ⟨true, rfl⟩⟩) (by simp) (by simp) (by simp)).eq (z := mkSt 107 [] [.gone, .gone, .box tNd (ndA a n u x (.root 3 0 false) (.root 12 0 true)), tN o, .gone, .gone, .gone, .gone, .gone, .gone, .gone, .gone, tN (.node (comA ka kn pa pn) (comN ka kn pa pn) false 0 (nwT pa pn px) (.node ka kn ku kx kl kr))]) (by kernel_rfl)))
  have h3 : CodeOk Try.prog 5 (bodyOf Try.f21) (lyS pa pn px a n u x (.root 3 0 false) (.root 4 0 false) o (.node ka kn ku kx kl kr)) .normal (mkSt 107 [] [.gone, .gone, .box tNd (ndA a n u x (.root 3 0 false) (.root 12 0 true)), tN o, .gone, .gone, .gone, .gone, .gone, .gone, .gone, .gone, tN (.node (comA ka kn pa pn) (comN ka kn pa pn) false 0 (nwT pa pn px) (.node ka kn ku kx kl kr))]) := by
    rw [ly_body]
    refine CodeOk.pre lyO1 (CodeOk.seq (ly1_0 pa pn px a n x ka kn kx u ku (TA none o) (TA none .nil) (TA none kl) (TA none kr) ha.1 ha.2 hn.1 hn.2 hs) (CodeOk.seq (ly1_1 pa pn px a n x ka kn kx u ku (TA none o) (TA none .nil) (TA none kl) (TA none kr)) (CodeOk.seq (CodeOk.block (lyX1 (y := .skip) ha hp hn hs hk he hb CodeOk.skip) (by simp)) (CodeOk.seq (ly1_8 pa pn px a n x ka kn kx u ku (TA none o) (TA none .nil) (TA none kl) (TA none kr)) (CodeOk.seq (CodeOk.seq (ly1_9 pa pn px a n x ka kn kx u ku (TA none o) (TA none .nil) (TA none kl) (TA none kr) ha.1 ha.2 hk.1 hk.2 hkn hp rfl) (CodeOk.seq (ly1_10 pa pn px a n x ka kn kx u ku (comA ka kn pa pn) (comN ka kn pa pn) (TA none o) (TA none .nil) (TA none kl) (TA none kr) true hne) (CodeOk.cond (t := true) (.inl rfl) (CodeOk.seq (ly1_11 pa pn px a n x ka kn kx u ku (comA ka kn pa pn) (comN ka kn pa pn) (TA none o) (TA none .nil) (TA none kl) (TA none kr)) (ly1_12_0 pa pn px a n x ka kn kx u ku (comA ka kn pa pn) (comN ka kn pa pn) (TA none o) (TA none .nil) (TA none kl) (TA none kr) ha.1 ha.2 hc.1 hc.2 hj))))) (CodeOk.seq (ly1_13_0 pa pn px a n x ka kn kx u ku (comA ka kn pa pn) (comN ka kn pa pn) (TA none o) (TA none .nil) (TA none kl) (TA none kr) hk.1 hk.2 hc.1 hc.2 hj2) h14))))))
  exact ly_frame v (.inr rfl) (M := [.gone, .gone, .box tNd (ndA a n u x (.root 3 0 false) (.root 12 0 true)), tN o, .gone, .gone, .gone, .gone, .gone, .gone, .gone, .gone, tN (.node (comA ka kn pa pn) (comN ka kn pa pn) false 0 (nwT pa pn px) (.node ka kn ku kx kl kr))]) (ol := some 3) (orr := some 12) h3 rfl (⟨none, rfl, .inl ⟨false, rfl⟩⟩) (⟨none, rfl, .inl ⟨true, rfl⟩⟩) (by simp) (by simp) (by simp)
set_option maxRecDepth 100000 in
theorem lyG1_0 {pa pn px a n : Int} {u : Bool} {x : Int} {o : PT} {ka kn : Int} {ku : Bool} {kx : Int} {kl kr : PT} (v : Value) (ha : 0 ≤ pa ∧ pa ≤ 4294967295) (hp : 0 ≤ pn) (hn : 0 ≤ n ∧ n ≤ 31) (hs : sdN pa n = 1) (hk : 0 ≤ ka ∧ ka ≤ 4294967295) (hkn : 0 ≤ kn) (he : ¬ (ka = pa ∧ kn = pn)) (hb : covB ka kn pa pn = false) (hc : 0 ≤ comN ka kn pa pn ∧ comN ka kn pa pn ≤ 31) (hne : comA ka kn pa pn = pa ∧ comN ka kn pa pn = pn) (hj2 : sdN ka pn = 0) : FnOk Try.prog 21 [.nv (.one (.root 0 0 true)), .nv (.one (.ptr 1 0))] [.abs (TA (some v) (.node a n u x o (.node ka kn ku kx kl kr))), nwS pa pn px] (.tup []) [.gone, .gone, .abs (TA (some v) (.node a n u x o (.node pa pn true px (.node ka kn ku kx kl kr) .nil)))] := by
  have hb2 : (!(comA ka kn pa pn == pa && (comN ka kn pa pn == pn && true))) = false := by simp [hne]
  have hc : 0 ≤ pn ∧ pn ≤ 31 := by rw [hne.2] at hc; exact hc
  have h14 : CodeOk Try.prog 5 (lyC [true, true, true, true, true, true]) (mkSt 107 [(1, .nv (.one (.ptr 1 0))), (4, .nv (.one (.ptr 2 5))), (5, .nv (.one (.ptr 5 0))), (6, .nv (.one (.ptr 1 0)))] [.gone, .box tNd (ndA pa pn true px (.ptr 5 0) zP), .box tNd (ndA a n u x (.root 3 0 false) (.ptr 5 0)), tN o, .gone, .box tNd (ndA ka kn ku kx (.root 6 0 false) (.root 7 0 false)), tN kl, tN kr]) .normal (mkSt 107 [] [.gone, .gone, .box tNd (ndA a n u x (.root 3 0 false) (.root 9 0 true)), tN o, .gone, .gone, .gone, .gone, .gone, tN (.node pa pn true px (.node ka kn ku kx kl kr) .nil)]) :=
    CodeOk.post (ly1_n14_0 pa pn px a n x ka kn kx u ku (TA none o) (TA none .nil) (TA none kl) (TA none kr)) (((shut_tran (k := 5) (cl := .root 6 0 false) (cr := .root 7 0 false) (l := kl) (r := kr) (ol := some 6) (orr := some 7) rfl (⟨none, rfl, .inl ⟨false, rfl⟩⟩) (⟨none, rfl, .inl ⟨false, rfl⟩⟩) (by simp) (by simp) (by simp)).eq (z := mkSt 107 [] [.gone, .box tNd (ndA pa pn true px (.root 8 0 true) zP), .box tNd (ndA a n u x (.root 3 0 false) (.ptr 1 0)), tN o, .gone, .gone, .gone, .gone, tN (.node ka kn ku kx kl kr)]) (by kernel_rfl)).trans
      ((shut_tran (k := 1) (cl := .root 8 0 true) (cr := zP) (l := (.node ka kn ku kx kl kr)) (r := .nil) (ol := some 8) (orr := none) rfl (⟨none, rfl, .inl ⟨true, rfl⟩⟩) ⟨rfl, rfl⟩ (by simp) (by simp) (by simp)).eq (z := mkSt 107 [] [.gone, .gone, .box tNd (ndA a n u x (.root 3 0 false) (.root 9 0 true)), tN o, .gone, .gone, .gone, .gone, .gone, tN (.node pa pn true px (.node ka kn ku kx kl kr) .nil)]) (by kernel_rfl)))
  have h3 : CodeOk Try.prog 5 (bodyOf Try.f21) (lyS pa pn px a n u x (.root 3 0 false) (.root 4 0 false) o (.node ka kn ku kx kl kr)) .normal (mkSt 107 [] [.gone, .gone, .box tNd (ndA a n u x (.root 3 0 false) (.root 9 0 true)), tN o, .gone, .gone, .gone, .gone, .gone, tN (.node pa pn true px (.node ka kn ku kx kl kr) .nil)]) := by
    rw [ly_body]
    refine CodeOk.pre lyO1 (CodeOk.seq (ly1_0 pa pn px a n x ka kn kx u ku (TA none o) (TA none .nil) (TA none kl) (TA none kr) ha.1 ha.2 hn.1 hn.2 hs) (CodeOk.seq (ly1_1 pa pn px a n x ka kn kx u ku (TA none o) (TA none .nil) (TA none kl) (TA none kr)) (CodeOk.seq (CodeOk.block (lyX1 (y := .skip) ha hp hn hs hk he hb CodeOk.skip) (by simp)) (CodeOk.seq (ly1_8 pa pn px a n x ka kn kx u ku (TA none o) (TA none .nil) (TA none kl) (TA none kr)) (CodeOk.seq (CodeOk.seq (ly1_9 pa pn px a n x ka kn kx u ku (TA none o) (TA none .nil) (TA none kl) (TA none kr) ha.1 ha.2 hk.1 hk.2 hkn hp rfl) (CodeOk.seq (ly1_10 pa pn px a n x ka kn kx u ku (comA ka kn pa pn) (comN ka kn pa pn) (TA none o) (TA none .nil) (TA none kl) (TA none kr) false hb2) (CodeOk.cond (t := false) (.inl rfl) CodeOk.skip))) (CodeOk.seq (ly1_n13_0 pa pn px a n x ka kn kx u ku (comA ka kn pa pn) (comN ka kn pa pn) (TA none o) (TA none .nil) (TA none kl) (TA none kr) hk.1 hk.2 hc.1 hc.2 hj2) h14))))))
  exact ly_frame v (.inr rfl) (M := [.gone, .gone, .box tNd (ndA a n u x (.root 3 0 false) (.root 9 0 true)), tN o, .gone, .gone, .gone, .gone, .gone, tN (.node pa pn true px (.node ka kn ku kx kl kr) .nil)]) (ol := some 3) (orr := some 9) h3 rfl (⟨none, rfl, .inl ⟨false, rfl⟩⟩) (⟨none, rfl, .inl ⟨true, rfl⟩⟩) (by simp) (by simp) (by simp)
set_option maxRecDepth 100000 in
theorem lyF1_1 {pa pn px a n : Int} {u : Bool} {x : Int} {o : PT} {ka kn : Int} {ku : Bool} {kx : Int} {kl kr : PT} (v : Value) (ha : 0 ≤ pa ∧ pa ≤ 4294967295) (hp : 0 ≤ pn) (hn : 0 ≤ n ∧ n ≤ 31) (hs : sdN pa n = 1) (hk : 0 ≤ ka ∧ ka ≤ 4294967295) (hkn : 0 ≤ kn) (he : ¬ (ka = pa ∧ kn = pn)) (hb : covB ka kn pa pn = false) (hc : 0 ≤ comN ka kn pa pn ∧ comN ka kn pa pn ≤ 31) (hne : ¬ (comA ka kn pa pn = pa ∧ comN ka kn pa pn = pn)) (hj : sdN pa (comN ka kn pa pn) = 1) (hj2 : sdN ka (comN ka kn pa pn) = 0) : FnOk Try.prog 21 [.nv (.one (.root 0 0 true)), .nv (.one (.ptr 1 0))] [.abs (TA (some v) (.node a n u x o (.node ka kn ku kx kl kr))), nwS pa pn px] (.tup []) [.gone, .gone, .abs (TA (some v) (.node a n u x o (.node (comA ka kn pa pn) (comN ka kn pa pn) false 0 (.node ka kn ku kx kl kr) (nwT pa pn px))))] := by
  have hne : (!(comA ka kn pa pn == pa && (comN ka kn pa pn == pn && true))) = true := by
    rw [Bool.not_eq_true', Bool.eq_false_iff]; simp; exact fun e1 e2 => hne ⟨e1, e2⟩
  have h14 : CodeOk Try.prog 5 (lyC [true, true, true, true, true, true]) (mkSt 107 [(1, .nv (.one (.ptr 1 0))), (4, .nv (.one (.ptr 2 5))), (5, .nv (.one (.ptr 5 0))), (6, .nv (.one (.ptr 9 0)))] [.gone, nwS pa pn px, .box tNd (ndA a n u x (.root 3 0 false) (.ptr 5 0)), tN o, .gone, .box tNd (ndA ka kn ku kx (.root 6 0 false) (.root 7 0 false)), tN kl, tN kr, .gone, .box tNd (ndA (comA ka kn pa pn) (comN ka kn pa pn) false 0 (.ptr 5 0) (.ptr 1 0))]) .normal (mkSt 107 [] [.gone, .gone, .box tNd (ndA a n u x (.root 3 0 false) (.root 12 0 true)), tN o, .gone, .gone, .gone, .gone, .gone, .gone, .gone, .gone, tN (.node (comA ka kn pa pn) (comN ka kn pa pn) false 0 (.node ka kn ku kx kl kr) (nwT pa pn px))]) :=
    CodeOk.post (ly1_14_1 pa pn px a n x ka kn kx u ku (comA ka kn pa pn) (comN ka kn pa pn) (TA none o) (TA none .nil) (TA none kl) (TA none kr)) ((((shut_tran (k := 1) (cl := zP) (cr := zP) (l := .nil) (r := .nil) (ol := none) (orr := none) rfl ⟨rfl, rfl⟩ ⟨rfl, rfl⟩ (by simp) (by simp) (by simp)).eq (z := mkSt 107 [] [.gone, .gone, .box tNd (ndA a n u x (.root 3 0 false) (.ptr 9 0)), tN o, .gone, .box tNd (ndA ka kn ku kx (.root 6 0 false) (.root 7 0 false)), tN kl, tN kr, .gone, .box tNd (ndA (comA ka kn pa pn) (comN ka kn pa pn) false 0 (.ptr 5 0) (.root 10 0 true)), tN (nwT pa pn px)]) (by kernel_rfl)).trans
      ((shut_tran (k := 5) (cl := .root 6 0 false) (cr := .root 7 0 false) (l := kl) (r := kr) (ol := some 6) (orr := some 7) rfl (⟨none, rfl, .inl ⟨false, rfl⟩⟩) (⟨none, rfl, .inl ⟨false, rfl⟩⟩) (by simp) (by simp) (by simp)).eq (z := mkSt 107 [] [.gone, .gone, .box tNd (ndA a n u x (.root 3 0 false) (.ptr 9 0)), tN o, .gone, .gone, .gone, .gone, .gone, .box tNd (ndA (comA ka kn pa pn) (comN ka kn pa pn) false 0 (.root 11 0 true) (.root 10 0 true)), tN (nwT pa pn px), tN (.node ka kn ku kx kl kr)]) (by kernel_rfl))).trans
      ((shut_tran (k := 9) (cl := .root 11 0 true) (cr := .root 10 0 true) (l := (.node ka kn ku kx kl kr)) (r := nwT pa pn px) (ol := some 11) (orr := some 10) rfl (⟨none, rfl, .inl ⟨true, rfl⟩⟩) (⟨none, rfl, .inl ⟨true, rfl⟩⟩) (by simp) (by simp) (by simp)).eq (z := mkSt 107 [] [.gone, .gone, .box tNd (ndA a n u x (.root 3 0 false) (.root 12 0 true)), tN o, .gone, .gone, .gone, .gone, .gone, .gone, .gone, .gone, tN (.node (comA ka kn pa pn) (comN ka kn pa pn) false 0 (.node ka kn ku kx kl kr) (nwT pa pn px))]) (by kernel_rfl)))
  have h3 : CodeOk Try.prog 5 (bodyOf Try.f21) (lyS pa pn px a n u x (.root 3 0 false) (.root 4 0 false) o (.node ka kn ku kx kl kr)) .normal (mkSt 107 [] [.gone, .gone, .box tNd (ndA a n u x (.root 3 0 false) (.root 12 0 true)), tN o, .gone, .gone, .gone, .gone, .gone, .gone, .gone, .gone, tN (.node (comA ka kn pa pn) (comN ka kn pa pn) false 0 (.node ka kn ku kx kl kr) (nwT pa pn px))]) := by
    rw [ly_body]
    refine CodeOk.pre lyO1 (CodeOk.seq (ly1_0 pa pn px a n x ka kn kx u ku (TA none o) (TA none .nil) (TA none kl) (TA none kr) ha.1 ha.2 hn.1 hn.2 hs) (CodeOk.seq (ly1_1 pa pn px a n x ka kn kx u ku (TA none o) (TA none .nil) (TA none kl) (TA none kr)) (CodeOk.seq (CodeOk.block (lyX1 (y := .skip) ha hp hn hs hk he hb CodeOk.skip) (by simp)) (CodeOk.seq (ly1_8 pa pn px a n x ka kn kx u ku (TA none o) (TA none .nil) (TA none kl) (TA none kr)) (CodeOk.seq (CodeOk.seq (ly1_9 pa pn px a n x ka kn kx u ku (TA none o) (TA none .nil) (TA none kl) (TA none kr) ha.1 ha.2 hk.1 hk.2 hkn hp rfl) (CodeOk.seq (ly1_10 pa pn px a n x ka kn kx u ku (comA ka kn pa pn) (comN ka kn pa pn) (TA none o) (TA none .nil) (TA none kl) (TA none kr) true hne) (CodeOk.cond (t := true) (.inl rfl) (CodeOk.seq (ly1_11 pa pn px a n x ka kn kx u ku (comA ka kn pa pn) (comN ka kn pa pn) (TA none o) (TA none .nil) (TA none kl) (TA none kr)) (ly1_12_1 pa pn px a n x ka kn kx u ku (comA ka kn pa pn) (comN ka kn pa pn) (TA none o) (TA none .nil) (TA none kl) (TA none kr) ha.1 ha.2 hc.1 hc.2 hj))))) (CodeOk.seq (ly1_13_1 pa pn px a n x ka kn kx u ku (comA ka kn pa pn) (comN ka kn pa pn) (TA none o) (TA none .nil) (TA none kl) (TA none kr) hk.1 hk.2 hc.1 hc.2 hj2) h14))))))
  exact ly_frame v (.inr rfl) (M := [.gone, .gone, .box tNd (ndA a n u x (.root 3 0 false) (.root 12 0 true)), tN o, .gone, .gone, .gone, .gone, .gone, .gone, .gone, .gone, tN (.node (comA ka kn pa pn) (comN ka kn pa pn) false 0 (.node ka kn ku kx kl kr) (nwT pa pn px))]) (ol := some 3) (orr := some 12) h3 rfl (⟨none, rfl, .inl ⟨false, rfl⟩⟩) (⟨none, rfl, .inl ⟨true, rfl⟩⟩) (by simp) (by simp) (by simp)
set_option maxRecDepth 100000 in
theorem lyG1_1 {pa pn px a n : Int} {u : Bool} {x : Int} {o : PT} {ka kn : Int} {ku : Bool} {kx : Int} {kl kr : PT} (v : Value) (ha : 0 ≤ pa ∧ pa ≤ 4294967295) (hp : 0 ≤ pn) (hn : 0 ≤ n ∧ n ≤ 31) (hs : sdN pa n = 1) (hk : 0 ≤ ka ∧ ka ≤ 4294967295) (hkn : 0 ≤ kn) (he : ¬ (ka = pa ∧ kn = pn)) (hb : covB ka kn pa pn = false) (hc : 0 ≤ comN ka kn pa pn ∧ comN ka kn pa pn ≤ 31) (hne : comA ka kn pa pn = pa ∧ comN ka kn pa pn = pn) (hj2 : sdN ka pn = 1) : FnOk Try.prog 21 [.nv (.one (.root 0 0 true)), .nv (.one (.ptr 1 0))] [.abs (TA (some v) (.node a n u x o (.node ka kn ku kx kl kr))), nwS pa pn px] (.tup []) [.gone, .gone, .abs (TA (some v) (.node a n u x o (.node pa pn true px .nil (.node ka kn ku kx kl kr))))] := by
  have hb2 : (!(comA ka kn pa pn == pa && (comN ka kn pa pn == pn && true))) = false := by simp [hne]
  have hc : 0 ≤ pn ∧ pn ≤ 31 := by rw [hne.2] at hc; exact hc
  have h14 : CodeOk Try.prog 5 (lyC [true, true, true, true, true, true]) (mkSt 107 [(1, .nv (.one (.ptr 1 0))), (4, .nv (.one (.ptr 2 5))), (5, .nv (.one (.ptr 5 0))), (6, .nv (.one (.ptr 1 0)))] [.gone, .box tNd (ndA pa pn true px zP (.ptr 5 0)), .box tNd (ndA a n u x (.root 3 0 false) (.ptr 5 0)), tN o, .gone, .box tNd (ndA ka kn ku kx (.root 6 0 false) (.root 7 0 false)), tN kl, tN kr]) .normal (mkSt 107 [] [.gone, .gone, .box tNd (ndA a n u x (.root 3 0 false) (.root 9 0 true)), tN o, .gone, .gone, .gone, .gone, .gone, tN (.node pa pn true px .nil (.node ka kn ku kx kl kr))]) :=
    CodeOk.post (ly1_n14_1 pa pn px a n x ka kn kx u ku (TA none o) (TA none .nil) (TA none kl) (TA none kr)) (((shut_tran (k := 5) (cl := .root 6 0 false) (cr := .root 7 0 false) (l := kl) (r := kr) (ol := some 6) (orr := some 7) rfl (⟨none, rfl, .inl ⟨false, rfl⟩⟩) (⟨none, rfl, .inl ⟨false, rfl⟩⟩) (by simp) (by simp) (by simp)).eq (z := mkSt 107 [] [.gone, .box tNd (ndA pa pn true px zP (.root 8 0 true)), .box tNd (ndA a n u x (.root 3 0 false) (.ptr 1 0)), tN o, .gone, .gone, .gone, .gone, tN (.node ka kn ku kx kl kr)]) (by kernel_rfl)).trans
      ((shut_tran (k := 1) (cl := zP) (cr := .root 8 0 true) (l := .nil) (r := (.node ka kn ku kx kl kr)) (ol := none) (orr := some 8) rfl ⟨rfl, rfl⟩ (⟨none, rfl, .inl ⟨true, rfl⟩⟩) (by simp) (by simp) (by simp)).eq (z := mkSt 107 [] [.gone, .gone, .box tNd (ndA a n u x (.root 3 0 false) (.root 9 0 true)), tN o, .gone, .gone, .gone, .gone, .gone, tN (.node pa pn true px .nil (.node ka kn ku kx kl kr))]) (by kernel_rfl)))
  have h3 : CodeOk Try.prog 5 (bodyOf Try.f21) (lyS pa pn px a n u x (.root 3 0 false) (.root 4 0 false) o (.node ka kn ku kx kl kr)) .normal (mkSt 107 [] [.gone, .gone, .box tNd (ndA a n u x (.root 3 0 false) (.root 9 0 true)), tN o, .gone, .gone, .gone, .gone, .gone, tN (.node pa pn true px .nil (.node ka kn ku kx kl kr))]) := by
    rw [ly_body]
    refine CodeOk.pre lyO1 (CodeOk.seq (ly1_0 pa pn px a n x ka kn kx u ku (TA none o) (TA none .nil) (TA none kl) (TA none kr) ha.1 ha.2 hn.1 hn.2 hs) (CodeOk.seq (ly1_1 pa pn px a n x ka kn kx u ku (TA none o) (TA none .nil) (TA none kl) (TA none kr)) (CodeOk.seq (CodeOk.block (lyX1 (y := .skip) ha hp hn hs hk he hb CodeOk.skip) (by simp)) (CodeOk.seq (ly1_8 pa pn px a n x ka kn kx u ku (TA none o) (TA none .nil) (TA none kl) (TA none kr)) (CodeOk.seq (CodeOk.seq (ly1_9 pa pn px a n x ka kn kx u ku (TA none o) (TA none .nil) (TA none kl) (TA none kr) ha.1 ha.2 hk.1 hk.2 hkn hp rfl) (CodeOk.seq (ly1_10 pa pn px a n x ka kn kx u ku (comA ka kn pa pn) (comN ka kn pa pn) (TA none o) (TA none .nil) (TA none kl) (TA none kr) false hb2) (CodeOk.cond (t := false) (.inl rfl) CodeOk.skip))) (CodeOk.seq (ly1_n13_1 pa pn px a n x ka kn kx u ku (comA ka kn pa pn) (comN ka kn pa pn) (TA none o) (TA none .nil) (TA none kl) (TA none kr) hk.1 hk.2 hc.1 hc.2 hj2) h14))))))
  exact ly_frame v (.inr rfl) (M := [.gone, .gone, .box tNd (ndA a n u x (.root 3 0 false) (.root 9 0 true)), tN o, .gone, .gone, .gone, .gone, .gone, tN (.node pa pn true px .nil (.node ka kn ku kx kl kr))]) (ol := some 3) (orr := some 9) h3 rfl (⟨none, rfl, .inl ⟨false, rfl⟩⟩) (⟨none, rfl, .inl ⟨true, rfl⟩⟩) (by simp) (by simp) (by simp)
end Go.Proofs.Ytfienpkogkepkaa

/- trie: lay, the whole. No condition. -/
namespace Go.Proofs.Ytfienpkogkepkaa
set_option linter.unusedVariables false
set_option linter.unusedSimpArgs false
open Go.RowKit E
theorem fnLay {pa pn px : Int} (ha : 0 ≤ pa ∧ pa ≤ 4294967295) (hp : 0 ≤ pn) : ∀ t : PT, LyIh pa pn px t
  | .nil => fun h => h.elim
  | .node a n u x l r => fun hin v => by
    have ihl := fnLay ha hp (px := px) l
    have ihr := fnLay ha hp (px := px) r
    obtain ⟨hn, ⟨hs, hk⟩ | ⟨hs, hk⟩⟩ := hin
    · have e : layP pa pn px (.node a n u x l r) = .node a n u x (layK pa pn px l (layP pa pn px l)) r := by
        rw [layP]; rw [if_pos hs]
      rw [e]
      cases l with
      | nil => exact lyN0 v ha hp hn hs
      | node ka kn ku kx kl kr =>
        obtain ⟨hka, hkn, hcv, hfk⟩ := hk
        by_cases he : ka = pa ∧ kn = pn
        · rw [layK, if_pos he]; exact lyE0 v ha hp hn hs hka he
        · cases hb : covB ka kn pa pn with
          | true => rw [layK, if_neg he, if_pos hb]; exact lyC0 v ha hp hn hs hka he hb ihl (hcv he hb)
          | false =>
            rw [layK, if_neg he, if_neg (by rw [hb]; simp)]
            obtain ⟨hc, h1, h2⟩ := hfk he hb
            unfold forkT
            by_cases hne : comA ka kn pa pn = pa ∧ comN ka kn pa pn = pn
            · rw [if_pos hne]
              unfold kidsAt
              rcases h1 hne with q | q
              · rw [if_pos q]; exact lyG0_0 v ha hp hn hs hka hkn he hb hc hne q
              · rw [if_neg (by omega)]; exact lyG0_1 v ha hp hn hs hka hkn he hb hc hne q
            · rw [if_neg hne]
              unfold kidsAt
              rcases h2 hne with ⟨q, q'⟩ | ⟨q, q'⟩
              · rw [if_pos q]; exact lyF0_1 v ha hp hn hs hka hkn he hb hc hne q' q
              · rw [if_neg (by omega)]; exact lyF0_0 v ha hp hn hs hka hkn he hb hc hne q' q
    · have e : layP pa pn px (.node a n u x l r) = .node a n u x l (layK pa pn px r (layP pa pn px r)) := by
        rw [layP]; rw [if_neg (by omega)]
      rw [e]
      cases r with
      | nil => exact lyN1 v ha hp hn hs
      | node ka kn ku kx kl kr =>
        obtain ⟨hka, hkn, hcv, hfk⟩ := hk
        by_cases he : ka = pa ∧ kn = pn
        · rw [layK, if_pos he]; exact lyE1 v ha hp hn hs hka he
        · cases hb : covB ka kn pa pn with
          | true => rw [layK, if_neg he, if_pos hb]; exact lyC1 v ha hp hn hs hka he hb ihr (hcv he hb)
          | false =>
            rw [layK, if_neg he, if_neg (by rw [hb]; simp)]
            obtain ⟨hc, h1, h2⟩ := hfk he hb
            unfold forkT
            by_cases hne : comA ka kn pa pn = pa ∧ comN ka kn pa pn = pn
            · rw [if_pos hne]
              unfold kidsAt
              rcases h1 hne with q | q
              · rw [if_pos q]; exact lyG1_0 v ha hp hn hs hka hkn he hb hc hne q
              · rw [if_neg (by omega)]; exact lyG1_1 v ha hp hn hs hka hkn he hb hc hne q
            · rw [if_neg hne]
              unfold kidsAt
              rcases h2 hne with ⟨q, q'⟩ | ⟨q, q'⟩
              · rw [if_pos q]; exact lyF1_1 v ha hp hn hs hka hkn he hb hc hne q' q
              · rw [if_neg (by omega)]; exact lyF1_0 v ha hp hn hs hka hkn he hb hc hne q' q
end Go.Proofs.Ytfienpkogkepkaa

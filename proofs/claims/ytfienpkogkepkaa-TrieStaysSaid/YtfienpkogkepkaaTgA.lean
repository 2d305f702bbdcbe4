/- trie: find, as a callee; a prefix's node. No condition. -/
import Derived.Test.YtfienpkogkepkaaTfS
import Derived.Test.YtfienpkogkepkaaChecked
import Derived.KernelRfl
namespace Go.Proofs.Ytfienpkogkepkaa
set_option linter.unusedVariables false
set_option linter.unusedSimpArgs false
open Go.RowKit E
/-- What a prefix's node holds. -/
def gtT (pa pn : Int) : PT → Option (Bool × Int)
  | .nil => none
  | .node a n u x l r => if a = pa ∧ n = pn then some (u, x) else if n ≥ pn then none else if covB a n pa pn = false then none else if sdN pa n = 0 then gtT pa pn l else gtT pa pn r
theorem fdO_gt {pa pn : Int} : ∀ {t : PT} {j : Nat}, (fdO pa pn t j = none → gtT pa pn t = none) ∧ (fdO pa pn t j = some (.val (.pointer none)) → gtT pa pn t = none) ∧
    ∀ i, fdO pa pn t j = some (.root 1 (i + 1) true) → ∃ k u x l r, i = j + k ∧ subAt t k = .node pa pn u x l r ∧ gtT pa pn t = some (u, x)
  | .nil, j => ⟨fun h => by simp [fdO] at h, fun _ => rfl, fun i h => by simp [fdO] at h⟩
  | .node a n u x l r, j => by
    rw [fdO, gtT]
    by_cases he : a = pa ∧ n = pn
    · rw [if_pos he, if_pos he]
      refine ⟨fun h => by simp at h, fun h => by simp at h, fun i h => ?_⟩
      obtain ⟨rfl, rfl⟩ := he
      simp at h
      exact ⟨0, u, x, l, r, by omega, rfl, rfl⟩
    · rw [if_neg he, if_neg he]
      by_cases hge : n ≥ pn
      · rw [if_pos hge, if_pos hge]
        exact ⟨fun _ => rfl, fun h => by simp at h, fun i h => by simp at h⟩
      · rw [if_neg hge, if_neg hge]
        by_cases hcv : covB a n pa pn = false
        · rw [if_pos hcv, if_pos hcv]
          exact ⟨fun _ => rfl, fun h => by simp at h, fun i h => by simp at h⟩
        · rw [if_neg hcv, if_neg hcv]
          by_cases hd : sdN pa n = 0
          · rw [if_pos hd, if_pos hd]
            obtain ⟨h1, h2, h3⟩ := fdO_gt (pa := pa) (pn := pn) (t := l) (j := j + 1)
            refine ⟨h1, h2, fun i h => ?_⟩
            obtain ⟨k, u', x', l', r', q1, q2, q3⟩ := h3 i h
            have hk : k < l.sz := subAt_lt (by rw [q2]; simp)
            exact ⟨k + 1, u', x', l', r', by omega, by rw [subAt, if_neg (by omega), Nat.add_sub_cancel, if_pos hk]; exact q2, q3⟩
          · rw [if_neg hd, if_neg hd]
            obtain ⟨h1, h2, h3⟩ := fdO_gt (pa := pa) (pn := pn) (t := r) (j := j + 1 + l.sz)
            refine ⟨h1, h2, fun i h => ?_⟩
            obtain ⟨k, u', x', l', r', q1, q2, q3⟩ := h3 i h
            exact ⟨k + 1 + l.sz, u', x', l', r', by omega, by rw [subAt, if_neg (by omega), if_neg (by omega), show k + 1 + l.sz - 1 - l.sz = k by omega]; exact q2, q3⟩
/-- A tree has its root: the empty prefix's node. -/
def RtT : PT → Prop
  | .nil => False
  | .node _ n _ _ _ _ => n = 0
structure FdN where
  T : PT
  k : Nat
  pa : Int
  pn : Int
  c : Int
  px : Int
  w : Option Value
/-- What find is asked. -/
def FdA (pa pn : Int) (T : PT) : Prop := (0 ≤ pa ∧ pa ≤ 4294967295) ∧ T.isN = false ∧ (rgt pa pn = true → FdOk pa pn T)
def fdMem (w : Option Value) (c : Int) (T : PT) : List Seg := [.robox 57 [.root 1 0 true, .val (.int .i64 c)], .roabs (TA w T)]
theorem fn_pin {f : FuncId} {args : List SV} {s : Seg} {T : PT} {w : Option Value} {r : SV} {m' : List Seg} (h : FnOk Try.prog f args [s, .roabs (TA none T)] r m') : FnOk Try.prog f args [s, .roabs (TA w T)] r m' := by
  intro env w0 w' S vals hv hm
  obtain ⟨vs, e1, v, F, rfl, ht, hp⟩ := hm.ok 1 _ rfl
  exact h env w0 w' S vals hv (hm.retell 1 _ (.roabs (TA none T)) rfl (fun e => by cases e) (fun _ => trivial) ⟨_, e1, v, F, rfl, ht, fun u hu => by cases hu⟩)
def fdArgs (pa pn : Int) : List SV := [.nv (.one (.ptr 0 0)), .nv (.agg [.val (.int .u32 pa), .val (.int .i64 pn)])]
def gFdH (N : FdN) : List SV → List Seg → Option (CS × List Prop)
  | [_, _], _ => some (⟨fdArgs N.pa N.pn, fdMem N.w N.c N.T, .nv (.one (.root 1 (N.k + 1) true)), [.gone, .gone]⟩, [])
  | _, _ => none
def gFdM (N : FdN) : List SV → List Seg → Option (CS × List Prop)
  | [_, _], _ => some (⟨fdArgs N.pa N.pn, fdMem N.w N.c N.T, .nv (.one (.val (.pointer none))), [.gone, .gone]⟩, [])
  | _, _ => none
def FdHit (N : FdN) : Prop := FdA N.pa N.pn N.T ∧ rgt N.pa N.pn = true ∧ fdRes N.pa N.pn N.T = .root 1 (N.k + 1) true
def FdMiss (N : FdN) : Prop := FdA N.pa N.pn N.T ∧ (rgt N.pa N.pn = true → fdRes N.pa N.pn N.T = .val (.pointer none))
theorem spFdH {N : FdN} (h : FdHit N) : SpOk Try.prog 19 (.lift (gFdH N)) := by
  intro args mem cs obl hg ho
  unfold gFdH at hg
  split at hg
  · simp only [Option.some.injEq, Prod.mk.injEq] at hg
    obtain ⟨rfl, rfl⟩ := hg
    obtain ⟨⟨ha, hT, hf⟩, hr, hd⟩ := h
    obtain ⟨T, k, pa, pn, c, px, w⟩ := N
    cases T with
    | nil => cases hT
    | node a n u x l r => have := fnFind (c := c) ha hr (hf hr); rw [hd] at this; exact fn_pin this
  · cases hg
theorem spFdM {N : FdN} (h : FdMiss N) : SpOk Try.prog 19 (.lift (gFdM N)) := by
  intro args mem cs obl hg ho
  unfold gFdM at hg
  split at hg
  · simp only [Option.some.injEq, Prod.mk.injEq] at hg
    obtain ⟨rfl, rfl⟩ := hg
    obtain ⟨⟨ha, hT, hf⟩, hd⟩ := h
    obtain ⟨T, k, pa, pn, c, px, w⟩ := N
    cases hr : rgt pa pn with
    | false => exact fn_pin (fd_wrong pa pn c (TA none T) 0 ha.1 ha.2 hr)
    | true =>
      cases T with
      | nil => cases hT
      | node a n u x l r => have := fnFind (c := c) ha hr (hf hr); rw [hd hr] at this; exact fn_pin this
  · cases hg
def Gfh (N : FdN) : List (FuncId × Sp) := (19, .lift (gFdH N)) :: Gt3
theorem Gfh_ok (N : FdN) (ih : FdHit N) : CtxOk Try.prog (Gfh N) := ctx_cons (enter_of Try.func19 (by kernel_rfl) (by kernel_rfl)) (spFdH ih) Gt3_ok
def Gfm (N : FdN) : List (FuncId × Sp) := (19, .lift (gFdM N)) :: Gt3
theorem Gfm_ok (N : FdN) (ih : FdMiss N) : CtxOk Try.prog (Gfm N) := ctx_cons (enter_of Try.func19 (by kernel_rfl) (by kernel_rfl)) (spFdM ih) Gt3_ok
end Go.Proofs.Ytfienpkogkepkaa

/- Runs of Go code, as printed by a program: no condition beyond those that each states. -/
namespace Go.Proofs.Ytfienpkogkepkaa
set_option linter.unusedVariables false
set_option linter.unusedSimpArgs false
set_option maxRecDepth 100000
open Go.RowKit E
attribute [local irreducible] wkL apG TA bl8 bl32 wdN msk prP inP sdN prT covB comN comA layP layK LyOk FkOk rgt hasB subAt HA updK gtT FdA fdRes ffO
set_option maxHeartbeats 2000000 in
theorem get_m (N : FdN) (ih : FdMiss N) : FnOk Try.prog 15 ([.nv (.one (.ptr 0 0)), .nv (.agg [.val (.int .u32 N.pa), .val (.int .i64 N.pn)])]) ([.robox 57 [.root 1 0 true, .val (.int .i64 N.c)], .roabs (TA N.w N.T)]) (.tup [.one (.val (.int .i64 0)), .one (.val (.bool false))]) ([.gone, .gone]) :=
  fn_run (Gfm_ok N ih) Try.func15 (orc := ⟨[true, true], []⟩) (obl := [(0 : Nat) = (0 : Nat),
      FdN.pa N = FdN.pa N,
      FdN.pn N = FdN.pn N,
      (0 : Nat) = (0 : Nat),
      FdN.c N = FdN.c N,
      TA (FdN.w N) (FdN.T N) = TA (FdN.w N) (FdN.T N),
      true = true,
      true = true,
      (0 : Int) = (0 : Int),
      false = false]) (by kernel_rfl) (.cons (by rfl) (.cons (by rfl) (.cons (by rfl) (.cons (by rfl) (.cons (by rfl) (.cons (by rfl) (.cons (by rfl) (.cons (by rfl) (.cons (by rfl) (.cons (by rfl) .nil)))))))))) (Nat.le_of_ble_eq_true (by kernel_rfl))

set_option maxHeartbeats 2000000 in
theorem get_a0 (N : FdN) (ih : FdHit N) : CodeOk Try.prog 2 (subC [false] (bodyOf Try.f15)) (mkSt 25 [(0, .nv (.one (.ptr 0 0))), (1, .nv (.agg [.val (.int .u32 N.pa), .val (.int .i64 N.pn)]))] [.robox 57 [.root 1 0 true, .val (.int .i64 N.c)], .roabs (TA N.w N.T)]) .normal (mkSt 25 [(0, .nv (.one (.ptr 0 0))), (3, .nv (.one (.ptr 2 0)))] [.robox 57 [.root 1 0 true, .val (.int .i64 N.c)], .roabs (TA N.w N.T), .box 28 [.val (.int .u32 N.pa), .val (.int .i64 N.pn)]]) :=
  code_run (Gfh_ok N ih) (orc := ⟨[], []⟩) (obl := [(0 : Nat) = (0 : Nat),
      (0 : Nat) = (0 : Nat),
      (0 : Nat) = (0 : Nat),
      FdN.c N = FdN.c N,
      TA (FdN.w N) (FdN.T N) = TA (FdN.w N) (FdN.T N),
      FdN.pa N = FdN.pa N,
      FdN.pn N = FdN.pn N]) (by kernel_rfl) (.cons (by rfl) (.cons (by rfl) (.cons (by rfl) (.cons (by rfl) (.cons (by rfl) (.cons (by rfl) (.cons (by rfl) .nil))))))) (Nat.le_of_ble_eq_true (by kernel_rfl))

set_option maxHeartbeats 2000000 in
theorem get_a1 (N : FdN) (ih : FdHit N) : CodeOk Try.prog 2 (subC [true, false] (bodyOf Try.f15)) (mkSt 25 [(0, .nv (.one (.ptr 0 0))), (3, .nv (.one (.ptr 2 0)))] [.robox 57 [.root 1 0 true, .val (.int .i64 N.c)], .roabs (TA N.w N.T), .box 28 [.val (.int .u32 N.pa), .val (.int .i64 N.pn)]]) .normal (mkSt 25 [(0, .nv (.one (.ptr 0 0))), (3, .nv (.one (.ptr 2 0))), (6, .nv (.one (.val (.int .i64 0))))] [.robox 57 [.root 1 0 true, .val (.int .i64 N.c)], .roabs (TA N.w N.T), .box 28 [.val (.int .u32 N.pa), .val (.int .i64 N.pn)]]) :=
  code_run (Gfh_ok N ih) (orc := ⟨[], []⟩) (obl := [(0 : Nat) = (0 : Nat),
      (0 : Nat) = (0 : Nat),
      (0 : Int) = (0 : Int),
      (0 : Nat) = (0 : Nat),
      FdN.c N = FdN.c N,
      TA (FdN.w N) (FdN.T N) = TA (FdN.w N) (FdN.T N),
      FdN.pa N = FdN.pa N,
      FdN.pn N = FdN.pn N]) (by kernel_rfl) (.cons (by rfl) (.cons (by rfl) (.cons (by rfl) (.cons (by rfl) (.cons (by rfl) (.cons (by rfl) (.cons (by rfl) (.cons (by rfl) .nil)))))))) (Nat.le_of_ble_eq_true (by kernel_rfl))

set_option maxHeartbeats 2000000 in
theorem get_a2 (N : FdN) (ih : FdHit N) : CodeOk Try.prog 2 (subC [true, true, false] (bodyOf Try.f15)) (mkSt 25 [(0, .nv (.one (.ptr 0 0))), (3, .nv (.one (.ptr 2 0))), (6, .nv (.one (.val (.int .i64 0))))] [.robox 57 [.root 1 0 true, .val (.int .i64 N.c)], .roabs (TA N.w N.T), .box 28 [.val (.int .u32 N.pa), .val (.int .i64 N.pn)]]) .normal (mkSt 25 [(6, .nv (.one (.val (.int .i64 0)))), (7, .nv (.one (.root 1 (N.k + 1) true)))] [.robox 57 [.root 1 0 true, .val (.int .i64 N.c)], .roabs (TA N.w N.T)]) :=
  code_run (Gfh_ok N ih) (orc := ⟨[], []⟩) (obl := [(0 : Nat) = (0 : Nat),
      FdN.pa N = FdN.pa N,
      FdN.pn N = FdN.pn N,
      (0 : Nat) = (0 : Nat),
      FdN.c N = FdN.c N,
      TA (FdN.w N) (FdN.T N) = TA (FdN.w N) (FdN.T N),
      (0 : Int) = (0 : Int),
      FdN.k N + (1 : Nat) = FdN.k N + (1 : Nat),
      (0 : Nat) = (0 : Nat),
      FdN.c N = FdN.c N,
      TA (FdN.w N) (FdN.T N) = TA (FdN.w N) (FdN.T N)]) (by kernel_rfl) (.cons (by rfl) (.cons (by rfl) (.cons (by rfl) (.cons (by rfl) (.cons (by rfl) (.cons (by rfl) (.cons (by rfl) (.cons (by rfl) (.cons (by rfl) (.cons (by rfl) (.cons (by rfl) .nil))))))))))) (Nat.le_of_ble_eq_true (by kernel_rfl))

set_option maxHeartbeats 2000000 in
theorem get_bt (pa pn c a n x : Int) (A : Abs) (c1 c2 : At) : CodeOk Try.prog 3 (subC [true, true, true] (bodyOf Try.f15)) (mkSt 25 [(6, .nv (.one (.val (.int .i64 0)))), (7, .nv (.one (.ptr 2 0)))] [.robox 57 [.root 1 0 true, .val (.int .i64 c)], .roabs A, .robox 55 [.val (.int .u32 a), .val (.int .i64 n), .val (.bool true), .val (.int .i64 x), c1, c2]]) .ret (mkSt 25 [(4, .nv (.one (.val (.int .i64 x)))), (5, .nv (.one (.val (.bool true))))] [.robox 57 [.root 1 0 true, .val (.int .i64 c)], .roabs A, .gone]) :=
  code_run Gt3_ok (orc := ⟨[false, false], []⟩) (obl := [false = false,
      (!true) = false,
      x = x,
      true = true,
      (0 : Nat) = (0 : Nat),
      c = c,
      A = A]) (by kernel_rfl) (.cons (by rfl) (.cons (by rfl) (.cons (by rfl) (.cons (by rfl) (.cons (by rfl) (.cons (by rfl) (.cons (by rfl) .nil))))))) (Nat.le_of_ble_eq_true (by kernel_rfl))

set_option maxHeartbeats 2000000 in
theorem get_bf (pa pn c a n x : Int) (A : Abs) (c1 c2 : At) : CodeOk Try.prog 3 (subC [true, true, true] (bodyOf Try.f15)) (mkSt 25 [(6, .nv (.one (.val (.int .i64 0)))), (7, .nv (.one (.ptr 2 0)))] [.robox 57 [.root 1 0 true, .val (.int .i64 c)], .roabs A, .robox 55 [.val (.int .u32 a), .val (.int .i64 n), .val (.bool false), .val (.int .i64 x), c1, c2]]) .ret (mkSt 25 [(4, .nv (.one (.val (.int .i64 0)))), (5, .nv (.one (.val (.bool false))))] [.robox 57 [.root 1 0 true, .val (.int .i64 c)], .roabs A, .gone]) :=
  code_run Gt3_ok (orc := ⟨[false, true], []⟩) (obl := [false = false,
      (!false) = true,
      (0 : Int) = (0 : Int),
      false = false,
      (0 : Nat) = (0 : Nat),
      c = c,
      A = A]) (by kernel_rfl) (.cons (by rfl) (.cons (by rfl) (.cons (by rfl) (.cons (by rfl) (.cons (by rfl) (.cons (by rfl) (.cons (by rfl) .nil))))))) (Nat.le_of_ble_eq_true (by kernel_rfl))
end Go.Proofs.Ytfienpkogkepkaa

/- trie: Get, and what Put calls. No condition. -/
namespace Go.Proofs.Ytfienpkogkepkaa
set_option linter.unusedVariables false
set_option linter.unusedSimpArgs false
open Go.RowKit E
/-- What a table has under a prefix. -/
def geT (pa pn : Int) (T : PT) : Option Int := if rgt pa pn = false then none else match gtT pa pn T with
  | some (true, x) => some x
  | _ => none
theorem fd_cases {pa pn : Int} {T : PT} : (fdRes pa pn T = .val (.pointer none) ∧ gtT pa pn T = none) ∨ ∃ k u x l r, fdRes pa pn T = .root 1 (k + 1) true ∧ subAt T k = .node pa pn u x l r ∧ gtT pa pn T = some (u, x) := by
  obtain ⟨h1, h2, h3⟩ := fdO_gt (pa := pa) (pn := pn) (t := T) (j := 0)
  unfold fdRes
  rcases fdO_cases (pa := pa) (pn := pn) (t := T) (j := 0) with e | e | ⟨k, e⟩
  · rw [e]; exact .inl ⟨rfl, h1 e⟩
  · rw [e]; exact .inl ⟨rfl, h2 e⟩
  · rw [e]
    obtain ⟨k', u, x, l, r, q1, q2, q3⟩ := h3 k e
    rw [Nat.zero_add] at q1
    subst q1
    exact .inr ⟨k, u, x, l, r, rfl, q2, q3⟩
def boolOf (o : Option Int) : Bool := o.isSome
def xOf (o : Option Int) : Int := o.getD 0
set_option maxRecDepth 100000 in
theorem ge_body : bodyOf Try.f15 = .seq (subC [false] (bodyOf Try.f15)) (.seq (subC [true, false] (bodyOf Try.f15)) (.seq (subC [true, true, false] (bodyOf Try.f15)) (subC [true, true, true] (bodyOf Try.f15)))) := by kernel_rfl
theorem mapG (σ : At → At) (h : ∀ v, σ (.val v) = .val v) (x y : Int) (c : At) : (mkSt 25 [(6, .nv (.one (.val (.int .i64 x)))), (7, .nv (.one c))] []).tm.map (SV.map σ) = (mkSt 25 [(6, .nv (.one (.val (.int .i64 x)))), (7, .nv (.one (σ c)))] []).tm := by
  rw [show (mkSt 25 [(6, .nv (.one (.val (.int .i64 x)))), (7, .nv (.one c))] []).tm.map (SV.map σ) = (mkSt 25 [(6, .nv (.one (σ (.val (.int .i64 x))))), (7, .nv (.one (σ c)))] []).tm from rfl, h]
theorem mapG2 (σ : At → At) (h : ∀ v, σ (.val v) = .val v) (x : Int) (b : Bool) : (mkSt 25 [(4, .nv (.one (.val (.int .i64 x)))), (5, .nv (.one (.val (.bool b))))] []).tm.map (SV.map σ) = (mkSt 25 [(4, .nv (.one (.val (.int .i64 x)))), (5, .nv (.one (.val (.bool b))))] []).tm := by
  rw [show (mkSt 25 [(4, .nv (.one (.val (.int .i64 x)))), (5, .nv (.one (.val (.bool b))))] []).tm.map (SV.map σ) = (mkSt 25 [(4, .nv (.one (σ (.val (.int .i64 x))))), (5, .nv (.one (σ (.val (.bool b)))))] []).tm from rfl, h, h]
set_option maxRecDepth 100000 in
theorem fnGet {pa pn : Int} {T : PT} {c : Int} {w : Option Value} (h : FdA pa pn T) : FnOk Try.prog 15 (fdArgs pa pn) (fdMem w c T) (.tup [.one (.val (.int .i64 (xOf (geT pa pn T)))), .one (.val (.bool (boolOf (geT pa pn T))))]) [.gone, .gone] := by
  by_cases hr : rgt pa pn = true
  · rcases fd_cases (pa := pa) (pn := pn) (T := T) with ⟨h1, h2⟩ | ⟨k, u, x, l, r, h1, h2, h3⟩
    · have e : geT pa pn T = none := by unfold geT; rw [hr, h2]; rfl
      rw [e]
      exact get_m ⟨T, 0, pa, pn, c, 0, w⟩ ⟨h, fun _ => h1⟩
    · have ih : FdHit ⟨T, k, pa, pn, c, 0, w⟩ := ⟨h, hr, h1⟩
      have e : geT pa pn T = if u = true then some x else none := by unfold geT; rw [hr, h3]; cases u <;> rfl
      rw [e]
      have key : ∀ u0 x0, (CodeOk Try.prog 3 (subC [true, true, true] (bodyOf Try.f15)) (mkSt 25 [(6, .nv (.one (.val (.int .i64 0)))), (7, .nv (.one (.ptr 2 0)))] (fdMem w c T ++ [.robox tNd (ndA pa pn u x (kidI 1 (k + 1) l) (kidI 1 (k + 1 + l.sz) r))])) .ret (mkSt 25 [(4, .nv (.one (.val (.int .i64 x0)))), (5, .nv (.one (.val (.bool u0))))] (fdMem w c T ++ [.gone]))) →
          FnOk Try.prog 15 (fdArgs pa pn) (fdMem w c T) (.tup [.one (.val (.int .i64 x0)), .one (.val (.bool u0))]) [.gone, .gone] := by
        intro u0 x0 hc
        have hl := look_code (P := Try.prog) (m0 := 2) (c := subC [true, true, true] (bodyOf Try.f15)) (tm := (mkSt 25 [(6, .nv (.one (.val (.int .i64 0)))), (7, .nv (.one (.root 1 (k + 1) true)))] []).tm) (mem := fdMem w c T) (h := 1) (k := k) (pin := w) (t := T) (e := .ret) (tm2 := (mkSt 25 [(4, .nv (.one (.val (.int .i64 x0)))), (5, .nv (.one (.val (.bool u0))))] []).tm) (mem2 := fdMem w c T ++ [.gone]) rfl h2 (Nat.le_refl _) rfl (by
          rw [mapG _ (fun _ => rfl) 0 0, lkA_hit]; exact hc)
        rw [mapG2 _ (fun _ => rfl)] at hl
        have key2 : CodeOk Try.prog 2 (bodyOf Try.f15) ⟨fdArgs pa pn ++ List.replicate 23 .any, fdMem w c T⟩ .ret (mkSt 25 [(4, .nv (.one (.val (.int .i64 x0)))), (5, .nv (.one (.val (.bool u0))))] [.gone, .gone]) := by
          rw [ge_body]
          refine CodeOk.seq (get_a0 _ ih) (CodeOk.seq (get_a1 _ ih) (CodeOk.seq (get_a2 _ ih) (CodeOk.post hl ?_)))
          exact tran_list (L := [x0 = x0, u0 = u0]) (by kernel_rfl) ⟨rfl, rfl, trivial⟩ (Nat.le_refl _)
        exact fn_of_code (c := bodyOf Try.f15) (tm := fdArgs pa pn ++ List.replicate 23 .any) (o := []) Try.func15 (by kernel_rfl) (by kernel_rfl) key2 (.inl rfl) (by kernel_rfl) trivial
      cases u with
      | true => exact key true x (get_bt pa pn c pa pn x _ _ _)
      | false => exact key false 0 (get_bf pa pn c pa pn x _ _ _)
  · have e : geT pa pn T = none := by unfold geT; rw [if_pos (by simpa using hr)]
    rw [e]
    exact get_m ⟨T, 0, pa, pn, c, 0, w⟩ ⟨h, fun q => absurd q hr⟩
end Go.Proofs.Ytfienpkogkepkaa

/- trie: what Put, Drop and All call. No condition. -/
namespace Go.Proofs.Ytfienpkogkepkaa
set_option linter.unusedVariables false
set_option linter.unusedSimpArgs false
open Go.RowKit E
def PlOk (N : FdN) : Prop := FdMiss N ∧ 0 ≤ N.pn ∧ LyOk N.pa N.pn N.T ∧ ∃ v, N.w = some v
def gPlS (N : FdN) : List SV → List Seg → Option (CS × List Prop)
  | [_, _], _ => some (⟨[.nv (.one (.root 0 0 true)), .nv (.one (.ptr 1 0))], [.abs (TA N.w N.T), nwS N.pa N.pn N.px], .tup [], [.gone, .gone, .abs (TA N.w (layP N.pa N.pn N.px N.T))]⟩, [])
  | _, _ => none
theorem spPlS {N : FdN} (h : PlOk N) : SpOk Try.prog 21 (.lift (gPlS N)) := by
  intro args mem cs obl hg ho
  unfold gPlS at hg
  split at hg
  · simp only [Option.some.injEq, Prod.mk.injEq] at hg
    obtain ⟨rfl, rfl⟩ := hg
    obtain ⟨h1, h2, h3, v, h4⟩ := h
    simp only [h4]
    exact fnLay h1.1.1 h2 N.T h3 v
  · cases hg
def Gpl (N : FdN) : List (FuncId × Sp) := (21, .lift (gPlS N)) :: Gfm N
theorem Gpl_ok (N : FdN) (ih : PlOk N) : CtxOk Try.prog (Gpl N) := ctx_cons (enter_of Try.func21 (by kernel_rfl) (by kernel_rfl)) (spPlS ih) (Gfm_ok N ih.1)
def GnOk (N : FdN) : Prop := FdA N.pa N.pn N.T ∧ geT N.pa N.pn N.T = none
def GyOk (N : FdN) : Prop := FdA N.pa N.pn N.T ∧ geT N.pa N.pn N.T = some N.px ∧ inP N.pa N.pn N.T ∧ RtT N.T ∧ ∃ v, N.w = some v
def gGe (b : Bool) (N : FdN) : List SV → List Seg → Option (CS × List Prop)
  | [_, _], _ => some (⟨fdArgs N.pa N.pn, fdMem N.w N.c N.T, .tup [.one (.val (.int .i64 (bif b then N.px else 0))), .one (.val (.bool b))], [.gone, .gone]⟩, [])
  | _, _ => none
theorem spGn {N : FdN} (h : GnOk N) : SpOk Try.prog 15 (.lift (gGe false N)) := by
  intro args mem cs obl hg ho
  unfold gGe at hg
  split at hg
  · simp only [Option.some.injEq, Prod.mk.injEq] at hg
    obtain ⟨rfl, rfl⟩ := hg
    have := fnGet (c := N.c) (w := N.w) h.1
    rw [h.2] at this
    exact this
  · cases hg
theorem spGy {N : FdN} (h : GyOk N) : SpOk Try.prog 15 (.lift (gGe true N)) := by
  intro args mem cs obl hg ho
  unfold gGe at hg
  split at hg
  · simp only [Option.some.injEq, Prod.mk.injEq] at hg
    obtain ⟨rfl, rfl⟩ := hg
    have := fnGet (c := N.c) (w := N.w) h.1
    rw [h.2.1] at this
    exact this
  · cases hg
def gPrR (N : FdN) : List SV → List Seg → Option (CS × List Prop)
  | [_, _], _ => some (⟨[.nv (.one (.root 0 0 true)), .nv (.agg [.val (.int .u32 N.pa), .val (.int .i64 N.pn)])], [.abs (TA N.w N.T)], .nv (.one .any), [.gone, .abs (TA N.w (prP N.pa N.pn N.T))]⟩, [])
  | _, _ => none
theorem spPrR {N : FdN} (h : GyOk N) : SpOk Try.prog 26 (.lift (gPrR N)) := by
  intro args mem cs obl hg ho
  unfold gPrR at hg
  split at hg
  · simp only [Option.some.injEq, Prod.mk.injEq] at hg
    obtain ⟨rfl, rfl⟩ := hg
    obtain ⟨h1, h2, h3, h4, v, h5⟩ := h
    obtain ⟨T, k, pa, pn, c, px, w⟩ := N
    cases T with
    | nil => exact h4.elim
    | node a n u x l r =>
      have h4 : n = 0 := h4
      subst h4
      simp only at h5
      subst h5
      exact fnPruneR h1.1 h3 v
  · cases hg
def Ggn (N : FdN) : List (FuncId × Sp) := (15, .lift (gGe false N)) :: Gt3
theorem Ggn_ok (N : FdN) (ih : GnOk N) : CtxOk Try.prog (Ggn N) := ctx_cons (enter_of Try.func15 (by kernel_rfl) (by kernel_rfl)) (spGn ih) Gt3_ok
def Ggy (N : FdN) : List (FuncId × Sp) := (15, .lift (gGe true N)) :: (26, .lift (gPrR N)) :: Gt3
theorem Ggy_ok (N : FdN) (ih : GyOk N) : CtxOk Try.prog (Ggy N) := ctx_cons (enter_of Try.func15 (by kernel_rfl) (by kernel_rfl)) (spGy ih) <|
  ctx_cons (enter_of Try.func26 (by kernel_rfl) (by kernel_rfl)) (spPrR ih) Gt3_ok
def gWa (N : FdN) : List SV → List Seg → Option (CS × List Prop)
  | [_, _], _ => some (⟨[.nv (.one (.root 0 0 false)), .nv (.one (.own 1))], [.roabs (TA N.w N.T), .row 28 2 0 (gPf (fun _ => ⟨0, 0⟩))], .nv (.one (.own 2)), [.gone, .gone, .row 28 2 (wkL N.T).length (gPf (apG (fun _ => ⟨0, 0⟩) 0 (wkL N.T)))]⟩, [])
  | _, _ => none
theorem fn_pin0 {f : FuncId} {args : List SV} {M : List Seg} {T : PT} {w : Option Value} {r : SV} {m' : List Seg} (h : FnOk Try.prog f args (.roabs (TA none T) :: M) r m') : FnOk Try.prog f args (.roabs (TA w T) :: M) r m' := by
  intro env w0 w' S vals hv hm
  obtain ⟨vs, e1, v, F, rfl, ht, hp⟩ := hm.ok 0 _ rfl
  exact h env w0 w' S vals hv (hm.retell 0 _ (.roabs (TA none T)) rfl (fun e => by cases e) (fun _ => trivial) ⟨_, e1, v, F, rfl, ht, fun u hu => by cases hu⟩)
theorem spWa {N : FdN} (h : (wkL N.T).length ≤ 1000000) : SpOk Try.prog 28 (.lift (gWa N)) := by
  intro args mem cs obl hg ho
  unfold gWa at hg
  split at hg
  · simp only [Option.some.injEq, Prod.mk.injEq] at hg
    obtain ⟨rfl, rfl⟩ := hg
    have := fnWalk N.T 0 (fun _ => ⟨0, 0⟩) (by omega)
    rw [Nat.zero_add] at this
    exact fn_pin0 this
  · cases hg
def Gwa (N : FdN) : List (FuncId × Sp) := (28, .lift (gWa N)) :: Gt3
theorem Gwa_ok (N : FdN) (ih : (wkL N.T).length ≤ 1000000) : CtxOk Try.prog (Gwa N) := ctx_cons (enter_of Try.func28 (by kernel_rfl) (by kernel_rfl)) (spWa ih) Gt3_ok
end Go.Proofs.Ytfienpkogkepkaa

/- Runs of Go code, as printed by a program: no condition beyond those that each states. -/
namespace Go.Proofs.Ytfienpkogkepkaa
set_option linter.unusedVariables false
set_option linter.unusedSimpArgs false
set_option maxRecDepth 100000
open Go.RowKit E
attribute [local irreducible] wkL apG TA bl8 bl32 wdN msk prP inP sdN prT covB comN comA layP layK LyOk FkOk rgt hasB subAt HA updK gtT FdA fdRes ffO
set_option maxHeartbeats 2000000 in
theorem put_w (N : FdN) (ih : FdMiss N) (ha : 0 ≤ N.pa) (ha2 : N.pa ≤ 4294967295) (hr : rgt N.pa N.pn = false) : FnOk Try.prog 8 ([.nv (.one (.ptr 0 0)), .nv (.agg [.val (.int .u32 N.pa), .val (.int .i64 N.pn)]), .nv (.one (.val (.int .i64 N.px)))]) ([.box 57 [.root 1 0 true, .val (.int .i64 (N.c))], .abs (TA N.w N.T)]) (.nv (.one (.val (.int .i64 6)))) ([.box 57 [.root 1 0 true, .val (.int .i64 (N.c))], .abs (TA N.w N.T)]) :=
  fn_run (Gfm_ok N ih) Try.func8 (orc := ⟨[false, false, true], []⟩) (obl := [false = false,
      false = false,
      (0 : Nat) = (0 : Nat),
      FdN.pa N = FdN.pa N,
      FdN.pn N = FdN.pn N,
      (0 : Nat) = (0 : Nat),
      FdN.c N = FdN.c N,
      TA (FdN.w N) (FdN.T N) = TA (FdN.w N) (FdN.T N),
      (0 : Int) ≤ FdN.pa N,
      FdN.pa N ≤ (4294967295 : Int),
      (!rgt (FdN.pa N) (FdN.pn N)) = true,
      (6 : Int) = (6 : Int),
      (0 : Nat) = (0 : Nat),
      FdN.c N = FdN.c N,
      TA (FdN.w N) (FdN.T N) = TA (FdN.w N) (FdN.T N)]) (by kernel_rfl) (.cons (by rfl) (.cons (by rfl) (.cons (by rfl) (.cons (by rfl) (.cons (by rfl) (.cons (by rfl) (.cons (by rfl) (.cons (by rfl) (.cons (by assumption) (.cons (by assumption) (.cons (by (simp [*]; done)) (.cons (by rfl) (.cons (by rfl) (.cons (by rfl) (.cons (by rfl) .nil))))))))))))))) (Nat.le_of_ble_eq_true (by kernel_rfl))

set_option maxHeartbeats 2000000 in
theorem put_f (N : FdN) (ih : FdMiss N) (ha : 0 ≤ N.pa) (ha2 : N.pa ≤ 4294967295) (hr : rgt N.pa N.pn = true) (hc : N.c ≥ 4096) : FnOk Try.prog 8 ([.nv (.one (.ptr 0 0)), .nv (.agg [.val (.int .u32 N.pa), .val (.int .i64 N.pn)]), .nv (.one (.val (.int .i64 N.px)))]) ([.box 57 [.root 1 0 true, .val (.int .i64 (N.c))], .abs (TA N.w N.T)]) (.nv (.one (.val (.int .i64 20)))) ([.box 57 [.root 1 0 true, .val (.int .i64 (N.c))], .abs (TA N.w N.T)]) :=
  fn_run (Gfm_ok N ih) Try.func8 (orc := ⟨[false, false, false, false, false, true], []⟩) (obl := [false = false,
      false = false,
      (0 : Nat) = (0 : Nat),
      FdN.pa N = FdN.pa N,
      FdN.pn N = FdN.pn N,
      (0 : Nat) = (0 : Nat),
      FdN.c N = FdN.c N,
      TA (FdN.w N) (FdN.T N) = TA (FdN.w N) (FdN.T N),
      (0 : Int) ≤ FdN.pa N,
      FdN.pa N ≤ (4294967295 : Int),
      (!rgt (FdN.pa N) (FdN.pn N)) = false,
      false = false,
      false = false,
      decide (FdN.c N ≥ (4096 : Int)) = true,
      (20 : Int) = (20 : Int),
      (0 : Nat) = (0 : Nat),
      FdN.c N = FdN.c N,
      TA (FdN.w N) (FdN.T N) = TA (FdN.w N) (FdN.T N)]) (by kernel_rfl) (.cons (by rfl) (.cons (by rfl) (.cons (by rfl) (.cons (by rfl) (.cons (by rfl) (.cons (by rfl) (.cons (by rfl) (.cons (by rfl) (.cons (by assumption) (.cons (by assumption) (.cons (by (simp [*]; done)) (.cons (by rfl) (.cons (by rfl) (.cons (by exact decide_eq_true (by omega)) (.cons (by rfl) (.cons (by rfl) (.cons (by rfl) (.cons (by rfl) .nil)))))))))))))))))) (Nat.le_of_ble_eq_true (by kernel_rfl))

set_option maxHeartbeats 2000000 in
theorem put_l (N : FdN) (ih : PlOk N) (ha : 0 ≤ N.pa) (ha2 : N.pa ≤ 4294967295) (hr : rgt N.pa N.pn = true) (hc : ¬ N.c ≥ 4096) (c' : Int) (hw : IntKind.wrap .i64 (N.c + 1) = c') : CodeOk Try.prog 2 (bodyOf Try.f8) (mkSt 68 [(0, .nv (.one (.ptr 0 0))), (1, .nv (.agg [.val (.int .u32 N.pa), .val (.int .i64 N.pn)])), (2, .nv (.one (.val (.int .i64 N.px))))] [.box 57 [.root 1 0 true, .val (.int .i64 (N.c))], .abs (TA N.w N.T)]) .ret (mkSt 68 [(6, .nv (.one (.val (.int .i64 0))))] [.box 57 [.root 1 0 true, .val (.int .i64 (c'))], .gone, .gone, .gone, .abs (TA N.w (layP N.pa N.pn N.px N.T))]) :=
  code_run (Gpl_ok N ih) (orc := ⟨[false, false, false, false, false, false, false], []⟩) (obl := [false = false,
      false = false,
      (0 : Nat) = (0 : Nat),
      FdN.pa N = FdN.pa N,
      FdN.pn N = FdN.pn N,
      (0 : Nat) = (0 : Nat),
      FdN.c N = FdN.c N,
      TA (FdN.w N) (FdN.T N) = TA (FdN.w N) (FdN.T N),
      (0 : Int) ≤ FdN.pa N,
      FdN.pa N ≤ (4294967295 : Int),
      (!rgt (FdN.pa N) (FdN.pn N)) = false,
      false = false,
      false = false,
      decide (FdN.c N ≥ (4096 : Int)) = false,
      false = false,
      (0 : Nat) = (0 : Nat),
      (0 : Nat) = (0 : Nat),
      TA (FdN.w N) (FdN.T N) = TA (FdN.w N) (FdN.T N),
      FdN.pa N = FdN.pa N,
      FdN.pn N = FdN.pn N,
      true = true,
      FdN.px N = FdN.px N,
      Value.pointer none = Value.pointer none,
      Value.pointer none = Value.pointer none,
      (0 : Int) = (0 : Int),
      (0 : Nat) = (0 : Nat),
      IntKind.wrap IntKind.i64 (FdN.c N + (1 : Int)) = c',
      TA (FdN.w N) (layP (FdN.pa N) (FdN.pn N) (FdN.px N) (FdN.T N)) = TA (FdN.w N) (layP (FdN.pa N) (FdN.pn N) (FdN.px N) (FdN.T N))]) (by kernel_rfl) (.cons (by rfl) (.cons (by rfl) (.cons (by rfl) (.cons (by rfl) (.cons (by rfl) (.cons (by rfl) (.cons (by rfl) (.cons (by rfl) (.cons (by assumption) (.cons (by assumption) (.cons (by (simp [*]; done)) (.cons (by rfl) (.cons (by rfl) (.cons (by exact decide_eq_false (by omega)) (.cons (by rfl) (.cons (by rfl) (.cons (by rfl) (.cons (by rfl) (.cons (by rfl) (.cons (by rfl) (.cons (by rfl) (.cons (by rfl) (.cons (by rfl) (.cons (by rfl) (.cons (by rfl) (.cons (by rfl) (.cons (by assumption) (.cons (by rfl) .nil)))))))))))))))))))))))))))) (Nat.le_of_ble_eq_true (by kernel_rfl))

set_option maxHeartbeats 2000000 in
theorem put_a0 (N : FdN) (ih : FdHit N) : CodeOk Try.prog 2 (subC [false] (bodyOf Try.f8)) (mkSt 68 [(0, .nv (.one (.ptr 0 0))), (1, .nv (.agg [.val (.int .u32 N.pa), .val (.int .i64 N.pn)])), (2, .nv (.one (.val (.int .i64 N.px))))] [.box 57 [.root 1 0 true, .val (.int .i64 (N.c))], .abs (TA N.w N.T)]) .normal (mkSt 68 [(0, .nv (.one (.ptr 0 0))), (2, .nv (.one (.val (.int .i64 N.px)))), (4, .nv (.one (.ptr 2 0)))] [.box 57 [.root 1 0 true, .val (.int .i64 (N.c))], .abs (TA N.w N.T), .box 28 [.val (.int .u32 N.pa), .val (.int .i64 N.pn)]]) :=
  code_run (Gfh_ok N ih) (orc := ⟨[], []⟩) (obl := [(0 : Nat) = (0 : Nat),
      FdN.px N = FdN.px N,
      (0 : Nat) = (0 : Nat),
      (0 : Nat) = (0 : Nat),
      FdN.c N = FdN.c N,
      TA (FdN.w N) (FdN.T N) = TA (FdN.w N) (FdN.T N),
      FdN.pa N = FdN.pa N,
      FdN.pn N = FdN.pn N]) (by kernel_rfl) (.cons (by rfl) (.cons (by rfl) (.cons (by rfl) (.cons (by rfl) (.cons (by rfl) (.cons (by rfl) (.cons (by rfl) (.cons (by rfl) .nil)))))))) (Nat.le_of_ble_eq_true (by kernel_rfl))

set_option maxHeartbeats 2000000 in
theorem put_a1 (N : FdN) (ih : FdHit N) : CodeOk Try.prog 2 (subC [true, false] (bodyOf Try.f8)) (mkSt 68 [(0, .nv (.one (.ptr 0 0))), (2, .nv (.one (.val (.int .i64 N.px)))), (4, .nv (.one (.ptr 2 0)))] [.box 57 [.root 1 0 true, .val (.int .i64 (N.c))], .abs (TA N.w N.T), .box 28 [.val (.int .u32 N.pa), .val (.int .i64 N.pn)]]) .normal (mkSt 68 [(0, .nv (.one (.ptr 0 0))), (2, .nv (.one (.val (.int .i64 N.px)))), (4, .nv (.one (.ptr 2 0)))] [.box 57 [.root 1 0 true, .val (.int .i64 (N.c))], .abs (TA N.w N.T), .box 28 [.val (.int .u32 N.pa), .val (.int .i64 N.pn)]]) :=
  code_run (Gfh_ok N ih) (orc := ⟨[false], []⟩) (obl := [false = false,
      (0 : Nat) = (0 : Nat),
      FdN.px N = FdN.px N,
      (0 : Nat) = (0 : Nat),
      (0 : Nat) = (0 : Nat),
      FdN.c N = FdN.c N,
      TA (FdN.w N) (FdN.T N) = TA (FdN.w N) (FdN.T N),
      FdN.pa N = FdN.pa N,
      FdN.pn N = FdN.pn N]) (by kernel_rfl) (.cons (by rfl) (.cons (by rfl) (.cons (by rfl) (.cons (by rfl) (.cons (by rfl) (.cons (by rfl) (.cons (by rfl) (.cons (by rfl) (.cons (by rfl) .nil))))))))) (Nat.le_of_ble_eq_true (by kernel_rfl))

set_option maxHeartbeats 2000000 in
theorem put_a2 (N : FdN) (ih : FdHit N) : CodeOk Try.prog 2 (subC [true, true, false] (bodyOf Try.f8)) (mkSt 68 [(0, .nv (.one (.ptr 0 0))), (2, .nv (.one (.val (.int .i64 N.px)))), (4, .nv (.one (.ptr 2 0)))] [.box 57 [.root 1 0 true, .val (.int .i64 (N.c))], .abs (TA N.w N.T), .box 28 [.val (.int .u32 N.pa), .val (.int .i64 N.pn)]]) .normal (mkSt 68 [(0, .nv (.one (.ptr 0 0))), (2, .nv (.one (.val (.int .i64 N.px)))), (4, .nv (.one (.ptr 2 0)))] [.box 57 [.root 1 0 true, .val (.int .i64 (N.c))], .abs (TA N.w N.T), .box 28 [.val (.int .u32 N.pa), .val (.int .i64 N.pn)]]) :=
  code_run (Gfh_ok N ih) (orc := ⟨[false], []⟩) (obl := [false = false,
      (0 : Nat) = (0 : Nat),
      FdN.px N = FdN.px N,
      (0 : Nat) = (0 : Nat),
      (0 : Nat) = (0 : Nat),
      FdN.c N = FdN.c N,
      TA (FdN.w N) (FdN.T N) = TA (FdN.w N) (FdN.T N),
      FdN.pa N = FdN.pa N,
      FdN.pn N = FdN.pn N]) (by kernel_rfl) (.cons (by rfl) (.cons (by rfl) (.cons (by rfl) (.cons (by rfl) (.cons (by rfl) (.cons (by rfl) (.cons (by rfl) (.cons (by rfl) (.cons (by rfl) .nil))))))))) (Nat.le_of_ble_eq_true (by kernel_rfl))

set_option maxHeartbeats 2000000 in
theorem put_a3 (N : FdN) (ih : FdHit N) : CodeOk Try.prog 2 (subC [true, true, true, false] (bodyOf Try.f8)) (mkSt 68 [(0, .nv (.one (.ptr 0 0))), (2, .nv (.one (.val (.int .i64 N.px)))), (4, .nv (.one (.ptr 2 0)))] [.box 57 [.root 1 0 true, .val (.int .i64 (N.c))], .abs (TA N.w N.T), .box 28 [.val (.int .u32 N.pa), .val (.int .i64 N.pn)]]) .normal (mkSt 68 [(0, .nv (.one (.ptr 0 0))), (2, .nv (.one (.val (.int .i64 N.px)))), (4, .nv (.one (.ptr 2 0))), (7, .nv (.one (.root 1 (N.k + 1) true)))] [.box 57 [.root 1 0 true, .val (.int .i64 (N.c))], .abs (TA N.w N.T), .box 28 [.val (.int .u32 N.pa), .val (.int .i64 N.pn)]]) :=
  code_run (Gfh_ok N ih) (orc := ⟨[], []⟩) (obl := [(0 : Nat) = (0 : Nat),
      FdN.pa N = FdN.pa N,
      FdN.pn N = FdN.pn N,
      (0 : Nat) = (0 : Nat),
      FdN.c N = FdN.c N,
      TA (FdN.w N) (FdN.T N) = TA (FdN.w N) (FdN.T N),
      (0 : Nat) = (0 : Nat),
      FdN.px N = FdN.px N,
      (0 : Nat) = (0 : Nat),
      FdN.k N + (1 : Nat) = FdN.k N + (1 : Nat),
      (0 : Nat) = (0 : Nat),
      FdN.c N = FdN.c N,
      TA (FdN.w N) (FdN.T N) = TA (FdN.w N) (FdN.T N),
      FdN.pa N = FdN.pa N,
      FdN.pn N = FdN.pn N]) (by kernel_rfl) (.cons (by rfl) (.cons (by rfl) (.cons (by rfl) (.cons (by rfl) (.cons (by rfl) (.cons (by rfl) (.cons (by rfl) (.cons (by rfl) (.cons (by rfl) (.cons (by rfl) (.cons (by rfl) (.cons (by rfl) (.cons (by rfl) (.cons (by rfl) (.cons (by rfl) .nil))))))))))))))) (Nat.le_of_ble_eq_true (by kernel_rfl))

set_option maxHeartbeats 2000000 in
theorem put_bu (N : FdN) (x : Int) (A : Abs) (vl vr : Option Addr) (ha : 0 ≤ N.pa) (ha2 : N.pa ≤ 4294967295) (hr : rgt N.pa N.pn = true) (c' : Int) (hw : IntKind.wrap .i64 (N.c + 1) = c') : CodeOk Try.prog 5 (subC [true, true, true, true] (bodyOf Try.f8)) (mkSt 68 [(0, .nv (.one (.ptr 0 0))), (2, .nv (.one (.val (.int .i64 N.px)))), (4, .nv (.one (.ptr 2 0))), (7, .nv (.one (.ptr 3 0)))] [.box 57 [.root 1 0 true, .val (.int .i64 (N.c))], .gone, .box 28 [.val (.int .u32 N.pa), .val (.int .i64 N.pn)], .box 55 [.val (.int .u32 N.pa), .val (.int .i64 N.pn), .val (.bool true), .val (.int .i64 x), .val (.pointer vl), .val (.pointer vr)], .abs A]) .ret (mkSt 68 [(6, .nv (.one (.val (.int .i64 8))))] [.box 57 [.root 1 0 true, .val (.int .i64 (N.c))], .gone, .box 28 [.val (.int .u32 N.pa), .val (.int .i64 N.pn)], .box 55 [.val (.int .u32 N.pa), .val (.int .i64 N.pn), .val (.bool true), .val (.int .i64 x), .val (.pointer vl), .val (.pointer vr)], .abs A]) :=
  code_run Gt3_ok (orc := ⟨[false, true, true], []⟩) (obl := [(0 : Int) ≤ FdN.pa N,
      FdN.pa N ≤ (4294967295 : Int),
      (!rgt (FdN.pa N) (FdN.pn N)) = false,
      true = true,
      true = true,
      (8 : Int) = (8 : Int),
      (0 : Nat) = (0 : Nat),
      FdN.c N = FdN.c N,
      FdN.pa N = FdN.pa N,
      FdN.pn N = FdN.pn N,
      FdN.pa N = FdN.pa N,
      FdN.pn N = FdN.pn N,
      true = true,
      x = x,
      Value.pointer vl = Value.pointer vl,
      Value.pointer vr = Value.pointer vr,
      A = A]) (by kernel_rfl) (.cons (by assumption) (.cons (by assumption) (.cons (by (simp [*]; done)) (.cons (by rfl) (.cons (by rfl) (.cons (by rfl) (.cons (by rfl) (.cons (by rfl) (.cons (by rfl) (.cons (by rfl) (.cons (by rfl) (.cons (by rfl) (.cons (by rfl) (.cons (by rfl) (.cons (by rfl) (.cons (by rfl) (.cons (by rfl) .nil))))))))))))))))) (Nat.le_of_ble_eq_true (by kernel_rfl))

set_option maxHeartbeats 2000000 in
theorem put_bf (N : FdN) (x : Int) (A : Abs) (vl vr : Option Addr) (ha : 0 ≤ N.pa) (ha2 : N.pa ≤ 4294967295) (hr : rgt N.pa N.pn = true) (hc : N.c ≥ 4096) (c' : Int) (hw : IntKind.wrap .i64 (N.c + 1) = c') : CodeOk Try.prog 5 (subC [true, true, true, true] (bodyOf Try.f8)) (mkSt 68 [(0, .nv (.one (.ptr 0 0))), (2, .nv (.one (.val (.int .i64 N.px)))), (4, .nv (.one (.ptr 2 0))), (7, .nv (.one (.ptr 3 0)))] [.box 57 [.root 1 0 true, .val (.int .i64 (N.c))], .gone, .box 28 [.val (.int .u32 N.pa), .val (.int .i64 N.pn)], .box 55 [.val (.int .u32 N.pa), .val (.int .i64 N.pn), .val (.bool false), .val (.int .i64 x), .val (.pointer vl), .val (.pointer vr)], .abs A]) .ret (mkSt 68 [(6, .nv (.one (.val (.int .i64 20))))] [.box 57 [.root 1 0 true, .val (.int .i64 (N.c))], .gone, .box 28 [.val (.int .u32 N.pa), .val (.int .i64 N.pn)], .box 55 [.val (.int .u32 N.pa), .val (.int .i64 N.pn), .val (.bool false), .val (.int .i64 x), .val (.pointer vl), .val (.pointer vr)], .abs A]) :=
  code_run Gt3_ok (orc := ⟨[false, true, false, true], []⟩) (obl := [(0 : Int) ≤ FdN.pa N,
      FdN.pa N ≤ (4294967295 : Int),
      (!rgt (FdN.pa N) (FdN.pn N)) = false,
      true = true,
      false = false,
      decide (FdN.c N ≥ (4096 : Int)) = true,
      (20 : Int) = (20 : Int),
      (0 : Nat) = (0 : Nat),
      FdN.c N = FdN.c N,
      FdN.pa N = FdN.pa N,
      FdN.pn N = FdN.pn N,
      FdN.pa N = FdN.pa N,
      FdN.pn N = FdN.pn N,
      false = false,
      x = x,
      Value.pointer vl = Value.pointer vl,
      Value.pointer vr = Value.pointer vr,
      A = A]) (by kernel_rfl) (.cons (by assumption) (.cons (by assumption) (.cons (by (simp [*]; done)) (.cons (by rfl) (.cons (by rfl) (.cons (by exact decide_eq_true (by omega)) (.cons (by rfl) (.cons (by rfl) (.cons (by rfl) (.cons (by rfl) (.cons (by rfl) (.cons (by rfl) (.cons (by rfl) (.cons (by rfl) (.cons (by rfl) (.cons (by rfl) (.cons (by rfl) (.cons (by rfl) .nil)))))))))))))))))) (Nat.le_of_ble_eq_true (by kernel_rfl))

set_option maxHeartbeats 2000000 in
theorem put_bh (N : FdN) (x : Int) (A : Abs) (vl vr : Option Addr) (ha : 0 ≤ N.pa) (ha2 : N.pa ≤ 4294967295) (hr : rgt N.pa N.pn = true) (hc : ¬ N.c ≥ 4096) (c' : Int) (hw : IntKind.wrap .i64 (N.c + 1) = c') : CodeOk Try.prog 5 (subC [true, true, true, true] (bodyOf Try.f8)) (mkSt 68 [(0, .nv (.one (.ptr 0 0))), (2, .nv (.one (.val (.int .i64 N.px)))), (4, .nv (.one (.ptr 2 0))), (7, .nv (.one (.ptr 3 0)))] [.box 57 [.root 1 0 true, .val (.int .i64 (N.c))], .gone, .box 28 [.val (.int .u32 N.pa), .val (.int .i64 N.pn)], .box 55 [.val (.int .u32 N.pa), .val (.int .i64 N.pn), .val (.bool false), .val (.int .i64 x), .val (.pointer vl), .val (.pointer vr)], .abs A]) .ret (mkSt 68 [(6, .nv (.one (.val (.int .i64 0))))] [.box 57 [.root 1 0 true, .val (.int .i64 (c'))], .gone, .box 28 [.val (.int .u32 N.pa), .val (.int .i64 N.pn)], .box 55 [.val (.int .u32 N.pa), .val (.int .i64 N.pn), .val (.bool true), .val (.int .i64 N.px), .val (.pointer vl), .val (.pointer vr)], .abs A]) :=
  code_run Gt3_ok (orc := ⟨[false, true, false, false, true], []⟩) (obl := [(0 : Int) ≤ FdN.pa N,
      FdN.pa N ≤ (4294967295 : Int),
      (!rgt (FdN.pa N) (FdN.pn N)) = false,
      true = true,
      false = false,
      decide (FdN.c N ≥ (4096 : Int)) = false,
      true = true,
      (0 : Int) = (0 : Int),
      (0 : Nat) = (0 : Nat),
      IntKind.wrap IntKind.i64 (FdN.c N + (1 : Int)) = c',
      FdN.pa N = FdN.pa N,
      FdN.pn N = FdN.pn N,
      FdN.pa N = FdN.pa N,
      FdN.pn N = FdN.pn N,
      true = true,
      FdN.px N = FdN.px N,
      Value.pointer vl = Value.pointer vl,
      Value.pointer vr = Value.pointer vr,
      A = A]) (by kernel_rfl) (.cons (by assumption) (.cons (by assumption) (.cons (by (simp [*]; done)) (.cons (by rfl) (.cons (by rfl) (.cons (by exact decide_eq_false (by omega)) (.cons (by rfl) (.cons (by rfl) (.cons (by rfl) (.cons (by assumption) (.cons (by rfl) (.cons (by rfl) (.cons (by rfl) (.cons (by rfl) (.cons (by rfl) (.cons (by rfl) (.cons (by rfl) (.cons (by rfl) (.cons (by rfl) .nil))))))))))))))))))) (Nat.le_of_ble_eq_true (by kernel_rfl))
end Go.Proofs.Ytfienpkogkepkaa

/- Runs of Go code, as printed by a program: no condition beyond those that each states. -/
namespace Go.Proofs.Ytfienpkogkepkaa
set_option linter.unusedVariables false
set_option linter.unusedSimpArgs false
set_option maxRecDepth 100000
open Go.RowKit E
attribute [local irreducible] wkL apG TA bl8 bl32 wdN msk prP inP sdN prT covB comN comA layP layK LyOk FkOk rgt hasB subAt HA updK gtT FdA fdRes ffO
set_option maxHeartbeats 2000000 in
theorem drop_n (N : FdN) (ih : GnOk N) : FnOk Try.prog 11 ([.nv (.one (.ptr 0 0)), .nv (.agg [.val (.int .u32 N.pa), .val (.int .i64 N.pn)])]) ([.box 57 [.root 1 0 true, .val (.int .i64 (N.c))], .abs (TA N.w N.T)]) (.tup [.one (.val (.int .i64 0)), .one (.val (.bool false))]) ([.box 57 [.root 1 0 true, .val (.int .i64 (N.c))], .abs (TA N.w N.T)]) :=
  fn_run (Ggn_ok N ih) Try.func11 (orc := ⟨[false], []⟩) (obl := [(0 : Nat) = (0 : Nat),
      FdN.pa N = FdN.pa N,
      FdN.pn N = FdN.pn N,
      (0 : Nat) = (0 : Nat),
      FdN.c N = FdN.c N,
      TA (FdN.w N) (FdN.T N) = TA (FdN.w N) (FdN.T N),
      false = false,
      (bif false then FdN.px N else (0 : Int)) = (0 : Int),
      false = false,
      (0 : Nat) = (0 : Nat),
      FdN.c N = FdN.c N,
      TA (FdN.w N) (FdN.T N) = TA (FdN.w N) (FdN.T N)]) (by kernel_rfl) (.cons (by rfl) (.cons (by rfl) (.cons (by rfl) (.cons (by rfl) (.cons (by rfl) (.cons (by rfl) (.cons (by rfl) (.cons (by rfl) (.cons (by rfl) (.cons (by rfl) (.cons (by rfl) (.cons (by rfl) .nil)))))))))))) (Nat.le_of_ble_eq_true (by kernel_rfl))

set_option maxHeartbeats 2000000 in
theorem drop_y (N : FdN) (ih : GyOk N) (c' : Int) (hw : IntKind.wrap .i64 (N.c - 1) = c') : CodeOk Try.prog 2 (bodyOf Try.f11) (mkSt 30 [(0, .nv (.one (.ptr 0 0))), (1, .nv (.agg [.val (.int .u32 N.pa), .val (.int .i64 N.pn)]))] [.box 57 [.root 1 0 true, .val (.int .i64 (N.c))], .abs (TA N.w N.T)]) .ret (mkSt 30 [(4, .nv (.one (.val (.int .i64 N.px)))), (5, .nv (.one (.val (.bool true))))] [.box 57 [.root 1 0 true, .val (.int .i64 (c'))], .gone, .gone, .abs (TA N.w (prP N.pa N.pn N.T))]) :=
  code_run (Ggy_ok N ih) (orc := ⟨[true], []⟩) (obl := [(0 : Nat) = (0 : Nat),
      FdN.pa N = FdN.pa N,
      FdN.pn N = FdN.pn N,
      (0 : Nat) = (0 : Nat),
      FdN.c N = FdN.c N,
      TA (FdN.w N) (FdN.T N) = TA (FdN.w N) (FdN.T N),
      true = true,
      (0 : Nat) = (0 : Nat),
      FdN.pa N = FdN.pa N,
      FdN.pn N = FdN.pn N,
      TA (FdN.w N) (FdN.T N) = TA (FdN.w N) (FdN.T N),
      (bif true then FdN.px N else (0 : Int)) = FdN.px N,
      true = true,
      (0 : Nat) = (0 : Nat),
      IntKind.wrap IntKind.i64 (FdN.c N - (1 : Int)) = c',
      TA (FdN.w N) (prP (FdN.pa N) (FdN.pn N) (FdN.T N)) = TA (FdN.w N) (prP (FdN.pa N) (FdN.pn N) (FdN.T N))]) (by kernel_rfl) (.cons (by rfl) (.cons (by rfl) (.cons (by rfl) (.cons (by rfl) (.cons (by rfl) (.cons (by rfl) (.cons (by rfl) (.cons (by rfl) (.cons (by rfl) (.cons (by rfl) (.cons (by rfl) (.cons (by rfl) (.cons (by rfl) (.cons (by rfl) (.cons (by assumption) (.cons (by rfl) .nil)))))))))))))))) (Nat.le_of_ble_eq_true (by kernel_rfl))

set_option maxHeartbeats 2000000 in
theorem all_n  : FnOk Try.prog 18 ([.nv (.one (.val (.pointer none)))]) ([]) (.nv (.one (.val (.slice none 0 0)))) ([]) :=
  fn_run Gt3_ok Try.func18 (orc := ⟨[true], []⟩) (obl := [true = true,
      Value.slice none (0 : Nat) (0 : Nat) = Value.slice none (0 : Nat) (0 : Nat)]) (by kernel_rfl) (.cons (by rfl) (.cons (by rfl) .nil)) (Nat.le_of_ble_eq_true (by kernel_rfl))

set_option maxHeartbeats 2000000 in
theorem all_f (N : FdN) (ih : (wkL N.T).length ≤ 1000000) : FnOk Try.prog 18 ([.nv (.one (.ptr 0 0))]) ([.robox 57 [.root 1 0 true, .val (.int .i64 N.c)], .roabs (TA N.w N.T)]) (.nv (.one (.own 2))) ([.gone, .gone, .row 28 2 (wkL N.T).length (gPf (apG (fun _ => ⟨0, 0⟩) 0 (wkL N.T)))]) :=
  fn_run (Gwa_ok N ih) Try.func18 (orc := ⟨[false], []⟩) (obl := [false = false,
      (0 : Nat) = (0 : Nat),
      TA (FdN.w N) (FdN.T N) = TA (FdN.w N) (FdN.T N),
      (0 : Nat) = (0 : Nat),
      ∀ (i : Nat), i < List.length (wkL (FdN.T N)) → (true && (true && true)) = true,
      List.length (wkL (FdN.T N)) = List.length (wkL (FdN.T N)),
      ∀ (i : Nat), i < List.length (wkL (FdN.T N)) → Pf.a (apG (fun (x : Nat) => { a := (0 : Int), n := (0 : Int) }) (0 : Nat) (wkL (FdN.T N)) i) = Pf.a (apG (fun (x : Nat) => { a := (0 : Int), n := (0 : Int) }) (0 : Nat) (wkL (FdN.T N)) i) ∧ Pf.n (apG (fun (x : Nat) => { a := (0 : Int), n := (0 : Int) }) (0 : Nat) (wkL (FdN.T N)) i) = Pf.n (apG (fun (x : Nat) => { a := (0 : Int), n := (0 : Int) }) (0 : Nat) (wkL (FdN.T N)) i) ∧ True]) (by kernel_rfl) (.cons (by rfl) (.cons (by rfl) (.cons (by rfl) (.cons (by rfl) (.cons (by (intro _ _; rfl)) (.cons (by rfl) (.cons (by (simp; done)) .nil))))))) (Nat.le_of_ble_eq_true (by kernel_rfl))
end Go.Proofs.Ytfienpkogkepkaa

/- trie: Put and Drop, the whole. No condition. -/
namespace Go.Proofs.Ytfienpkogkepkaa
set_option linter.unusedVariables false
set_option linter.unusedSimpArgs false
open Go.RowKit E
abbrev tTb : TypeId := 57
def tbS (h : Nat) (c : Int) : Seg := .box tTb [.root h 0 true, .val (.int .i64 c)]
theorem fn_mv {f : FuncId} {args : List SV} {mem : List Seg} {r : SV} {c : Int} {T : PT} {w : Option Value} (hl : mem.length = 2) (h : FnOk Try.prog f args mem r [tbS 1 c, .abs (TA w T)]) : FnOk Try.prog f args mem r [tbS 2 c, .gone, .abs (TA w T)] := by
  intro env w0 w' S vals hv hm
  refine (h env w0 w' S vals hv hm).mono ?_
  rintro e w2 ⟨v, env1, rfl, h1, h2, h3, h4, h5⟩
  obtain ⟨vs, e1, hR⟩ := h5.ok 1 _ rfl
  obtain ⟨v0, hv0⟩ := TA_root vs w2 hR
  have hM : MemOk (extE env1 2 [.tuple vs]) [tbS 1 c, .gone, .abs (TA w T)] w0 w2 S := by
    refine MemOk.recast h5 [1] [.tuple vs] [.abs (TA w T)] rfl ?_ ?_ ?_
    · intro i s hi
      match i, hi with
      | 0, hi => cases hi; exact ⟨_, extE_ge 0, hR⟩
    · intro i s v c hi hv hc
      match i, hv, hi with
      | 0, hv, hi => cases hv; cases hi; exact ⟨1, _, by simp, rfl, by rw [blk_some e1]; exact hc, fun _ => rfl, trivial⟩
    · intro i i' s s' v v' c hi hi' _ _ hne
      match i, i', hi, hi' with
      | 0, 0, _, _ => exact (hne rfl).elim
  have eK := extE_ge (env := env1) (m := 2) (vals := [.tuple vs]) 0
  rw [Nat.add_zero] at eK
  have hle : env1.le (extE env1 2 [.tuple vs]) := le_extE (fun j hj => h5.top j hj)
  have hM2 := memOk_map (σ := rnA 1 2) (rnA_ok (v := v0) (fun vs' hv' => by
    rw [extE_lt (by omega), e1] at hv'
    cases hv'; exact hv0) eK hv0) hM
  exact ⟨v, _, rfl, Env.le_trans h1 hle, fun j hj => by rw [hl] at hj; rw [extE_lt hj]; exact h2 j (by rw [hl]; exact hj), by rw [hl]; exact Nat.le_succ 2, SV.rel_le hle h4, hM2⟩
/-- A prefix's node, used from now on. -/
def usT (pa pn px : Int) : PT → PT
  | .nil => .nil
  | .node a n u x l r => if a = pa ∧ n = pn then .node a n true px l r else if n ≥ pn then .node a n u x l r else if covB a n pa pn = false then .node a n u x l r else
    if sdN pa n = 0 then .node a n u x (usT pa pn px l) r else .node a n u x l (usT pa pn px r)
theorem fdO_us {pa pn px : Int} : ∀ {t : PT} {j i k : Nat}, fdO pa pn t j = some (.root 1 (i + 1) true) → i = j + k → subAt t k ≠ .nil → updK t k true px = usT pa pn px t
  | .nil, j, i, k => fun h => by simp [fdO] at h
  | .node a n u x l r, j, i, k => by
    rw [fdO, usT]
    intro h hk hn
    by_cases he : a = pa ∧ n = pn
    · rw [if_pos he] at h ⊢
      simp at h
      rw [updK, if_pos (by omega)]
    · rw [if_neg he] at h ⊢
      by_cases hge : n ≥ pn
      · rw [if_pos hge] at h; simp at h
      · rw [if_neg hge] at h ⊢
        by_cases hcv : covB a n pa pn = false
        · rw [if_pos hcv] at h; simp at h
        · rw [if_neg hcv] at h ⊢
          by_cases hd : sdN pa n = 0
          · rw [if_pos hd] at h ⊢
            obtain ⟨k', u', x', l', r', q1, q2, q3⟩ := (fdO_gt (pa := pa) (pn := pn) (t := l) (j := j + 1)).2.2 i h
            have hk' : k' < l.sz := subAt_lt (by rw [q2]; simp)
            have hkk : k = k' + 1 := by omega
            subst hkk
            rw [updK, if_neg (by omega), Nat.add_sub_cancel, if_pos hk', fdO_us h q1 (by rw [q2]; simp)]
          · rw [if_neg hd] at h ⊢
            obtain ⟨k', u', x', l', r', q1, q2, q3⟩ := (fdO_gt (pa := pa) (pn := pn) (t := r) (j := j + 1 + l.sz)).2.2 i h
            have hkk : k = k' + 1 + l.sz := by omega
            subst hkk
            rw [updK, if_neg (by omega), if_neg (by omega), show k' + 1 + l.sz - 1 - l.sz = k' by omega, fdO_us h q1 (by rw [q2]; simp)]
theorem fd_us {pa pn px : Int} {T : PT} {k : Nat} {u : Bool} {x : Int} {l r : PT} (h : fdRes pa pn T = .root 1 (k + 1) true) (hs : subAt T k = .node pa pn u x l r) : updK T k true px = usT pa pn px T := by
  refine fdO_us (j := 0) (i := k) ?_ (by omega) (by rw [hs]; simp)
  unfold fdRes at h
  cases e : fdO pa pn T 0 with
  | none => rw [e] at h; simp at h
  | some d => rw [e] at h; simp only at h; rw [h]
theorem updK_same : ∀ {t : PT} {k : Nat} {a n : Int} {u : Bool} {x : Int} {l r : PT}, subAt t k = .node a n u x l r → updK t k u x = t
  | .nil, _, _, _, _, _, _, _, h => by cases h
  | .node a0 n0 u0 x0 l0 r0, k, a, n, u, x, l, r, h => by
    rw [subAt] at h
    rw [updK]
    by_cases h0 : k = 0
    · rw [if_pos h0] at h ⊢; cases h; rfl
    · rw [if_neg h0] at h ⊢
      by_cases h1 : k - 1 < l0.sz
      · rw [if_pos h1] at h ⊢; rw [updK_same h]
      · rw [if_neg h1] at h ⊢; rw [updK_same h]
structure PuR where
  e : Int
  c : Int
  T : PT
/-- What Put says and leaves. -/
def puR (pa pn px : Int) (T : PT) (c : Int) : PuR := if rgt pa pn = false then ⟨6, c, T⟩ else match gtT pa pn T with
  | some (true, _) => ⟨8, c, T⟩
  | some (false, _) => if c ≥ 4096 then ⟨20, c, T⟩ else ⟨0, c + 1, usT pa pn px T⟩
  | none => if c ≥ 4096 then ⟨20, c, T⟩ else ⟨0, c + 1, layP pa pn px T⟩
def puArgs (pa pn px : Int) : List SV := [.nv (.one (.ptr 0 0)), .nv (.agg [.val (.int .u32 pa), .val (.int .i64 pn)]), .nv (.one (.val (.int .i64 px)))]
noncomputable abbrev puC (p : List Bool) : Code := subC p (bodyOf Try.f8)
set_option maxRecDepth 100000 in
theorem pu_body : bodyOf Try.f8 = .seq (puC [false]) (.seq (puC [true, false]) (.seq (puC [true, true, false]) (.seq (puC [true, true, true, false]) (puC [true, true, true, true])))) := by kernel_rfl
def puTm (px : Int) (d : At) : List SV := (mkSt 68 [(0, .nv (.one (.ptr 0 0))), (2, .nv (.one (.val (.int .i64 px)))), (4, .nv (.one (.ptr 2 0))), (7, .nv (.one d))] []).tm
theorem mapP (σ : At → At) (h : ∀ v, σ (.val v) = .val v) (px : Int) (d : At) : (puTm px d).map (SV.map σ) = (mkSt 68 [(0, .nv (.one (σ (.ptr 0 0)))), (2, .nv (.one (.val (.int .i64 px)))), (4, .nv (.one (σ (.ptr 2 0)))), (7, .nv (.one (σ d)))] []).tm := by
  rw [show (puTm px d).map (SV.map σ) = (mkSt 68 [(0, .nv (.one (σ (.ptr 0 0)))), (2, .nv (.one (σ (.val (.int .i64 px))))), (4, .nv (.one (σ (.ptr 2 0)))), (7, .nv (.one (σ d)))] []).tm from rfl, h]
theorem mapP6 (σ : At → At) (h : ∀ v, σ (.val v) = .val v) (e : Int) : (mkSt 68 [(6, .nv (.one (.val (.int .i64 e))))] []).tm.map (SV.map σ) = (mkSt 68 [(6, .nv (.one (.val (.int .i64 e))))] []).tm := by
  rw [show (mkSt 68 [(6, .nv (.one (.val (.int .i64 e))))] []).tm.map (SV.map σ) = (mkSt 68 [(6, .nv (.one (σ (.val (.int .i64 e)))))] []).tm from rfl, h]
def puRes (R : PuR) : E.St := mkSt 68 [(6, .nv (.one (.val (.int .i64 R.e))))] [tbS 2 R.c, .gone, .abs (TA none R.T)]
set_option maxRecDepth 100000 in
theorem pu_hit {pa pn px : Int} {T : PT} {c : Int} (h : FdA pa pn T) (hr : rgt pa pn = true) {k : Nat} {u : Bool} {x : Int} {l r : PT} (h1 : fdRes pa pn T = .root 1 (k + 1) true) (h2 : subAt T k = .node pa pn u x l r) {e c' : Int} {u' : Bool} {x' : Int}
    (hc : ∀ (A : Abs) (vl vr : Option Addr), CodeOk Try.prog 5 (puC [true, true, true, true]) (mkSt 68 [(0, .nv (.one (.ptr 0 0))), (2, .nv (.one (.val (.int .i64 px)))), (4, .nv (.one (.ptr 2 0))), (7, .nv (.one (.ptr 3 0)))] [tbS 1 c, .gone, .box 28 [.val (.int .u32 pa), .val (.int .i64 pn)], .box tNd (ndA pa pn u x (.val (.pointer vl)) (.val (.pointer vr))), .abs A]) .ret
      (mkSt 68 [(6, .nv (.one (.val (.int .i64 e))))] [tbS 1 c', .gone, .box 28 [.val (.int .u32 pa), .val (.int .i64 pn)], .box tNd (ndA pa pn u' x' (.val (.pointer vl)) (.val (.pointer vr))), .abs A])) :
    FnOk Try.prog 8 (puArgs pa pn px) [tbS 1 c, .abs (TA none T)] (.nv (.one (.val (.int .i64 e)))) [tbS 2 c', .gone, .abs (TA none (updK T k u' x'))] := by
  have ih : FdHit ⟨T, k, pa, pn, c, px, none⟩ := ⟨h, hr, h1⟩
  have hh := hole_code (P := Try.prog) (m0 := 2) (c := puC [true, true, true, true]) (tm := puTm px (.root 1 (k + 1) true)) (tm2 := (mkSt 68 [(6, .nv (.one (.val (.int .i64 e))))] []).tm) (mem := [tbS 1 c, .abs (TA none T), .box 28 [.val (.int .u32 pa), .val (.int .i64 pn)]]) (M := [tbS 1 c', .gone, .box 28 [.val (.int .u32 pa), .val (.int .i64 pn)]]) (h := 1) (k := k) (t := T) (u' := u') (x' := x') (e := .ret) rfl h2 (Nat.le_of_ble_eq_true rfl) rfl (fun y => by
    rw [mapP _ (fun _ => rfl), lkA_hit]; exact hc _ _ _)
  have key : CodeOk Try.prog 2 (bodyOf Try.f8) ⟨puArgs pa pn px ++ List.replicate 65 .any, [tbS 1 c, .abs (TA none T)]⟩ .ret (puRes ⟨e, c', updK T k u' x'⟩) := by
    rw [pu_body]
    refine CodeOk.seq (put_a0 _ ih) (CodeOk.seq (put_a1 _ ih) (CodeOk.seq (put_a2 _ ih) (CodeOk.seq (put_a3 _ ih) (CodeOk.post hh ?_))))
    exact tran_list (L := [e = e, (0 : Nat) = 0, c' = c', TA none (updK T k u' x') = TA none (updK T k u' x')]) (by kernel_rfl) ⟨rfl, rfl, rfl, rfl, trivial⟩ (Nat.le_of_ble_eq_true rfl)
  exact fn_of_code (c := bodyOf Try.f8) (tm := puArgs pa pn px ++ List.replicate 65 .any) (o := []) Try.func8 (by kernel_rfl) (by kernel_rfl) key (.inl rfl) (by kernel_rfl) trivial
set_option maxRecDepth 100000 in
theorem fnPut {pa pn px : Int} {T : PT} {c : Int} (h : FdA pa pn T) (hL : rgt pa pn = true → gtT pa pn T = none → 0 ≤ pn ∧ LyOk pa pn T) (hc : 0 ≤ c) :
    FnOk Try.prog 8 (puArgs pa pn px) [tbS 1 c, .abs (TA none T)] (.nv (.one (.val (.int .i64 (puR pa pn px T c).e)))) [tbS 2 (puR pa pn px T c).c, .gone, .abs (TA none (puR pa pn px T c).T)] := by
  have hw : ¬ c ≥ 4096 → IntKind.wrap .i64 (c + 1) = c + 1 := fun q => w64 rfl (by omega)
  cases hr : rgt pa pn with
  | false =>
    have e : puR pa pn px T c = ⟨6, c, T⟩ := by unfold puR; rw [if_pos hr]
    rw [e]
    exact fn_mv rfl (put_w ⟨T, 0, pa, pn, c, px, none⟩ ⟨h, fun q => by rw [hr] at q; cases q⟩ h.1.1 h.1.2 hr)
  | true =>
    rcases fd_cases (pa := pa) (pn := pn) (T := T) with ⟨h1, h2⟩ | ⟨k, u, x, l, r, h1, h2, h3⟩
    · by_cases hf : c ≥ 4096
      · have e : puR pa pn px T c = ⟨20, c, T⟩ := by unfold puR; rw [hr, if_neg (by simp), h2]; simp only [if_pos hf]
        rw [e]
        exact fn_mv rfl (put_f ⟨T, 0, pa, pn, c, px, none⟩ ⟨h, fun q => h1⟩ h.1.1 h.1.2 hr hf)
      · have e : puR pa pn px T c = ⟨0, c + 1, layP pa pn px T⟩ := by unfold puR; rw [hr, if_neg (by simp), h2]; simp only [if_neg hf]
        rw [e]
        have hl := hL hr h2
        have hh := pin_code (P := Try.prog) (m0 := 2) (c := bodyOf Try.f8) (tm := puArgs pa pn px ++ List.replicate 65 .any) (mem := [tbS 1 c, .abs (TA none T)]) (M := [tbS 1 (c + 1), .gone, .gone, .gone, .abs (TA none (layP pa pn px T))]) (h := 1) (j := 4) (t := T) (t' := layP pa pn px T) (tm2 := (mkSt 68 [(6, .nv (.one (.val (.int .i64 0))))] []).tm) (e := .ret) rfl (Nat.le_of_ble_eq_true rfl) rfl (fun v =>
          put_l ⟨T, 0, pa, pn, c, px, some v⟩ ⟨⟨h, fun _ => h1⟩, hl.1, hl.2, v, rfl⟩ h.1.1 h.1.2 hr hf (c + 1) (hw hf))
        have key : CodeOk Try.prog 2 (bodyOf Try.f8) ⟨puArgs pa pn px ++ List.replicate 65 .any, [tbS 1 c, .abs (TA none T)]⟩ .ret (puRes ⟨0, c + 1, layP pa pn px T⟩) := by
          refine CodeOk.post hh ?_
          exact tran_list (L := [(0 : Int) = 0, (0 : Nat) = 0, c + 1 = c + 1, TA none (layP pa pn px T) = TA none (layP pa pn px T)]) (by kernel_rfl) ⟨rfl, rfl, rfl, rfl, trivial⟩ (Nat.le_of_ble_eq_true rfl)
        exact fn_of_code (c := bodyOf Try.f8) (tm := puArgs pa pn px ++ List.replicate 65 .any) (o := []) Try.func8 (by kernel_rfl) (by kernel_rfl) key (.inl rfl) (by kernel_rfl) trivial
    · cases u with
      | true =>
        have e : puR pa pn px T c = ⟨8, c, T⟩ := by unfold puR; rw [hr, if_neg (by simp), h3]
        rw [e]
        have e2 : updK T k true x = T := updK_same h2
        have := pu_hit (px := px) (c := c) h hr h1 h2 (fun A vl vr => put_bu ⟨T, k, pa, pn, c, px, none⟩ x A vl vr h.1.1 h.1.2 hr _ rfl)
        rw [e2] at this
        exact this
      | false =>
        by_cases hf : c ≥ 4096
        · have e : puR pa pn px T c = ⟨20, c, T⟩ := by unfold puR; rw [hr, if_neg (by simp), h3]; simp only [if_pos hf]
          rw [e]
          have e2 : updK T k false x = T := updK_same h2
          have := pu_hit (px := px) (c := c) h hr h1 h2 (fun A vl vr => put_bf ⟨T, k, pa, pn, c, px, none⟩ x A vl vr h.1.1 h.1.2 hr hf _ rfl)
          rw [e2] at this
          exact this
        · have e : puR pa pn px T c = ⟨0, c + 1, usT pa pn px T⟩ := by unfold puR; rw [hr, if_neg (by simp), h3]; simp only [if_neg hf]
          rw [e, ← fd_us h1 h2]
          exact pu_hit (px := px) (c := c) h hr h1 h2 (fun A vl vr => put_bh ⟨T, k, pa, pn, c, px, none⟩ x A vl vr h.1.1 h.1.2 hr hf _ (hw hf))
structure DrR where
  c : Int
  T : PT
def drR (pa pn : Int) (T : PT) (c : Int) : DrR := match geT pa pn T with
  | some _ => ⟨c - 1, prP pa pn T⟩
  | none => ⟨c, T⟩
set_option maxRecDepth 100000 in
theorem fnDrop {pa pn : Int} {T : PT} {c : Int} (h : FdA pa pn T) (hL : geT pa pn T ≠ none → inP pa pn T ∧ 0 < c) (hR : RtT T) (hc : c ≤ 4096) :
    FnOk Try.prog 11 (fdArgs pa pn) [tbS 1 c, .abs (TA none T)] (.tup [.one (.val (.int .i64 (xOf (geT pa pn T)))), .one (.val (.bool (boolOf (geT pa pn T))))]) [tbS 2 (drR pa pn T c).c, .gone, .abs (TA none (drR pa pn T c).T)] := by
  cases hg : geT pa pn T with
  | none =>
    have e : drR pa pn T c = ⟨c, T⟩ := by unfold drR; rw [hg]
    rw [e]
    exact fn_mv rfl (drop_n ⟨T, 0, pa, pn, c, 0, none⟩ ⟨h, hg⟩)
  | some x =>
    have e : drR pa pn T c = ⟨c - 1, prP pa pn T⟩ := by unfold drR; rw [hg]
    rw [e]
    obtain ⟨hin, hc0⟩ := hL (by rw [hg]; simp)
    have hh := pin_code (P := Try.prog) (m0 := 2) (c := bodyOf Try.f11) (tm := fdArgs pa pn ++ List.replicate 28 .any) (mem := [tbS 1 c, .abs (TA none T)]) (M := [tbS 1 (c - 1), .gone, .gone, .abs (TA none (prP pa pn T))]) (h := 1) (j := 3) (t := T) (t' := prP pa pn T) (tm2 := (mkSt 30 [(4, .nv (.one (.val (.int .i64 x)))), (5, .nv (.one (.val (.bool true))))] []).tm) (e := .ret) rfl (Nat.le_of_ble_eq_true rfl) rfl (fun v =>
      drop_y ⟨T, 0, pa, pn, c, x, some v⟩ ⟨h, hg, hin, hR, v, rfl⟩ (c - 1) (w64 rfl (by omega)))
    have key : CodeOk Try.prog 2 (bodyOf Try.f11) ⟨fdArgs pa pn ++ List.replicate 28 .any, [tbS 1 c, .abs (TA none T)]⟩ .ret (mkSt 30 [(4, .nv (.one (.val (.int .i64 x)))), (5, .nv (.one (.val (.bool true))))] [tbS 2 (c - 1), .gone, .abs (TA none (prP pa pn T))]) := by
      refine CodeOk.post hh ?_
      exact tran_list (L := [x = x, true = true, (0 : Nat) = 0, c - 1 = c - 1, TA none (prP pa pn T) = TA none (prP pa pn T)]) (by kernel_rfl) ⟨rfl, rfl, rfl, rfl, rfl, trivial⟩ (Nat.le_of_ble_eq_true rfl)
    exact fn_of_code (c := bodyOf Try.f11) (tm := fdArgs pa pn ++ List.replicate 28 .any) (o := []) Try.func11 (by kernel_rfl) (by kernel_rfl) key (.inl rfl) (by kernel_rfl) trivial
end Go.Proofs.Ytfienpkogkepkaa

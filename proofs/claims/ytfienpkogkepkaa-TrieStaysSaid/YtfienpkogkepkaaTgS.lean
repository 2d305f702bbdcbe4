/- TriePlays: what a round calls. No condition. -/
import Derived.Test.YtfienpkogkepkaaTgM
import Derived.Test.YtfienpkogkepkaaChecked
import Derived.KernelRfl
namespace Go.Proofs.Ytfienpkogkepkaa
set_option linter.unusedVariables false
set_option linter.unusedSimpArgs false
open Go.RowKit E
/-- A specification with one answer. -/
def gLit (cs : CS) : List SV → List Seg → Option (CS × List Prop) := fun _ _ => some (cs, [])
theorem spLit {f : FuncId} {cs : CS} (h : FnOk Try.prog f cs.args cs.mem cs.r cs.mem') : SpOk Try.prog f (.lift (gLit cs)) := by
  intro args mem cs' obl hg ho
  unfold gLit at hg
  simp only [Option.some.injEq, Prod.mk.injEq] at hg
  obtain ⟨rfl, rfl⟩ := hg
  exact h
theorem fn_drops {f : FuncId} {args : List SV} {mem : List Seg} {r : SV} {a b c : Seg} (h : FnOk Try.prog f args mem r [a, b, c]) : FnOk Try.prog f args mem r [.gone, .gone, .gone] := by
  intro env w0 w S vals hv hm
  refine (h env w0 w S vals hv hm).mono ?_
  rintro e w' ⟨v, env', rfl, h1, h2, h3, h4, h5⟩
  exact ⟨v, env', rfl, h1, h2, h3, h4, by simpa using ((h5.drop 0).drop 1).drop 2⟩
theorem put_fn {T : PT} {l : List En} {pa pn : Int} (px : Int) (h : TrOk T l l.length) (ha : 0 ≤ pa ∧ pa ≤ 4294967295) : ∃ T', FnOk Try.prog 8 (puArgs pa pn px) [tbS 1 l.length, .abs (TA none T)] (iA (puE pa pn px l).e) [tbS 2 (puE pa pn px l).l.length, .gone, .abs (TA none T')] ∧ TrOk T' (puE pa pn px l).l (puE pa pn px l).l.length := by
  obtain ⟨h1, h2, h3⟩ := put_ok (pn := pn) h px ha
  have := fnPut (px := px) (c := l.length) (h.fdA ha) h1 (by omega)
  rw [h2, h3.len] at this
  refine ⟨_, this, ?_⟩
  have h4 := h3.len
  rw [h4] at h3
  exact h3
theorem drop_fn {T : PT} {l : List En} {pa pn : Int} (h : TrOk T l l.length) (ha : 0 ≤ pa ∧ pa ≤ 4294967295) : ∃ T', FnOk Try.prog 11 (fdArgs pa pn) [tbS 1 l.length, .abs (TA none T)] (.tup [.one (.val (.int .i64 (drE pa pn l).x)), .one (.val (.bool (drE pa pn l).b))]) [tbS 2 (drE pa pn l).l.length, .gone, .abs (TA none T')] ∧ TrOk T' (drE pa pn l).l (drE pa pn l).l.length := by
  obtain ⟨h1, h2, h3, h4⟩ := drop_ok (pa := pa) (pn := pn) h
  have := fnDrop (c := l.length) (h.fdA (pn := pn) ha) h1 h.rt (by have := h.hi; omega)
  rw [h2, h3, h4.len] at this
  refine ⟨_, this, ?_⟩
  have h5 := h4.len
  rw [h5] at h4
  exact h4
def fdTup (e : En) (b : Bool) : SV := .tup [.agg [.val (.int .u32 e.a), .val (.int .i64 e.n)], .one (.val (.int .i64 e.x)), .one (.val (.bool b))]
def en0 : En := ⟨0, 0, 0⟩
def roT (T : PT) (l : List En) : List Seg := [.robox tTb [.root 1 0 true, .val (.int .i64 (l.length : Nat))], .roabs (TA none T)]
def roL (l : List En) : Seg := .ro 3 l.length (gEn (enF l))
theorem find_fn {T : PT} {l : List En} {k : Int} (h : TrOk T l l.length) (hk : 0 ≤ k ∧ k ≤ 4294967295) :
    (FnOk Try.prog 9 [.nv (.one (.ptr 0 0)), .nv (.one (.val (.int .u32 k)))] (roT T l) (fdTup ((fE k l none).getD en0) (fE k l none).isSome) [.gone, .gone, .gone]) := by
  have h1 := (find_ok h k).1
  have hT := (h.fdA (pa := 0) (pn := 0) (by decide)).2.1
  cases T with
  | nil => cases hT
  | node a n u x l' r =>
    have := fn_drops (fnFindA (c := l.length) hk (adOk_of h.wf))
    rw [h1] at this
    cases hf : fE k l none with
    | none => rw [hf] at this; exact this
    | some e => rw [hf] at this; exact this
theorem get_fn {T : PT} {l : List En} {pa pn : Int} (h : TrOk T l l.length) (ha : 0 ≤ pa ∧ pa ≤ 4294967295) : FnOk Try.prog 15 (fdArgs pa pn) (roT T l) (.tup [.one (.val (.int .i64 (xOf (lkE pa pn l)))), .one (.val (.bool (boolOf (lkE pa pn l))))]) [.gone, .gone] := by
  have := fnGet (w := none) (c := l.length) (h.fdA (pn := pn) ha)
  rw [h.get] at this
  exact this
structure RdN where
  T : PT
  T' : PT
  l : List En
  l' : List En
  a : Int
  n : Int
  x : Int
  k : Int
  e : Int
  x1 : Int
  b1 : Bool
  f : En
  fj : Nat
  gx : Int
  gj : Nat
def csPut (N : RdN) : CS := ⟨puArgs N.a N.n N.x, [tbS 1 (N.l.length : Nat), .abs (TA none N.T)], iA N.e, [tbS 2 (N.l'.length : Nat), .gone, .abs (TA none N.T')]⟩
def csPut32 (N : RdN) : CS := ⟨[.nv (.one (.own 0)), .nv (.agg [.val (.int .u32 N.a), .val (.int .i64 N.n)]), iA N.x], [enS N.l], .tup [.one (.own 1), .one (.val (.int .i64 N.e))], [.gone, enS N.l']⟩
def csDrop (N : RdN) : CS := ⟨fdArgs N.a N.n, [tbS 1 (N.l.length : Nat), .abs (TA none N.T)], .tup [.one (.val (.int .i64 N.x1)), .one (.val (.bool N.b1))], [tbS 2 (N.l'.length : Nat), .gone, .abs (TA none N.T')]⟩
def csDrop32 (N : RdN) : CS := ⟨[.nv (.one (.own 0)), .nv (.agg [.val (.int .u32 N.a), .val (.int .i64 N.n)])], [enS N.l], .tup [.one (.own 1), .one (.val (.int .i64 N.x1)), .one (.val (.bool N.b1))], [.gone, enS N.l']⟩
def csFind (fh : Bool) (N : RdN) : CS := ⟨[.nv (.one (.ptr 0 0)), .nv (.one (.val (.int .u32 N.k)))], roT N.T' N.l', (bif fh then fdTup N.f true else fdTup en0 false), [.gone, .gone, .gone]⟩
def csFind32 (fh : Bool) (N : RdN) : CS := ⟨[.nv (.one (.own 0)), .nv (.one (.val (.int .u32 N.k)))], [roL N.l'], (bif fh then iA (N.fj : Nat) else iA (-1)), [.gone]⟩
def csGet (gh : Bool) (N : RdN) : CS := ⟨fdArgs N.a N.n, roT N.T' N.l', (bif gh then .tup [.one (.val (.int .i64 N.gx)), .one (.val (.bool true))] else .tup [.one (.val (.int .i64 0)), .one (.val (.bool false))]), [.gone, .gone]⟩
def csAt (gh : Bool) (N : RdN) : CS := ⟨[.nv (.one (.own 0)), .nv (.agg [.val (.int .u32 N.a), .val (.int .i64 N.n)])], [roL N.l'], (bif gh then iA (N.gj : Nat) else iA (-1)), [.gone]⟩
def csLen (N : RdN) : CS := ⟨[.nv (.one (.ptr 0 0))], [.robox tTb [.any, .val (.int .i64 (N.l'.length : Nat))]], iA (N.l'.length : Nat), [.gone]⟩
abbrev FnCs (f : FuncId) (cs : CS) : Prop := FnOk Try.prog f cs.args cs.mem cs.r cs.mem'
structure RdOk (dr fh gh : Bool) (N : RdN) : Prop where
  tab : if dr = true then FnCs 11 (csDrop N) else FnCs 8 (csPut N)
  doc : if dr = true then FnCs 12 (csDrop32 N) else FnCs 13 (csPut32 N)
  find : FnCs 9 (csFind fh N)
  find32 : FnCs 14 (csFind32 fh N)
  get : FnCs 15 (csGet gh N)
  at_ : FnCs 16 (csAt gh N)
  len : FnCs 17 (csLen N)
def Gtp000 (N : RdN) : List (FuncId × Sp) := (8, .lift (gLit (csPut N))) :: (13, .lift (gLit (csPut32 N))) :: (9, .lift (gLit (csFind false N))) :: (14, .lift (gLit (csFind32 false N))) :: (15, .lift (gLit (csGet false N))) :: (16, .lift (gLit (csAt false N))) :: (17, .lift (gLit (csLen N))) :: G0
theorem Gtp000_ok (N : RdN) (ih : RdOk false false false N) : CtxOk Try.prog (Gtp000 N) := ctx_cons (enter_of Try.func8 (by kernel_rfl) (by kernel_rfl)) (spLit ih.tab) <|
  ctx_cons (enter_of Try.func13 (by kernel_rfl) (by kernel_rfl)) (spLit ih.doc) <|
  ctx_cons (enter_of Try.func9 (by kernel_rfl) (by kernel_rfl)) (spLit ih.find) <|
  ctx_cons (enter_of Try.func14 (by kernel_rfl) (by kernel_rfl)) (spLit ih.find32) <|
  ctx_cons (enter_of Try.func15 (by kernel_rfl) (by kernel_rfl)) (spLit ih.get) <|
  ctx_cons (enter_of Try.func16 (by kernel_rfl) (by kernel_rfl)) (spLit ih.at_) <|
  ctx_cons (enter_of Try.func17 (by kernel_rfl) (by kernel_rfl)) (spLit ih.len) G0_ok
def Gtp001 (N : RdN) : List (FuncId × Sp) := (8, .lift (gLit (csPut N))) :: (13, .lift (gLit (csPut32 N))) :: (9, .lift (gLit (csFind false N))) :: (14, .lift (gLit (csFind32 false N))) :: (15, .lift (gLit (csGet true N))) :: (16, .lift (gLit (csAt true N))) :: (17, .lift (gLit (csLen N))) :: G0
theorem Gtp001_ok (N : RdN) (ih : RdOk false false true N) : CtxOk Try.prog (Gtp001 N) := ctx_cons (enter_of Try.func8 (by kernel_rfl) (by kernel_rfl)) (spLit ih.tab) <|
  ctx_cons (enter_of Try.func13 (by kernel_rfl) (by kernel_rfl)) (spLit ih.doc) <|
  ctx_cons (enter_of Try.func9 (by kernel_rfl) (by kernel_rfl)) (spLit ih.find) <|
  ctx_cons (enter_of Try.func14 (by kernel_rfl) (by kernel_rfl)) (spLit ih.find32) <|
  ctx_cons (enter_of Try.func15 (by kernel_rfl) (by kernel_rfl)) (spLit ih.get) <|
  ctx_cons (enter_of Try.func16 (by kernel_rfl) (by kernel_rfl)) (spLit ih.at_) <|
  ctx_cons (enter_of Try.func17 (by kernel_rfl) (by kernel_rfl)) (spLit ih.len) G0_ok
def Gtp010 (N : RdN) : List (FuncId × Sp) := (8, .lift (gLit (csPut N))) :: (13, .lift (gLit (csPut32 N))) :: (9, .lift (gLit (csFind true N))) :: (14, .lift (gLit (csFind32 true N))) :: (15, .lift (gLit (csGet false N))) :: (16, .lift (gLit (csAt false N))) :: (17, .lift (gLit (csLen N))) :: G0
theorem Gtp010_ok (N : RdN) (ih : RdOk false true false N) : CtxOk Try.prog (Gtp010 N) := ctx_cons (enter_of Try.func8 (by kernel_rfl) (by kernel_rfl)) (spLit ih.tab) <|
  ctx_cons (enter_of Try.func13 (by kernel_rfl) (by kernel_rfl)) (spLit ih.doc) <|
  ctx_cons (enter_of Try.func9 (by kernel_rfl) (by kernel_rfl)) (spLit ih.find) <|
  ctx_cons (enter_of Try.func14 (by kernel_rfl) (by kernel_rfl)) (spLit ih.find32) <|
  ctx_cons (enter_of Try.func15 (by kernel_rfl) (by kernel_rfl)) (spLit ih.get) <|
  ctx_cons (enter_of Try.func16 (by kernel_rfl) (by kernel_rfl)) (spLit ih.at_) <|
  ctx_cons (enter_of Try.func17 (by kernel_rfl) (by kernel_rfl)) (spLit ih.len) G0_ok
def Gtp011 (N : RdN) : List (FuncId × Sp) := (8, .lift (gLit (csPut N))) :: (13, .lift (gLit (csPut32 N))) :: (9, .lift (gLit (csFind true N))) :: (14, .lift (gLit (csFind32 true N))) :: (15, .lift (gLit (csGet true N))) :: (16, .lift (gLit (csAt true N))) :: (17, .lift (gLit (csLen N))) :: G0
theorem Gtp011_ok (N : RdN) (ih : RdOk false true true N) : CtxOk Try.prog (Gtp011 N) := ctx_cons (enter_of Try.func8 (by kernel_rfl) (by kernel_rfl)) (spLit ih.tab) <|
  ctx_cons (enter_of Try.func13 (by kernel_rfl) (by kernel_rfl)) (spLit ih.doc) <|
  ctx_cons (enter_of Try.func9 (by kernel_rfl) (by kernel_rfl)) (spLit ih.find) <|
  ctx_cons (enter_of Try.func14 (by kernel_rfl) (by kernel_rfl)) (spLit ih.find32) <|
  ctx_cons (enter_of Try.func15 (by kernel_rfl) (by kernel_rfl)) (spLit ih.get) <|
  ctx_cons (enter_of Try.func16 (by kernel_rfl) (by kernel_rfl)) (spLit ih.at_) <|
  ctx_cons (enter_of Try.func17 (by kernel_rfl) (by kernel_rfl)) (spLit ih.len) G0_ok
def Gtp100 (N : RdN) : List (FuncId × Sp) := (11, .lift (gLit (csDrop N))) :: (12, .lift (gLit (csDrop32 N))) :: (9, .lift (gLit (csFind false N))) :: (14, .lift (gLit (csFind32 false N))) :: (15, .lift (gLit (csGet false N))) :: (16, .lift (gLit (csAt false N))) :: (17, .lift (gLit (csLen N))) :: G0
theorem Gtp100_ok (N : RdN) (ih : RdOk true false false N) : CtxOk Try.prog (Gtp100 N) := ctx_cons (enter_of Try.func11 (by kernel_rfl) (by kernel_rfl)) (spLit ih.tab) <|
  ctx_cons (enter_of Try.func12 (by kernel_rfl) (by kernel_rfl)) (spLit ih.doc) <|
  ctx_cons (enter_of Try.func9 (by kernel_rfl) (by kernel_rfl)) (spLit ih.find) <|
  ctx_cons (enter_of Try.func14 (by kernel_rfl) (by kernel_rfl)) (spLit ih.find32) <|
  ctx_cons (enter_of Try.func15 (by kernel_rfl) (by kernel_rfl)) (spLit ih.get) <|
  ctx_cons (enter_of Try.func16 (by kernel_rfl) (by kernel_rfl)) (spLit ih.at_) <|
  ctx_cons (enter_of Try.func17 (by kernel_rfl) (by kernel_rfl)) (spLit ih.len) G0_ok
def Gtp101 (N : RdN) : List (FuncId × Sp) := (11, .lift (gLit (csDrop N))) :: (12, .lift (gLit (csDrop32 N))) :: (9, .lift (gLit (csFind false N))) :: (14, .lift (gLit (csFind32 false N))) :: (15, .lift (gLit (csGet true N))) :: (16, .lift (gLit (csAt true N))) :: (17, .lift (gLit (csLen N))) :: G0
theorem Gtp101_ok (N : RdN) (ih : RdOk true false true N) : CtxOk Try.prog (Gtp101 N) := ctx_cons (enter_of Try.func11 (by kernel_rfl) (by kernel_rfl)) (spLit ih.tab) <|
  ctx_cons (enter_of Try.func12 (by kernel_rfl) (by kernel_rfl)) (spLit ih.doc) <|
  ctx_cons (enter_of Try.func9 (by kernel_rfl) (by kernel_rfl)) (spLit ih.find) <|
  ctx_cons (enter_of Try.func14 (by kernel_rfl) (by kernel_rfl)) (spLit ih.find32) <|
  ctx_cons (enter_of Try.func15 (by kernel_rfl) (by kernel_rfl)) (spLit ih.get) <|
  ctx_cons (enter_of Try.func16 (by kernel_rfl) (by kernel_rfl)) (spLit ih.at_) <|
  ctx_cons (enter_of Try.func17 (by kernel_rfl) (by kernel_rfl)) (spLit ih.len) G0_ok
def Gtp110 (N : RdN) : List (FuncId × Sp) := (11, .lift (gLit (csDrop N))) :: (12, .lift (gLit (csDrop32 N))) :: (9, .lift (gLit (csFind true N))) :: (14, .lift (gLit (csFind32 true N))) :: (15, .lift (gLit (csGet false N))) :: (16, .lift (gLit (csAt false N))) :: (17, .lift (gLit (csLen N))) :: G0
theorem Gtp110_ok (N : RdN) (ih : RdOk true true false N) : CtxOk Try.prog (Gtp110 N) := ctx_cons (enter_of Try.func11 (by kernel_rfl) (by kernel_rfl)) (spLit ih.tab) <|
  ctx_cons (enter_of Try.func12 (by kernel_rfl) (by kernel_rfl)) (spLit ih.doc) <|
  ctx_cons (enter_of Try.func9 (by kernel_rfl) (by kernel_rfl)) (spLit ih.find) <|
  ctx_cons (enter_of Try.func14 (by kernel_rfl) (by kernel_rfl)) (spLit ih.find32) <|
  ctx_cons (enter_of Try.func15 (by kernel_rfl) (by kernel_rfl)) (spLit ih.get) <|
  ctx_cons (enter_of Try.func16 (by kernel_rfl) (by kernel_rfl)) (spLit ih.at_) <|
  ctx_cons (enter_of Try.func17 (by kernel_rfl) (by kernel_rfl)) (spLit ih.len) G0_ok
def Gtp111 (N : RdN) : List (FuncId × Sp) := (11, .lift (gLit (csDrop N))) :: (12, .lift (gLit (csDrop32 N))) :: (9, .lift (gLit (csFind true N))) :: (14, .lift (gLit (csFind32 true N))) :: (15, .lift (gLit (csGet true N))) :: (16, .lift (gLit (csAt true N))) :: (17, .lift (gLit (csLen N))) :: G0
theorem Gtp111_ok (N : RdN) (ih : RdOk true true true N) : CtxOk Try.prog (Gtp111 N) := ctx_cons (enter_of Try.func11 (by kernel_rfl) (by kernel_rfl)) (spLit ih.tab) <|
  ctx_cons (enter_of Try.func12 (by kernel_rfl) (by kernel_rfl)) (spLit ih.doc) <|
  ctx_cons (enter_of Try.func9 (by kernel_rfl) (by kernel_rfl)) (spLit ih.find) <|
  ctx_cons (enter_of Try.func14 (by kernel_rfl) (by kernel_rfl)) (spLit ih.find32) <|
  ctx_cons (enter_of Try.func15 (by kernel_rfl) (by kernel_rfl)) (spLit ih.get) <|
  ctx_cons (enter_of Try.func16 (by kernel_rfl) (by kernel_rfl)) (spLit ih.at_) <|
  ctx_cons (enter_of Try.func17 (by kernel_rfl) (by kernel_rfl)) (spLit ih.len) G0_ok
/-- Acts. -/
structure Ac32 where
  d : Bool
  a : Int
  n : Int
  x : Int
  k : Int
abbrev gAc (A : Nat → Ac32) : Nat → List At := fun i => [.val (.bool (A i).d), .val (.int .u32 (A i).a), .val (.int .i64 (A i).n), .val (.int .i64 (A i).x), .val (.int .u32 (A i).k)]
end Go.Proofs.Ytfienpkogkepkaa

/- Runs of Go code, as printed by a program: no condition beyond those that each states. -/
namespace Go.Proofs.Ytfienpkogkepkaa
set_option linter.unusedVariables false
set_option linter.unusedSimpArgs false
set_option maxRecDepth 100000
open Go.RowKit E
attribute [local irreducible] TA enF insE dropE fE lkE puE drE atE
set_option maxHeartbeats 2000000 in
theorem nil_fd (a n : Int) : FnOk Try.prog 19 ([.nv (.one (.val (.pointer none))), .nv (.agg [.val (.int .u32 a), .val (.int .i64 n)])]) ([]) (.nv (.one (.val (.pointer none)))) ([]) :=
  fn_run Gt3_ok Try.func19 (orc := ⟨[true, true], []⟩) (obl := [true = true,
      true = true,
      Value.pointer none = Value.pointer none]) (by kernel_rfl) (.cons (by rfl) (.cons (by rfl) (.cons (by rfl) .nil))) (Nat.le_of_ble_eq_true (by kernel_rfl))
end Go.Proofs.Ytfienpkogkepkaa

/- trie: find of none. No condition. -/
namespace Go.Proofs.Ytfienpkogkepkaa
set_option linter.unusedVariables false
set_option linter.unusedSimpArgs false
open Go.RowKit E
def gNFd : List SV → List Seg → Option (CS × List Prop)
  | [.nv (.one (.val (.pointer none))), .nv (.agg [.val (.int .u32 a), .val (.int .i64 n)])], _ => some (⟨[.nv (.one (.val (.pointer none))), .nv (.agg [.val (.int .u32 a), .val (.int .i64 n)])], [], .nv (.one (.val (.pointer none))), []⟩, [])
  | _, _ => none
theorem spNFd : SpOk Try.prog 19 (.lift gNFd) := by
  intro args mem cs obl h ho
  unfold gNFd at h
  split at h
  · simp only [Option.some.injEq, Prod.mk.injEq] at h
    obtain ⟨rfl, rfl⟩ := h
    exact nil_fd _ _
  · cases h
def Gz1  : List (FuncId × Sp) := (19, .lift gNFd) :: Gt3
theorem Gz1_ok   : CtxOk Try.prog (Gz1) := ctx_cons (enter_of Try.func19 (by kernel_rfl) (by kernel_rfl)) (spNFd) Gt3_ok
end Go.Proofs.Ytfienpkogkepkaa

/- Runs of Go code, as printed by a program: no condition beyond those that each states. -/
namespace Go.Proofs.Ytfienpkogkepkaa
set_option linter.unusedVariables false
set_option linter.unusedSimpArgs false
set_option maxRecDepth 100000
open Go.RowKit E
attribute [local irreducible] TA enF insE dropE fE lkE puE drE atE
set_option maxHeartbeats 2000000 in
theorem nil_ge (a n : Int) : FnOk Try.prog 15 ([.nv (.one (.val (.pointer none))), .nv (.agg [.val (.int .u32 a), .val (.int .i64 n)])]) ([]) (.tup [.one (.val (.int .i64 0)), .one (.val (.bool false))]) ([]) :=
  fn_run Gz1_ok Try.func15 (orc := ⟨[true, true], []⟩) (obl := [Value.pointer none = Value.pointer none,
      a = a,
      n = n,
      true = true,
      true = true,
      (0 : Int) = (0 : Int),
      false = false]) (by kernel_rfl) (.cons (by rfl) (.cons (by rfl) (.cons (by rfl) (.cons (by rfl) (.cons (by rfl) (.cons (by rfl) (.cons (by rfl) .nil))))))) (Nat.le_of_ble_eq_true (by kernel_rfl))

set_option maxHeartbeats 2000000 in
theorem nil_pu (a n x : Int) : FnOk Try.prog 8 ([.nv (.one (.val (.pointer none))), .nv (.agg [.val (.int .u32 a), .val (.int .i64 n)]), iA x]) ([]) (iA 10) ([]) :=
  fn_run Gz1_ok Try.func8 (orc := ⟨[true], []⟩) (obl := [true = true,
      (10 : Int) = (10 : Int)]) (by kernel_rfl) (.cons (by rfl) (.cons (by rfl) .nil)) (Nat.le_of_ble_eq_true (by kernel_rfl))
end Go.Proofs.Ytfienpkogkepkaa

/- trie: Get and Put of none. No condition. -/
namespace Go.Proofs.Ytfienpkogkepkaa
set_option linter.unusedVariables false
set_option linter.unusedSimpArgs false
open Go.RowKit E
def gNGe : List SV → List Seg → Option (CS × List Prop)
  | [.nv (.one (.val (.pointer none))), .nv (.agg [.val (.int .u32 a), .val (.int .i64 n)])], _ => some (⟨[.nv (.one (.val (.pointer none))), .nv (.agg [.val (.int .u32 a), .val (.int .i64 n)])], [], .tup [.one (.val (.int .i64 0)), .one (.val (.bool false))], []⟩, [])
  | _, _ => none
theorem spNGe : SpOk Try.prog 15 (.lift gNGe) := by
  intro args mem cs obl h ho
  unfold gNGe at h
  split at h
  · simp only [Option.some.injEq, Prod.mk.injEq] at h
    obtain ⟨rfl, rfl⟩ := h
    exact nil_ge _ _
  · cases h
def Gz2  : List (FuncId × Sp) := (15, .lift gNGe) :: Gt3
theorem Gz2_ok   : CtxOk Try.prog (Gz2) := ctx_cons (enter_of Try.func15 (by kernel_rfl) (by kernel_rfl)) (spNGe) Gt3_ok
end Go.Proofs.Ytfienpkogkepkaa

/- Runs of Go code, as printed by a program: no condition beyond those that each states. -/
namespace Go.Proofs.Ytfienpkogkepkaa
set_option linter.unusedVariables false
set_option linter.unusedSimpArgs false
set_option maxRecDepth 100000
open Go.RowKit E
attribute [local irreducible] TA enF insE dropE fE lkE puE drE atE
set_option maxHeartbeats 2000000 in
theorem nil_dr (a n : Int) : FnOk Try.prog 11 ([.nv (.one (.val (.pointer none))), .nv (.agg [.val (.int .u32 a), .val (.int .i64 n)])]) ([]) (.tup [.one (.val (.int .i64 0)), .one (.val (.bool false))]) ([]) :=
  fn_run Gz2_ok Try.func11 (orc := ⟨[false], []⟩) (obl := [Value.pointer none = Value.pointer none,
      a = a,
      n = n,
      false = false,
      (0 : Int) = (0 : Int),
      false = false]) (by kernel_rfl) (.cons (by rfl) (.cons (by rfl) (.cons (by rfl) (.cons (by rfl) (.cons (by rfl) (.cons (by rfl) .nil)))))) (Nat.le_of_ble_eq_true (by kernel_rfl))
end Go.Proofs.Ytfienpkogkepkaa

/- lives: what it calls. No condition. -/
namespace Go.Proofs.Ytfienpkogkepkaa
set_option linter.unusedVariables false
set_option linter.unusedSimpArgs false
open Go.RowKit E
/-- lives' tables. -/
structure LvN where
  T1 : PT
  T2 : PT
  T3 : PT
  T4 : PT
def sA : Int := 167772160
def lA : Int := 167837696
def kA : Int := 167837701
def lv1 (N : LvN) : CS := ⟨puArgs sA 8 1, [tbS 1 0, .abs (TA none emT)], iA 0, [tbS 2 1, .gone, .abs (TA none N.T1)]⟩
def lv2 (N : LvN) : CS := ⟨puArgs lA 16 2, [tbS 1 1, .abs (TA none N.T1)], iA 0, [tbS 2 2, .gone, .abs (TA none N.T2)]⟩
def lv3 (N : LvN) : CS := ⟨puArgs lA 16 3, [tbS 1 2, .abs (TA none N.T2)], iA 8, [tbS 2 2, .gone, .abs (TA none N.T3)]⟩
def lv4 (N : LvN) : CS := ⟨[.nv (.one (.ptr 0 0)), .nv (.one (.val (.int .u32 kA)))], [.robox tTb [.root 1 0 true, .val (.int .i64 2)], .roabs (TA none N.T3)], fdTup ⟨lA, 16, 2⟩ true, [.gone, .gone, .gone]⟩
def lv5 (N : LvN) : CS := ⟨fdArgs lA 16, [tbS 1 2, .abs (TA none N.T3)], .tup [.one (.val (.int .i64 2)), .one (.val (.bool true))], [tbS 2 1, .gone, .abs (TA none N.T4)]⟩
def lv6 (N : LvN) : CS := ⟨[.nv (.one (.ptr 0 0)), .nv (.one (.val (.int .u32 kA)))], [.robox tTb [.root 1 0 true, .val (.int .i64 1)], .roabs (TA none N.T4)], fdTup ⟨sA, 8, 1⟩ true, [.gone, .gone, .gone]⟩
def lv7 : CS := ⟨[.nv (.one (.ptr 0 0))], [.robox tTb [.any, .val (.int .i64 1)]], iA 1, [.gone]⟩
def csNew : CS := ⟨[], [], .nv (.one (.ptr 1 0)), [.gone, tbS 2 0, .abs (TA none emT)]⟩
structure LvOk (N : LvN) : Prop where
  p1 : FnCs 8 (lv1 N)
  p2 : FnCs 8 (lv2 N)
  p3 : FnCs 8 (lv3 N)
  p4 : FnCs 9 (lv4 N)
  p5 : FnCs 11 (lv5 N)
  p6 : FnCs 9 (lv6 N)
def gLvPut (N : LvN) : List SV → List Seg → Option (CS × List Prop)
  | [_, _, .nv (.one (.val (.int _ x)))], _ => if x = 1 then some (lv1 N, []) else if x = 2 then some (lv2 N, []) else some (lv3 N, [])
  | _, _ => none
theorem spLvPut {N : LvN} (ih : LvOk N) : SpOk Try.prog 8 (.lift (gLvPut N)) := by
  intro args mem cs obl h ho
  unfold gLvPut at h
  split at h
  · split at h
    · simp only [Option.some.injEq, Prod.mk.injEq] at h
      obtain ⟨rfl, rfl⟩ := h
      exact ih.p1
    · split at h
      · simp only [Option.some.injEq, Prod.mk.injEq] at h
        obtain ⟨rfl, rfl⟩ := h
        exact ih.p2
      · simp only [Option.some.injEq, Prod.mk.injEq] at h
        obtain ⟨rfl, rfl⟩ := h
        exact ih.p3
  · cases h
def gLvFind (N : LvN) : List SV → List Seg → Option (CS × List Prop)
  | [.nv (.one (.ptr h _)), _], mem => match mem[h]? with
    | some (.box _ [_, .val (.int _ c)]) => if c = 2 then some (lv4 N, []) else some (lv6 N, [])
    | _ => none
  | _, _ => none
theorem spLvFind {N : LvN} (ih : LvOk N) : SpOk Try.prog 9 (.lift (gLvFind N)) := by
  intro args mem cs obl h ho
  unfold gLvFind at h
  split at h
  · split at h
    · split at h
      · simp only [Option.some.injEq, Prod.mk.injEq] at h
        obtain ⟨rfl, rfl⟩ := h
        exact ih.p4
      · simp only [Option.some.injEq, Prod.mk.injEq] at h
        obtain ⟨rfl, rfl⟩ := h
        exact ih.p6
    · cases h
  · cases h
theorem fnLen7 : FnCs 17 lv7 := len_f 1
def Glv (N : LvN) : List (FuncId × Sp) := (7, .lift (gLit csNew)) :: (8, .lift (gLvPut N)) :: (9, .lift (gLvFind N)) :: (11, .lift (gLit (lv5 N))) :: (17, .lift (gLit lv7)) :: G0
theorem Glv_ok (N : LvN) (ih : LvOk N) : CtxOk Try.prog (Glv N) := ctx_cons (enter_of Try.func7 (by kernel_rfl) (by kernel_rfl)) (spLit fnNew) <|
  ctx_cons (enter_of Try.func8 (by kernel_rfl) (by kernel_rfl)) (spLvPut ih) <|
  ctx_cons (enter_of Try.func9 (by kernel_rfl) (by kernel_rfl)) (spLvFind ih) <|
  ctx_cons (enter_of Try.func11 (by kernel_rfl) (by kernel_rfl)) (spLit ih.p5) <|
  ctx_cons (enter_of Try.func17 (by kernel_rfl) (by kernel_rfl)) (spLit fnLen7) G0_ok
end Go.Proofs.Ytfienpkogkepkaa

/- Runs of Go code, as printed by a program: no condition beyond those that each states. -/
namespace Go.Proofs.Ytfienpkogkepkaa
set_option linter.unusedVariables false
set_option linter.unusedSimpArgs false
set_option maxRecDepth 100000
open Go.RowKit E
attribute [local irreducible] TA enF insE dropE fE lkE puE drE atE
set_option maxHeartbeats 2000000 in
theorem lives_f (N : LvN) (ih : LvOk N) : PureOk Try.prog 6 ([]) (bA true) :=
  pure_run (Glv_ok N ih) Try.func6 (orc := ⟨[false, false, false, false, true, true, true, true, true, true, true], []⟩) (obl := [false = false,
      (0 : Nat) = (0 : Nat),
      (167772160 : Int) = sA,
      (8 : Int) = (8 : Int),
      (1 : Int) = (1 : Int),
      (0 : Nat) = (0 : Nat),
      (0 : Int) = (0 : Int),
      TA none emT = TA none emT,
      ((0 : Int) != (0 : Int)) = false,
      (0 : Nat) = (0 : Nat),
      (167837696 : Int) = lA,
      (16 : Int) = (16 : Int),
      (2 : Int) = (2 : Int),
      (0 : Nat) = (0 : Nat),
      (1 : Int) = (1 : Int),
      TA none (LvN.T1 N) = TA none (LvN.T1 N),
      ((0 : Int) != (0 : Int)) = false,
      (0 : Nat) = (0 : Nat),
      (167837696 : Int) = lA,
      (16 : Int) = (16 : Int),
      (3 : Int) = (3 : Int),
      (0 : Nat) = (0 : Nat),
      (2 : Int) = (2 : Int),
      TA none (LvN.T2 N) = TA none (LvN.T2 N),
      ((8 : Int) != (8 : Int)) = false,
      (0 : Nat) = (0 : Nat),
      (167837701 : Int) = kA,
      (0 : Nat) = (0 : Nat),
      (2 : Int) = (2 : Int),
      TA none (LvN.T3 N) = TA none (LvN.T3 N),
      (0 : Nat) = (0 : Nat),
      (167837696 : Int) = lA,
      (16 : Int) = (16 : Int),
      (0 : Nat) = (0 : Nat),
      (2 : Int) = (2 : Int),
      TA none (LvN.T3 N) = TA none (LvN.T3 N),
      (0 : Nat) = (0 : Nat),
      (167837701 : Int) = kA,
      (0 : Nat) = (0 : Nat),
      (1 : Int) = (1 : Int),
      TA none (LvN.T4 N) = TA none (LvN.T4 N),
      (lA == (167837696 : Int) && ((16 : Int) == (16 : Int) && true)) = true,
      ((2 : Int) == (2 : Int)) = true,
      true = true,
      true = true,
      (sA == (167772160 : Int) && ((8 : Int) == (8 : Int) && true)) = true,
      ((1 : Int) == (1 : Int)) = true,
      true = true,
      (0 : Nat) = (0 : Nat),
      (1 : Int) = (1 : Int),
      ((1 : Int) == (1 : Int)) = true]) (by kernel_rfl) (.cons (by rfl) (.cons (by rfl) (.cons (by rfl) (.cons (by rfl) (.cons (by rfl) (.cons (by rfl) (.cons (by rfl) (.cons (by rfl) (.cons (by rfl) (.cons (by rfl) (.cons (by rfl) (.cons (by rfl) (.cons (by rfl) (.cons (by rfl) (.cons (by rfl) (.cons (by rfl) (.cons (by rfl) (.cons (by rfl) (.cons (by rfl) (.cons (by rfl) (.cons (by rfl) (.cons (by rfl) (.cons (by rfl) (.cons (by rfl) (.cons (by rfl) (.cons (by rfl) (.cons (by rfl) (.cons (by rfl) (.cons (by rfl) (.cons (by rfl) (.cons (by rfl) (.cons (by rfl) (.cons (by rfl) (.cons (by rfl) (.cons (by rfl) (.cons (by rfl) (.cons (by rfl) (.cons (by rfl) (.cons (by rfl) (.cons (by rfl) (.cons (by rfl) (.cons (by rfl) (.cons (by rfl) (.cons (by rfl) (.cons (by rfl) (.cons (by rfl) (.cons (by rfl) (.cons (by rfl) (.cons (by rfl) (.cons (by rfl) (.cons (by rfl) .nil)))))))))))))))))))))))))))))))))))))))))))))))))))
end Go.Proofs.Ytfienpkogkepkaa

/- lives; what the law calls. No condition. -/
namespace Go.Proofs.Ytfienpkogkepkaa
set_option linter.unusedVariables false
set_option linter.unusedSimpArgs false
open Go.RowKit E

theorem pue1 : puE sA 8 1 [] = ⟨[⟨sA, 8, 1⟩], 0⟩ := by kernel_rfl
theorem pue2 : puE lA 16 2 [⟨sA, 8, 1⟩] = ⟨[⟨sA, 8, 1⟩, ⟨lA, 16, 2⟩], 0⟩ := by kernel_rfl
theorem pue3 : puE lA 16 3 [⟨sA, 8, 1⟩, ⟨lA, 16, 2⟩] = ⟨[⟨sA, 8, 1⟩, ⟨lA, 16, 2⟩], 8⟩ := by kernel_rfl
theorem fel4 : fE kA [⟨sA, 8, 1⟩, ⟨lA, 16, 2⟩] none = some ⟨lA, 16, 2⟩ := by kernel_rfl
theorem dre5 : drE lA 16 [⟨sA, 8, 1⟩, ⟨lA, 16, 2⟩] = ⟨[⟨sA, 8, 1⟩], 2, true⟩ := by kernel_rfl
theorem fel6 : fE kA [⟨sA, 8, 1⟩] none = some ⟨sA, 8, 1⟩ := by kernel_rfl
theorem lv_ok : ∃ N, LvOk N := by
  have hs : 0 ≤ sA ∧ sA ≤ 4294967295 := by unfold sA; omega
  have hl : 0 ≤ lA ∧ lA ≤ 4294967295 := by unfold lA; omega
  have hk : 0 ≤ kA ∧ kA ≤ 4294967295 := by unfold kA; omega
  obtain ⟨T1, p1, o1⟩ := put_fn (pn := 8) 1 em_ok hs
  rw [pue1] at p1 o1
  obtain ⟨T2, p2, o2⟩ := put_fn (pn := 16) 2 o1 hl
  simp only at p2 o2
  rw [pue2] at p2 o2
  obtain ⟨T3, p3, o3⟩ := put_fn (pn := 16) 3 o2 hl
  simp only at p3 o3
  rw [pue3] at p3 o3
  have p4 := find_fn o3 hk
  simp only at p4
  rw [fel4] at p4
  obtain ⟨T4, p5, o5⟩ := drop_fn (pn := 16) o3 hl
  simp only at p5 o5
  rw [dre5] at p5 o5
  have p6 := find_fn o5 hk
  simp only at p6
  rw [fel6] at p6
  exact ⟨⟨T1, T2, T3, T4⟩, p1, p2, p3, p4, p5, p6⟩
theorem fnLives : PureOk Try.prog 6 [] (bA true) := by
  obtain ⟨N, h⟩ := lv_ok
  exact lives_f N h
def gLives : List SV → Option (SV × List Prop)
  | [] => some (bA true, [])
  | _ => none
theorem spLives : SpOk Try.prog 6 (pureS gLives) := pureS_ok (by
  intro args r obl h ho
  unfold gLives at h
  split at h
  · simp only [Option.some.injEq, Prod.mk.injEq] at h
    obtain ⟨rfl, rfl⟩ := h
    exact ⟨rfl, rfl, fnLives⟩
  · cases h)
structure PeN where
  T : PT
  l : List En
def pfF (l : List En) : Nat → Pf := fun i => ⟨(enF l i).a, (enF l i).n⟩
def csAll (N : PeN) : CS := ⟨[.nv (.one (.ptr 0 0))], roT N.T N.l, .nv (.one (.own 2)), [.gone, .gone, .row 28 2 N.l.length (gPf (pfF N.l))]⟩
structure PeOk (N : PeN) : Prop where
  all_ : FnCs 18 (csAll N)
theorem all_fn {T : PT} {l : List En} (h : TrOk T l l.length) : FnCs 18 (csAll ⟨T, l⟩) := by
  have e1 := wkL_map T
  rw [h.eq] at e1
  have h1 : (wkL T).length = l.length := by rw [e1, List.length_map]
  have h2 : apG (fun _ => ⟨0, 0⟩) 0 (wkL T) = pfF l := by
    funext k
    unfold apG pfF enF
    rw [if_neg (by omega), e1, Nat.sub_zero, List.getD_eq_getElem?_getD, List.getElem?_map, List.getD_eq_getElem?_getD]
    cases l[k]? <;> rfl
  have := all_f ⟨T, 0, 0, 0, (l.length : Nat), 0, none⟩ (by show (wkL T).length ≤ _; rw [h1]; have := h.hi; omega)
  simp only at this
  rw [h1, h2] at this
  exact this
def Glw (N : PeN) : List (FuncId × Sp) := (6, pureS gLives) :: (7, .lift (gLit csNew)) :: (18, .lift (gLit (csAll N))) :: G0
theorem Glw_ok (N : PeN) (ih : PeOk N) : CtxOk Try.prog (Glw N) := ctx_cons (enter_of Try.func6 (by kernel_rfl) (by kernel_rfl)) (spLives) <|
  ctx_cons (enter_of Try.func7 (by kernel_rfl) (by kernel_rfl)) (spLit fnNew) <|
  ctx_cons (enter_of Try.func18 (by kernel_rfl) (by kernel_rfl)) (spLit ih.all_) G0_ok
end Go.Proofs.Ytfienpkogkepkaa

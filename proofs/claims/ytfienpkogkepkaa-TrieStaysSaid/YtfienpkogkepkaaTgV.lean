/- a table that nobody made; what stays: what the laws call. No condition. -/
import Derived.Test.YtfienpkogkepkaaTgT
import Derived.Test.YtfienpkogkepkaaChecked
import Derived.KernelRfl
namespace Go.Proofs.Ytfienpkogkepkaa
set_option linter.unusedVariables false
set_option linter.unusedSimpArgs false
open Go.RowKit E
def gNDr : List SV → List Seg → Option (CS × List Prop)
  | [.nv (.one (.val (.pointer none))), .nv (.agg [.val (.int .u32 a), .val (.int .i64 n)])], _ => some (⟨[.nv (.one (.val (.pointer none))), .nv (.agg [.val (.int .u32 a), .val (.int .i64 n)])], [], .tup [.one (.val (.int .i64 0)), .one (.val (.bool false))], []⟩, [])
  | _, _ => none
theorem spNDr : SpOk Try.prog 11 (.lift gNDr) := by
  intro args mem cs obl h ho
  unfold gNDr at h
  split at h
  · simp only [Option.some.injEq, Prod.mk.injEq] at h
    obtain ⟨rfl, rfl⟩ := h
    exact nil_dr _ _
  · cases h
def gNPu : List SV → List Seg → Option (CS × List Prop)
  | [.nv (.one (.val (.pointer none))), .nv (.agg [.val (.int .u32 a), .val (.int .i64 n)]), .nv (.one (.val (.int .i64 x)))], _ => some (⟨[.nv (.one (.val (.pointer none))), .nv (.agg [.val (.int .u32 a), .val (.int .i64 n)]), iA x], [], iA 10, []⟩, [])
  | _, _ => none
theorem spNPu : SpOk Try.prog 8 (.lift gNPu) := by
  intro args mem cs obl h ho
  unfold gNPu at h
  split at h
  · simp only [Option.some.injEq, Prod.mk.injEq] at h
    obtain ⟨rfl, rfl⟩ := h
    exact nil_pu _ _ _
  · cases h
def gNFi : List SV → List Seg → Option (CS × List Prop)
  | [.nv (.one (.val (.pointer none))), .nv (.one (.val (.int .u32 k)))], _ => some (⟨[.nv (.one (.val (.pointer none))), .nv (.one (.val (.int .u32 k)))], [], .tup [.agg [.val (.int .u32 0), .val (.int .i64 0)], .one (.val (.int .i64 0)), .one (.val (.bool false))], []⟩, [])
  | _, _ => none
theorem spNFi : SpOk Try.prog 9 (.lift gNFi) := by
  intro args mem cs obl h ho
  unfold gNFi at h
  split at h
  · simp only [Option.some.injEq, Prod.mk.injEq] at h
    obtain ⟨rfl, rfl⟩ := h
    exact ff_none _
  · cases h
def gNLe : List SV → List Seg → Option (CS × List Prop)
  | [.nv (.one (.val (.pointer none)))], _ => some (⟨[.nv (.one (.val (.pointer none)))], [], iA 0, []⟩, [])
  | _, _ => none
theorem spNLe : SpOk Try.prog 17 (.lift gNLe) := by
  intro args mem cs obl h ho
  unfold gNLe at h
  split at h
  · simp only [Option.some.injEq, Prod.mk.injEq] at h
    obtain ⟨rfl, rfl⟩ := h
    exact len_n
  · cases h
def gNAl : List SV → List Seg → Option (CS × List Prop)
  | [.nv (.one (.val (.pointer none)))], _ => some (⟨[.nv (.one (.val (.pointer none)))], [], .nv (.one (.val (.slice none 0 0))), []⟩, [])
  | _, _ => none
theorem spNAl : SpOk Try.prog 18 (.lift gNAl) := by
  intro args mem cs obl h ho
  unfold gNAl at h
  split at h
  · simp only [Option.some.injEq, Prod.mk.injEq] at h
    obtain ⟨rfl, rfl⟩ := h
    exact all_n
  · cases h
def Gnb  : List (FuncId × Sp) := (15, .lift gNGe) :: (11, .lift gNDr) :: (8, .lift gNPu) :: (9, .lift gNFi) :: (17, .lift gNLe) :: (18, .lift gNAl) :: (6, pureS gLives) :: G0
theorem Gnb_ok   : CtxOk Try.prog (Gnb) := ctx_cons (enter_of Try.func15 (by kernel_rfl) (by kernel_rfl)) (spNGe) <|
  ctx_cons (enter_of Try.func11 (by kernel_rfl) (by kernel_rfl)) (spNDr) <|
  ctx_cons (enter_of Try.func8 (by kernel_rfl) (by kernel_rfl)) (spNPu) <|
  ctx_cons (enter_of Try.func9 (by kernel_rfl) (by kernel_rfl)) (spNFi) <|
  ctx_cons (enter_of Try.func17 (by kernel_rfl) (by kernel_rfl)) (spNLe) <|
  ctx_cons (enter_of Try.func18 (by kernel_rfl) (by kernel_rfl)) (spNAl) <|
  ctx_cons (enter_of Try.func6 (by kernel_rfl) (by kernel_rfl)) (spLives) G0_ok
structure StOk (dr fh : Bool) (N : RdN) : Prop where
  tab : if dr = true then FnCs 11 (csDrop N) else FnCs 8 (csPut N)
  find : FnCs 9 (csFind fh N)
def Gsp (N : RdN) : List (FuncId × Sp) := (8, .lift (gLit (csPut N))) :: G0
theorem Gsp_ok (N : RdN) (ih : FnCs 8 (csPut N)) : CtxOk Try.prog (Gsp N) := ctx_cons (enter_of Try.func8 (by kernel_rfl) (by kernel_rfl)) (spLit ih) G0_ok
def Gst00 (N : RdN) : List (FuncId × Sp) := (8, .lift (gLit (csPut N))) :: (9, .lift (gLit (csFind false N))) :: (10, pureS gHas31) :: G0
theorem Gst00_ok (N : RdN) (ih : StOk false false N) : CtxOk Try.prog (Gst00 N) := ctx_cons (enter_of Try.func8 (by kernel_rfl) (by kernel_rfl)) (spLit ih.tab) <|
  ctx_cons (enter_of Try.func9 (by kernel_rfl) (by kernel_rfl)) (spLit ih.find) <|
  ctx_cons (enter_of Try.func10 (by kernel_rfl) (by kernel_rfl)) (spHas31) G0_ok
def Gst01 (N : RdN) : List (FuncId × Sp) := (8, .lift (gLit (csPut N))) :: (9, .lift (gLit (csFind true N))) :: (10, pureS gHas31) :: G0
theorem Gst01_ok (N : RdN) (ih : StOk false true N) : CtxOk Try.prog (Gst01 N) := ctx_cons (enter_of Try.func8 (by kernel_rfl) (by kernel_rfl)) (spLit ih.tab) <|
  ctx_cons (enter_of Try.func9 (by kernel_rfl) (by kernel_rfl)) (spLit ih.find) <|
  ctx_cons (enter_of Try.func10 (by kernel_rfl) (by kernel_rfl)) (spHas31) G0_ok
def Gst10 (N : RdN) : List (FuncId × Sp) := (11, .lift (gLit (csDrop N))) :: (9, .lift (gLit (csFind false N))) :: (10, pureS gHas31) :: G0
theorem Gst10_ok (N : RdN) (ih : StOk true false N) : CtxOk Try.prog (Gst10 N) := ctx_cons (enter_of Try.func11 (by kernel_rfl) (by kernel_rfl)) (spLit ih.tab) <|
  ctx_cons (enter_of Try.func9 (by kernel_rfl) (by kernel_rfl)) (spLit ih.find) <|
  ctx_cons (enter_of Try.func10 (by kernel_rfl) (by kernel_rfl)) (spHas31) G0_ok
def Gst11 (N : RdN) : List (FuncId × Sp) := (11, .lift (gLit (csDrop N))) :: (9, .lift (gLit (csFind true N))) :: (10, pureS gHas31) :: G0
theorem Gst11_ok (N : RdN) (ih : StOk true true N) : CtxOk Try.prog (Gst11 N) := ctx_cons (enter_of Try.func11 (by kernel_rfl) (by kernel_rfl)) (spLit ih.tab) <|
  ctx_cons (enter_of Try.func9 (by kernel_rfl) (by kernel_rfl)) (spLit ih.find) <|
  ctx_cons (enter_of Try.func10 (by kernel_rfl) (by kernel_rfl)) (spHas31) G0_ok
def Ghs  : List (FuncId × Sp) := (10, pureS gHas31) :: (6, pureS gLives) :: G0
theorem Ghs_ok   : CtxOk Try.prog (Ghs) := ctx_cons (enter_of Try.func10 (by kernel_rfl) (by kernel_rfl)) (spHas31) <|
  ctx_cons (enter_of Try.func6 (by kernel_rfl) (by kernel_rfl)) (spLives) G0_ok
def Gsl0 (N : RdN) : List (FuncId × Sp) := (7, .lift (gLit csNew)) :: (9, .lift (gLit (csFind false N))) :: (10, pureS gHas31) :: (6, pureS gLives) :: G0
theorem Gsl0_ok (N : RdN) (ih : FnCs 9 (csFind false N)) : CtxOk Try.prog (Gsl0 N) := ctx_cons (enter_of Try.func7 (by kernel_rfl) (by kernel_rfl)) (spLit fnNew) <|
  ctx_cons (enter_of Try.func9 (by kernel_rfl) (by kernel_rfl)) (spLit ih) <|
  ctx_cons (enter_of Try.func10 (by kernel_rfl) (by kernel_rfl)) (spHas31) <|
  ctx_cons (enter_of Try.func6 (by kernel_rfl) (by kernel_rfl)) (spLives) G0_ok
def Gsl1 (N : RdN) : List (FuncId × Sp) := (7, .lift (gLit csNew)) :: (9, .lift (gLit (csFind true N))) :: (10, pureS gHas31) :: (6, pureS gLives) :: G0
theorem Gsl1_ok (N : RdN) (ih : FnCs 9 (csFind true N)) : CtxOk Try.prog (Gsl1 N) := ctx_cons (enter_of Try.func7 (by kernel_rfl) (by kernel_rfl)) (spLit fnNew) <|
  ctx_cons (enter_of Try.func9 (by kernel_rfl) (by kernel_rfl)) (spLit ih) <|
  ctx_cons (enter_of Try.func10 (by kernel_rfl) (by kernel_rfl)) (spHas31) <|
  ctx_cons (enter_of Try.func6 (by kernel_rfl) (by kernel_rfl)) (spLives) G0_ok
end Go.Proofs.Ytfienpkogkepkaa

/- Runs of Go code, as printed by a program: no condition beyond those that each states. -/
namespace Go.Proofs.Ytfienpkogkepkaa
set_option linter.unusedVariables false
set_option linter.unusedSimpArgs false
set_option maxRecDepth 100000
open Go.RowKit E
attribute [local irreducible] TA enF insE dropE fE lkE puE drE atE
set_option maxHeartbeats 2000000 in
theorem nb_f (a n k : Int) : LawOk Try.prog 5 ([.nv (.agg [.val (.int .u32 a), .val (.int .i64 n)]), .nv (.one (.val (.int .u32 k)))]) ([]) (bA true) :=
  law_run Gnb_ok Try.func5 (orc := ⟨[true, true, true, true, true, true, true], []⟩) (obl := [Value.pointer none = Value.pointer none,
      a = a,
      n = n,
      Value.pointer none = Value.pointer none,
      a = a,
      n = n,
      Value.pointer none = Value.pointer none,
      k = k,
      Value.pointer none = Value.pointer none,
      a = a,
      n = n,
      (1 : Int) = (1 : Int),
      ((10 : Int) == (10 : Int)) = true,
      (IntKind.wrap IntKind.i64 (IntKind.wrap IntKind.i64 ((0 : Int) + (0 : Int)) + (0 : Int)) == (0 : Int)) = true,
      (!false) = true,
      (!false) = true,
      (!false) = true,
      ((0 : Int) == (0 : Int) && ((0 : Int) == (0 : Int) && true)) = true,
      Value.pointer none = Value.pointer none,
      Value.pointer none = Value.pointer none,
      (IntKind.wrap IntKind.i64 ((0 : Int) + (↑(0 : Nat) : Int)) == (0 : Int)) = true,
      true = true]) (by kernel_rfl) (.cons (by rfl) (.cons (by rfl) (.cons (by rfl) (.cons (by rfl) (.cons (by rfl) (.cons (by rfl) (.cons (by rfl) (.cons (by rfl) (.cons (by rfl) (.cons (by rfl) (.cons (by rfl) (.cons (by rfl) (.cons (by rfl) (.cons (by rfl) (.cons (by rfl) (.cons (by rfl) (.cons (by rfl) (.cons (by rfl) (.cons (by rfl) (.cons (by rfl) (.cons (by rfl) (.cons (by rfl) .nil))))))))))))))))))))))

set_option maxHeartbeats 2000000 in
theorem st_l (len len2 : Nat) (A B : Nat → Ac32) (k : Int) (h : 100 < len) : LawOk Try.prog 3 ([.nv (.one (.own 0)), .nv (.one (.own 1)), .nv (.one (.val (.int .u32 k)))]) ([.ro 5 len (gAc A), .ro 5 len2 (gAc B)]) (bA true) :=
  law_run Ghs_ok Try.func3 (orc := ⟨[true, true], []⟩) (obl := [decide ((↑len : Int) > (100 : Int)) = true,
      true = true,
      true = true]) (by kernel_rfl) (.cons (by exact decide_eq_true (by omega)) (.cons (by rfl) (.cons (by rfl) .nil)))

set_option maxHeartbeats 2000000 in
theorem st_l2 (len len2 : Nat) (A B : Nat → Ac32) (k : Int) (h : len ≤ 100) (h2 : 100 < len2) : LawOk Try.prog 3 ([.nv (.one (.own 0)), .nv (.one (.own 1)), .nv (.one (.val (.int .u32 k)))]) ([.ro 5 len (gAc A), .ro 5 len2 (gAc B)]) (bA true) :=
  law_run Ghs_ok Try.func3 (orc := ⟨[false, true], []⟩) (obl := [decide ((↑len : Int) > (100 : Int)) = false,
      decide ((↑len2 : Int) > (100 : Int)) = true,
      true = true]) (by kernel_rfl) (.cons (by exact decide_eq_false (by omega)) (.cons (by exact decide_eq_true (by omega)) (.cons (by rfl) .nil)))

set_option maxHeartbeats 2000000 in
theorem st_1 (N : RdN) (ih : FnCs 8 (csPut N)) (len len2 : Nat) (A B : Nat → Ac32) (k : Int) (d : Bool) (q : Int) (i : Nat) (hi : i < len) (hl : len ≤ 100) (hA : A i = ⟨d, N.a, N.n, N.x, q⟩) : CodeOk Try.prog 2 (loopOf Try.f3 0) (mkSt 103 [(1, .nv (.one (.own 1))), (2, .nv (.one (.val (.int .u32 k)))), (7, .nv (.one (.ptr 2 0))), (30, .nv (.one (.own 0))), (31, iA len), (32, iA i)] [.ro 5 len (gAc A), .ro 5 len2 (gAc B), .box 57 [.root 3 0 true, .val (.int .i64 (N.l.length : Nat))], .abs (TA none N.T)]) .normal (mkSt 103 [(1, .nv (.one (.own 1))), (2, .nv (.one (.val (.int .u32 k)))), (7, .nv (.one (.ptr 2 0))), (30, .nv (.one (.own 0))), (31, iA len), (32, iA (i + 1 : Nat))] [.ro 5 len (gAc A), .ro 5 len2 (gAc B), .box 57 [.root 3 0 true, .val (.int .i64 (N.l'.length : Nat))], .abs (TA none N.T')]) :=
  code_run (Gsp_ok N ih) (orc := ⟨[true], []⟩) (obl := [decide ((↑i : Int) < (↑len : Int)) = true,
      (0 : Int) ≤ (↑i : Int),
      (↑i : Int) < (↑len : Int),
      Int.toNat (↑i : Int) < len,
      (0 : Nat) = (0 : Nat),
      Ac32.a (A (Int.toNat (↑i : Int))) = RdN.a N,
      Ac32.n (A (Int.toNat (↑i : Int))) = RdN.n N,
      Ac32.x (A (Int.toNat (↑i : Int))) = RdN.x N,
      (0 : Nat) = (0 : Nat),
      (↑(List.length (RdN.l N)) : Int) = (↑(List.length (RdN.l N)) : Int),
      TA none (RdN.T N) = TA none (RdN.T N),
      k = k,
      (0 : Nat) = (0 : Nat),
      (↑len : Int) = (↑len : Int),
      IntKind.wrap IntKind.i64 ((↑i : Int) + (1 : Int)) = (↑(i + (1 : Nat)) : Int),
      len = len,
      ∀ (i : Nat), i < len → Ac32.d (A i) = Ac32.d (A i) ∧ Ac32.a (A i) = Ac32.a (A i) ∧ Ac32.n (A i) = Ac32.n (A i) ∧ Ac32.x (A i) = Ac32.x (A i) ∧ Ac32.k (A i) = Ac32.k (A i) ∧ True,
      len2 = len2,
      ∀ (i : Nat), i < len2 → Ac32.d (B i) = Ac32.d (B i) ∧ Ac32.a (B i) = Ac32.a (B i) ∧ Ac32.n (B i) = Ac32.n (B i) ∧ Ac32.x (B i) = Ac32.x (B i) ∧ Ac32.k (B i) = Ac32.k (B i) ∧ True,
      (0 : Nat) = (0 : Nat),
      (↑(List.length (RdN.l' N)) : Int) = (↑(List.length (RdN.l' N)) : Int),
      TA none (RdN.T' N) = TA none (RdN.T' N)]) (by kernel_rfl) (.cons (by exact decide_eq_true (by omega)) (.cons (by omega) (.cons (by omega) (.cons (by assumption) (.cons (by rfl) (.cons (by (rw [Int.toNat_natCast, hA])) (.cons (by (rw [Int.toNat_natCast, hA])) (.cons (by (rw [Int.toNat_natCast, hA])) (.cons (by rfl) (.cons (by rfl) (.cons (by rfl) (.cons (by rfl) (.cons (by rfl) (.cons (by rfl) (.cons (by exact w64 (by omega) (by omega)) (.cons (by rfl) (.cons (by (simp; done)) (.cons (by rfl) (.cons (by (simp; done)) (.cons (by rfl) (.cons (by rfl) (.cons (by rfl) .nil)))))))))))))))))))))) (Nat.le_of_ble_eq_true (by kernel_rfl))

set_option maxHeartbeats 2000000 in
theorem st_1x (len len2 : Nat) (A B : Nat → Ac32) (k : Int) (T : PT) (l : List En) (hl : len ≤ 100) : CodeOk Try.prog 2 (loopOf Try.f3 0) (mkSt 103 [(1, .nv (.one (.own 1))), (2, .nv (.one (.val (.int .u32 k)))), (7, .nv (.one (.ptr 2 0))), (30, .nv (.one (.own 0))), (31, iA len), (32, iA len)] [.ro 5 len (gAc A), .ro 5 len2 (gAc B), .box 57 [.root 3 0 true, .val (.int .i64 (l.length : Nat))], .abs (TA none T)]) (.exit 0) (mkSt 103 [(1, .nv (.one (.own 1))), (2, .nv (.one (.val (.int .u32 k)))), (7, .nv (.one (.ptr 2 0)))] [.ro 5 len (gAc A), .ro 5 len2 (gAc B), .box 57 [.root 3 0 true, .val (.int .i64 (l.length : Nat))], .abs (TA none T)]) :=
  code_run Ghs_ok (orc := ⟨[false], []⟩) (obl := [decide ((↑len : Int) < (↑len : Int)) = false,
      k = k,
      (0 : Nat) = (0 : Nat),
      len = len,
      ∀ (i : Nat), i < len → Ac32.d (A i) = Ac32.d (A i) ∧ Ac32.a (A i) = Ac32.a (A i) ∧ Ac32.n (A i) = Ac32.n (A i) ∧ Ac32.x (A i) = Ac32.x (A i) ∧ Ac32.k (A i) = Ac32.k (A i) ∧ True,
      len2 = len2,
      ∀ (i : Nat), i < len2 → Ac32.d (B i) = Ac32.d (B i) ∧ Ac32.a (B i) = Ac32.a (B i) ∧ Ac32.n (B i) = Ac32.n (B i) ∧ Ac32.x (B i) = Ac32.x (B i) ∧ Ac32.k (B i) = Ac32.k (B i) ∧ True,
      (0 : Nat) = (0 : Nat),
      (↑(List.length l) : Int) = (↑(List.length l) : Int),
      TA none T = TA none T]) (by kernel_rfl) (.cons (by exact decide_eq_false (by omega)) (.cons (by rfl) (.cons (by rfl) (.cons (by rfl) (.cons (by (simp; done)) (.cons (by rfl) (.cons (by (simp; done)) (.cons (by rfl) (.cons (by rfl) (.cons (by rfl) .nil)))))))))) (Nat.le_of_ble_eq_true (by kernel_rfl))

set_option maxHeartbeats 2000000 in
theorem st_2h (len len2 : Nat) (A B : Nat → Ac32) (k : Int) (T : PT) (l : List En) (f : En) (fh : Bool) (i : Nat) (hi : i < len2) (hl : len2 ≤ 100) (hk : 0 ≤ k) (hk2 : k ≤ 4294967295) (ha : 0 ≤ (B i).a) (ha2 : (B i).a ≤ 4294967295) (hh : hasB (B i).a (B i).n k = true) : CodeOk Try.prog 2 (loopOf Try.f3 1) (mkSt 103 [(2, .nv (.one (.val (.int .u32 k)))), (7, .nv (.one (.ptr 2 0))), (10, .nv (.one (.ptr 4 0))), (11, iA f.x), (12, bA fh), (50, .nv (.one (.own 1))), (51, iA len2), (52, iA i)] [.ro 5 len (gAc A), .ro 5 len2 (gAc B), .box 57 [.root 3 0 true, .val (.int .i64 (l.length : Nat))], .abs (TA none T), .box 28 [.val (.int .u32 f.a), .val (.int .i64 f.n)]]) .normal (mkSt 103 [(2, .nv (.one (.val (.int .u32 k)))), (7, .nv (.one (.ptr 2 0))), (10, .nv (.one (.ptr 4 0))), (11, iA f.x), (12, bA fh), (50, .nv (.one (.own 1))), (51, iA len2), (52, iA (i + 1 : Nat))] [.ro 5 len (gAc A), .ro 5 len2 (gAc B), .box 57 [.root 3 0 true, .val (.int .i64 (l.length : Nat))], .abs (TA none T), .box 28 [.val (.int .u32 f.a), .val (.int .i64 f.n)]]) :=
  code_run Ghs_ok (orc := ⟨[true, true], []⟩) (obl := [decide ((↑i : Int) < (↑len2 : Int)) = true,
      (0 : Int) ≤ (↑i : Int),
      (↑i : Int) < (↑len2 : Int),
      Int.toNat (↑i : Int) < len2,
      (0 : Int) ≤ Ac32.a (B (Int.toNat (↑i : Int))),
      Ac32.a (B (Int.toNat (↑i : Int))) ≤ (4294967295 : Int),
      (0 : Int) ≤ k,
      k ≤ (4294967295 : Int),
      hasB (Ac32.a (B (Int.toNat (↑i : Int)))) (Ac32.n (B (Int.toNat (↑i : Int)))) k = true,
      k = k,
      (0 : Nat) = (0 : Nat),
      (0 : Nat) = (0 : Nat),
      En.x f = En.x f,
      fh = fh,
      (↑len2 : Int) = (↑len2 : Int),
      IntKind.wrap IntKind.i64 ((↑i : Int) + (1 : Int)) = (↑(i + (1 : Nat)) : Int),
      len = len,
      ∀ (i : Nat), i < len → Ac32.d (A i) = Ac32.d (A i) ∧ Ac32.a (A i) = Ac32.a (A i) ∧ Ac32.n (A i) = Ac32.n (A i) ∧ Ac32.x (A i) = Ac32.x (A i) ∧ Ac32.k (A i) = Ac32.k (A i) ∧ True,
      len2 = len2,
      ∀ (i : Nat), i < len2 → Ac32.d (B i) = Ac32.d (B i) ∧ Ac32.a (B i) = Ac32.a (B i) ∧ Ac32.n (B i) = Ac32.n (B i) ∧ Ac32.x (B i) = Ac32.x (B i) ∧ Ac32.k (B i) = Ac32.k (B i) ∧ True,
      (0 : Nat) = (0 : Nat),
      (↑(List.length l) : Int) = (↑(List.length l) : Int),
      TA none T = TA none T,
      En.a f = En.a f,
      En.n f = En.n f]) (by kernel_rfl) (.cons (by exact decide_eq_true (by omega)) (.cons (by omega) (.cons (by omega) (.cons (by assumption) (.cons (by assumption) (.cons (by assumption) (.cons (by assumption) (.cons (by assumption) (.cons (by assumption) (.cons (by rfl) (.cons (by rfl) (.cons (by rfl) (.cons (by rfl) (.cons (by rfl) (.cons (by rfl) (.cons (by exact w64 (by omega) (by omega)) (.cons (by rfl) (.cons (by (simp; done)) (.cons (by rfl) (.cons (by (simp; done)) (.cons (by rfl) (.cons (by rfl) (.cons (by rfl) (.cons (by rfl) (.cons (by rfl) .nil))))))))))))))))))))))))) (Nat.le_of_ble_eq_true (by kernel_rfl))

set_option maxHeartbeats 2000000 in
theorem st_200 (N : RdN) (ih : StOk false false N) (len len2 : Nat) (A B : Nat → Ac32) (q : Int) (i : Nat) (hi : i < len2) (hl : len2 ≤ 100) (hk : 0 ≤ N.k) (hk2 : N.k ≤ 4294967295) (ha : 0 ≤ N.a) (ha2 : N.a ≤ 4294967295) (hh : hasB N.a N.n N.k = false) (hA : B i = ⟨false, N.a, N.n, N.x, q⟩) : CodeOk Try.prog 2 (loopOf Try.f3 1) (mkSt 103 [(2, .nv (.one (.val (.int .u32 N.k)))), (7, .nv (.one (.ptr 2 0))), (10, .nv (.one (.ptr 4 0))), (11, iA en0.x), (12, bA false), (50, .nv (.one (.own 1))), (51, iA len2), (52, iA i)] [.ro 5 len (gAc A), .ro 5 len2 (gAc B), .box 57 [.root 3 0 true, .val (.int .i64 (N.l.length : Nat))], .abs (TA none N.T), .box 28 [.val (.int .u32 en0.a), .val (.int .i64 en0.n)]]) .normal (mkSt 103 [(2, .nv (.one (.val (.int .u32 N.k)))), (7, .nv (.one (.ptr 2 0))), (10, .nv (.one (.ptr 4 0))), (11, iA en0.x), (12, bA false), (50, .nv (.one (.own 1))), (51, iA len2), (52, iA (i + 1 : Nat))] [.ro 5 len (gAc A), .ro 5 len2 (gAc B), .box 57 [.root 3 0 true, .val (.int .i64 (N.l'.length : Nat))], .abs (TA none N.T'), .box 28 [.val (.int .u32 en0.a), .val (.int .i64 en0.n)]]) :=
  code_run (Gst00_ok N ih) (orc := ⟨[true, false, false, false, false, false], []⟩) (obl := [decide ((↑i : Int) < (↑len2 : Int)) = true,
      (0 : Int) ≤ (↑i : Int),
      (↑i : Int) < (↑len2 : Int),
      Int.toNat (↑i : Int) < len2,
      (0 : Int) ≤ Ac32.a (B (Int.toNat (↑i : Int))),
      Ac32.a (B (Int.toNat (↑i : Int))) ≤ (4294967295 : Int),
      (0 : Int) ≤ RdN.k N,
      RdN.k N ≤ (4294967295 : Int),
      hasB (Ac32.a (B (Int.toNat (↑i : Int)))) (Ac32.n (B (Int.toNat (↑i : Int)))) (RdN.k N) = false,
      Ac32.d (B (Int.toNat (↑i : Int))) = false,
      (0 : Nat) = (0 : Nat),
      Ac32.a (B (Int.toNat (↑i : Int))) = RdN.a N,
      Ac32.n (B (Int.toNat (↑i : Int))) = RdN.n N,
      Ac32.x (B (Int.toNat (↑i : Int))) = RdN.x N,
      (0 : Nat) = (0 : Nat),
      (↑(List.length (RdN.l N)) : Int) = (↑(List.length (RdN.l N)) : Int),
      TA none (RdN.T N) = TA none (RdN.T N),
      (0 : Nat) = (0 : Nat),
      RdN.k N = RdN.k N,
      (0 : Nat) = (0 : Nat),
      (↑(List.length (RdN.l' N)) : Int) = (↑(List.length (RdN.l' N)) : Int),
      TA none (RdN.T' N) = TA none (RdN.T' N),
      (!(En.a en0 == En.a en0 && (En.n en0 == En.n en0 && true))) = false,
      (En.x en0 != En.x en0) = false,
      (!false == false) = false,
      RdN.k N = RdN.k N,
      (0 : Nat) = (0 : Nat),
      (0 : Nat) = (0 : Nat),
      En.x en0 = En.x en0,
      false = false,
      (↑len2 : Int) = (↑len2 : Int),
      IntKind.wrap IntKind.i64 ((↑i : Int) + (1 : Int)) = (↑(i + (1 : Nat)) : Int),
      len = len,
      ∀ (i : Nat), i < len → Ac32.d (A i) = Ac32.d (A i) ∧ Ac32.a (A i) = Ac32.a (A i) ∧ Ac32.n (A i) = Ac32.n (A i) ∧ Ac32.x (A i) = Ac32.x (A i) ∧ Ac32.k (A i) = Ac32.k (A i) ∧ True,
      len2 = len2,
      ∀ (i : Nat), i < len2 → Ac32.d (B i) = Ac32.d (B i) ∧ Ac32.a (B i) = Ac32.a (B i) ∧ Ac32.n (B i) = Ac32.n (B i) ∧ Ac32.x (B i) = Ac32.x (B i) ∧ Ac32.k (B i) = Ac32.k (B i) ∧ True,
      (0 : Nat) = (0 : Nat),
      (↑(List.length (RdN.l' N)) : Int) = (↑(List.length (RdN.l' N)) : Int),
      TA none (RdN.T' N) = TA none (RdN.T' N),
      En.a en0 = En.a en0,
      En.n en0 = En.n en0]) (by kernel_rfl) (.cons (by exact decide_eq_true (by omega)) (.cons (by (simp; done)) (.cons (by omega) (.cons (by assumption) (.cons (by (simp only [Int.toNat_natCast, hA]; omega)) (.cons (by (simp only [Int.toNat_natCast, hA]; omega)) (.cons (by assumption) (.cons (by assumption) (.cons (by (simp only [Int.toNat_natCast, hA]; exact hh)) (.cons (by (rw [Int.toNat_natCast, hA])) (.cons (by rfl) (.cons (by (rw [Int.toNat_natCast, hA])) (.cons (by (rw [Int.toNat_natCast, hA])) (.cons (by (rw [Int.toNat_natCast, hA])) (.cons (by rfl) (.cons (by rfl) (.cons (by rfl) (.cons (by rfl) (.cons (by rfl) (.cons (by rfl) (.cons (by rfl) (.cons (by rfl) (.cons (by rfl) (.cons (by rfl) (.cons (by rfl) (.cons (by rfl) (.cons (by rfl) (.cons (by rfl) (.cons (by rfl) (.cons (by rfl) (.cons (by rfl) (.cons (by exact w64 (by omega) (by omega)) (.cons (by rfl) (.cons (by (simp; done)) (.cons (by rfl) (.cons (by (simp; done)) (.cons (by rfl) (.cons (by rfl) (.cons (by rfl) (.cons (by rfl) (.cons (by rfl) .nil))))))))))))))))))))))))))))))))))))))))) (Nat.le_of_ble_eq_true (by kernel_rfl))

set_option maxHeartbeats 2000000 in
theorem st_201 (N : RdN) (ih : StOk false true N) (len len2 : Nat) (A B : Nat → Ac32) (q : Int) (i : Nat) (hi : i < len2) (hl : len2 ≤ 100) (hk : 0 ≤ N.k) (hk2 : N.k ≤ 4294967295) (ha : 0 ≤ N.a) (ha2 : N.a ≤ 4294967295) (hh : hasB N.a N.n N.k = false) (hA : B i = ⟨false, N.a, N.n, N.x, q⟩) : CodeOk Try.prog 2 (loopOf Try.f3 1) (mkSt 103 [(2, .nv (.one (.val (.int .u32 N.k)))), (7, .nv (.one (.ptr 2 0))), (10, .nv (.one (.ptr 4 0))), (11, iA N.f.x), (12, bA true), (50, .nv (.one (.own 1))), (51, iA len2), (52, iA i)] [.ro 5 len (gAc A), .ro 5 len2 (gAc B), .box 57 [.root 3 0 true, .val (.int .i64 (N.l.length : Nat))], .abs (TA none N.T), .box 28 [.val (.int .u32 N.f.a), .val (.int .i64 N.f.n)]]) .normal (mkSt 103 [(2, .nv (.one (.val (.int .u32 N.k)))), (7, .nv (.one (.ptr 2 0))), (10, .nv (.one (.ptr 4 0))), (11, iA N.f.x), (12, bA true), (50, .nv (.one (.own 1))), (51, iA len2), (52, iA (i + 1 : Nat))] [.ro 5 len (gAc A), .ro 5 len2 (gAc B), .box 57 [.root 3 0 true, .val (.int .i64 (N.l'.length : Nat))], .abs (TA none N.T'), .box 28 [.val (.int .u32 N.f.a), .val (.int .i64 N.f.n)]]) :=
  code_run (Gst01_ok N ih) (orc := ⟨[true, false, false, false, false, false], []⟩) (obl := [decide ((↑i : Int) < (↑len2 : Int)) = true,
      (0 : Int) ≤ (↑i : Int),
      (↑i : Int) < (↑len2 : Int),
      Int.toNat (↑i : Int) < len2,
      (0 : Int) ≤ Ac32.a (B (Int.toNat (↑i : Int))),
      Ac32.a (B (Int.toNat (↑i : Int))) ≤ (4294967295 : Int),
      (0 : Int) ≤ RdN.k N,
      RdN.k N ≤ (4294967295 : Int),
      hasB (Ac32.a (B (Int.toNat (↑i : Int)))) (Ac32.n (B (Int.toNat (↑i : Int)))) (RdN.k N) = false,
      Ac32.d (B (Int.toNat (↑i : Int))) = false,
      (0 : Nat) = (0 : Nat),
      Ac32.a (B (Int.toNat (↑i : Int))) = RdN.a N,
      Ac32.n (B (Int.toNat (↑i : Int))) = RdN.n N,
      Ac32.x (B (Int.toNat (↑i : Int))) = RdN.x N,
      (0 : Nat) = (0 : Nat),
      (↑(List.length (RdN.l N)) : Int) = (↑(List.length (RdN.l N)) : Int),
      TA none (RdN.T N) = TA none (RdN.T N),
      (0 : Nat) = (0 : Nat),
      RdN.k N = RdN.k N,
      (0 : Nat) = (0 : Nat),
      (↑(List.length (RdN.l' N)) : Int) = (↑(List.length (RdN.l' N)) : Int),
      TA none (RdN.T' N) = TA none (RdN.T' N),
      (!(En.a (RdN.f N) == En.a (RdN.f N) && (En.n (RdN.f N) == En.n (RdN.f N) && true))) = false,
      (En.x (RdN.f N) != En.x (RdN.f N)) = false,
      (!true == true) = false,
      RdN.k N = RdN.k N,
      (0 : Nat) = (0 : Nat),
      (0 : Nat) = (0 : Nat),
      En.x (RdN.f N) = En.x (RdN.f N),
      true = true,
      (↑len2 : Int) = (↑len2 : Int),
      IntKind.wrap IntKind.i64 ((↑i : Int) + (1 : Int)) = (↑(i + (1 : Nat)) : Int),
      len = len,
      ∀ (i : Nat), i < len → Ac32.d (A i) = Ac32.d (A i) ∧ Ac32.a (A i) = Ac32.a (A i) ∧ Ac32.n (A i) = Ac32.n (A i) ∧ Ac32.x (A i) = Ac32.x (A i) ∧ Ac32.k (A i) = Ac32.k (A i) ∧ True,
      len2 = len2,
      ∀ (i : Nat), i < len2 → Ac32.d (B i) = Ac32.d (B i) ∧ Ac32.a (B i) = Ac32.a (B i) ∧ Ac32.n (B i) = Ac32.n (B i) ∧ Ac32.x (B i) = Ac32.x (B i) ∧ Ac32.k (B i) = Ac32.k (B i) ∧ True,
      (0 : Nat) = (0 : Nat),
      (↑(List.length (RdN.l' N)) : Int) = (↑(List.length (RdN.l' N)) : Int),
      TA none (RdN.T' N) = TA none (RdN.T' N),
      En.a (RdN.f N) = En.a (RdN.f N),
      En.n (RdN.f N) = En.n (RdN.f N)]) (by kernel_rfl) (.cons (by exact decide_eq_true (by omega)) (.cons (by (simp; done)) (.cons (by omega) (.cons (by assumption) (.cons (by (simp only [Int.toNat_natCast, hA]; omega)) (.cons (by (simp only [Int.toNat_natCast, hA]; omega)) (.cons (by assumption) (.cons (by assumption) (.cons (by (simp only [Int.toNat_natCast, hA]; exact hh)) (.cons (by (rw [Int.toNat_natCast, hA])) (.cons (by rfl) (.cons (by (rw [Int.toNat_natCast, hA])) (.cons (by (rw [Int.toNat_natCast, hA])) (.cons (by (rw [Int.toNat_natCast, hA])) (.cons (by rfl) (.cons (by rfl) (.cons (by rfl) (.cons (by rfl) (.cons (by rfl) (.cons (by rfl) (.cons (by rfl) (.cons (by rfl) (.cons (by (simp; done)) (.cons (by (simp; done)) (.cons (by rfl) (.cons (by rfl) (.cons (by rfl) (.cons (by rfl) (.cons (by rfl) (.cons (by rfl) (.cons (by rfl) (.cons (by exact w64 (by omega) (by omega)) (.cons (by rfl) (.cons (by (simp; done)) (.cons (by rfl) (.cons (by (simp; done)) (.cons (by rfl) (.cons (by rfl) (.cons (by rfl) (.cons (by rfl) (.cons (by rfl) .nil))))))))))))))))))))))))))))))))))))))))) (Nat.le_of_ble_eq_true (by kernel_rfl))

set_option maxHeartbeats 2000000 in
theorem st_210 (N : RdN) (ih : StOk true false N) (len len2 : Nat) (A B : Nat → Ac32) (q : Int) (i : Nat) (hi : i < len2) (hl : len2 ≤ 100) (hk : 0 ≤ N.k) (hk2 : N.k ≤ 4294967295) (ha : 0 ≤ N.a) (ha2 : N.a ≤ 4294967295) (hh : hasB N.a N.n N.k = false) (hA : B i = ⟨true, N.a, N.n, N.x, q⟩) : CodeOk Try.prog 2 (loopOf Try.f3 1) (mkSt 103 [(2, .nv (.one (.val (.int .u32 N.k)))), (7, .nv (.one (.ptr 2 0))), (10, .nv (.one (.ptr 4 0))), (11, iA en0.x), (12, bA false), (50, .nv (.one (.own 1))), (51, iA len2), (52, iA i)] [.ro 5 len (gAc A), .ro 5 len2 (gAc B), .box 57 [.root 3 0 true, .val (.int .i64 (N.l.length : Nat))], .abs (TA none N.T), .box 28 [.val (.int .u32 en0.a), .val (.int .i64 en0.n)]]) .normal (mkSt 103 [(2, .nv (.one (.val (.int .u32 N.k)))), (7, .nv (.one (.ptr 2 0))), (10, .nv (.one (.ptr 4 0))), (11, iA en0.x), (12, bA false), (50, .nv (.one (.own 1))), (51, iA len2), (52, iA (i + 1 : Nat))] [.ro 5 len (gAc A), .ro 5 len2 (gAc B), .box 57 [.root 3 0 true, .val (.int .i64 (N.l'.length : Nat))], .abs (TA none N.T'), .box 28 [.val (.int .u32 en0.a), .val (.int .i64 en0.n)]]) :=
  code_run (Gst10_ok N ih) (orc := ⟨[true, false, true, false, false, false], []⟩) (obl := [decide ((↑i : Int) < (↑len2 : Int)) = true,
      (0 : Int) ≤ (↑i : Int),
      (↑i : Int) < (↑len2 : Int),
      Int.toNat (↑i : Int) < len2,
      (0 : Int) ≤ Ac32.a (B (Int.toNat (↑i : Int))),
      Ac32.a (B (Int.toNat (↑i : Int))) ≤ (4294967295 : Int),
      (0 : Int) ≤ RdN.k N,
      RdN.k N ≤ (4294967295 : Int),
      hasB (Ac32.a (B (Int.toNat (↑i : Int)))) (Ac32.n (B (Int.toNat (↑i : Int)))) (RdN.k N) = false,
      Ac32.d (B (Int.toNat (↑i : Int))) = true,
      (0 : Nat) = (0 : Nat),
      Ac32.a (B (Int.toNat (↑i : Int))) = RdN.a N,
      Ac32.n (B (Int.toNat (↑i : Int))) = RdN.n N,
      (0 : Nat) = (0 : Nat),
      (↑(List.length (RdN.l N)) : Int) = (↑(List.length (RdN.l N)) : Int),
      TA none (RdN.T N) = TA none (RdN.T N),
      (0 : Nat) = (0 : Nat),
      RdN.k N = RdN.k N,
      (0 : Nat) = (0 : Nat),
      (↑(List.length (RdN.l' N)) : Int) = (↑(List.length (RdN.l' N)) : Int),
      TA none (RdN.T' N) = TA none (RdN.T' N),
      (!(En.a en0 == En.a en0 && (En.n en0 == En.n en0 && true))) = false,
      (En.x en0 != En.x en0) = false,
      (!false == false) = false,
      RdN.k N = RdN.k N,
      (0 : Nat) = (0 : Nat),
      (0 : Nat) = (0 : Nat),
      En.x en0 = En.x en0,
      false = false,
      (↑len2 : Int) = (↑len2 : Int),
      IntKind.wrap IntKind.i64 ((↑i : Int) + (1 : Int)) = (↑(i + (1 : Nat)) : Int),
      len = len,
      ∀ (i : Nat), i < len → Ac32.d (A i) = Ac32.d (A i) ∧ Ac32.a (A i) = Ac32.a (A i) ∧ Ac32.n (A i) = Ac32.n (A i) ∧ Ac32.x (A i) = Ac32.x (A i) ∧ Ac32.k (A i) = Ac32.k (A i) ∧ True,
      len2 = len2,
      ∀ (i : Nat), i < len2 → Ac32.d (B i) = Ac32.d (B i) ∧ Ac32.a (B i) = Ac32.a (B i) ∧ Ac32.n (B i) = Ac32.n (B i) ∧ Ac32.x (B i) = Ac32.x (B i) ∧ Ac32.k (B i) = Ac32.k (B i) ∧ True,
      (0 : Nat) = (0 : Nat),
      (↑(List.length (RdN.l' N)) : Int) = (↑(List.length (RdN.l' N)) : Int),
      TA none (RdN.T' N) = TA none (RdN.T' N),
      En.a en0 = En.a en0,
      En.n en0 = En.n en0]) (by kernel_rfl) (.cons (by exact decide_eq_true (by omega)) (.cons (by (simp; done)) (.cons (by omega) (.cons (by assumption) (.cons (by (simp only [Int.toNat_natCast, hA]; omega)) (.cons (by (simp only [Int.toNat_natCast, hA]; omega)) (.cons (by assumption) (.cons (by assumption) (.cons (by (simp only [Int.toNat_natCast, hA]; exact hh)) (.cons (by (rw [Int.toNat_natCast, hA])) (.cons (by rfl) (.cons (by (rw [Int.toNat_natCast, hA])) (.cons (by (rw [Int.toNat_natCast, hA])) (.cons (by rfl) (.cons (by rfl) (.cons (by rfl) (.cons (by rfl) (.cons (by rfl) (.cons (by rfl) (.cons (by rfl) (.cons (by rfl) (.cons (by rfl) (.cons (by rfl) (.cons (by rfl) (.cons (by rfl) (.cons (by rfl) (.cons (by rfl) (.cons (by rfl) (.cons (by rfl) (.cons (by rfl) (.cons (by exact w64 (by omega) (by omega)) (.cons (by rfl) (.cons (by (simp; done)) (.cons (by rfl) (.cons (by (simp; done)) (.cons (by rfl) (.cons (by rfl) (.cons (by rfl) (.cons (by rfl) (.cons (by rfl) .nil)))))))))))))))))))))))))))))))))))))))) (Nat.le_of_ble_eq_true (by kernel_rfl))

set_option maxHeartbeats 2000000 in
theorem st_211 (N : RdN) (ih : StOk true true N) (len len2 : Nat) (A B : Nat → Ac32) (q : Int) (i : Nat) (hi : i < len2) (hl : len2 ≤ 100) (hk : 0 ≤ N.k) (hk2 : N.k ≤ 4294967295) (ha : 0 ≤ N.a) (ha2 : N.a ≤ 4294967295) (hh : hasB N.a N.n N.k = false) (hA : B i = ⟨true, N.a, N.n, N.x, q⟩) : CodeOk Try.prog 2 (loopOf Try.f3 1) (mkSt 103 [(2, .nv (.one (.val (.int .u32 N.k)))), (7, .nv (.one (.ptr 2 0))), (10, .nv (.one (.ptr 4 0))), (11, iA N.f.x), (12, bA true), (50, .nv (.one (.own 1))), (51, iA len2), (52, iA i)] [.ro 5 len (gAc A), .ro 5 len2 (gAc B), .box 57 [.root 3 0 true, .val (.int .i64 (N.l.length : Nat))], .abs (TA none N.T), .box 28 [.val (.int .u32 N.f.a), .val (.int .i64 N.f.n)]]) .normal (mkSt 103 [(2, .nv (.one (.val (.int .u32 N.k)))), (7, .nv (.one (.ptr 2 0))), (10, .nv (.one (.ptr 4 0))), (11, iA N.f.x), (12, bA true), (50, .nv (.one (.own 1))), (51, iA len2), (52, iA (i + 1 : Nat))] [.ro 5 len (gAc A), .ro 5 len2 (gAc B), .box 57 [.root 3 0 true, .val (.int .i64 (N.l'.length : Nat))], .abs (TA none N.T'), .box 28 [.val (.int .u32 N.f.a), .val (.int .i64 N.f.n)]]) :=
  code_run (Gst11_ok N ih) (orc := ⟨[true, false, true, false, false, false], []⟩) (obl := [decide ((↑i : Int) < (↑len2 : Int)) = true,
      (0 : Int) ≤ (↑i : Int),
      (↑i : Int) < (↑len2 : Int),
      Int.toNat (↑i : Int) < len2,
      (0 : Int) ≤ Ac32.a (B (Int.toNat (↑i : Int))),
      Ac32.a (B (Int.toNat (↑i : Int))) ≤ (4294967295 : Int),
      (0 : Int) ≤ RdN.k N,
      RdN.k N ≤ (4294967295 : Int),
      hasB (Ac32.a (B (Int.toNat (↑i : Int)))) (Ac32.n (B (Int.toNat (↑i : Int)))) (RdN.k N) = false,
      Ac32.d (B (Int.toNat (↑i : Int))) = true,
      (0 : Nat) = (0 : Nat),
      Ac32.a (B (Int.toNat (↑i : Int))) = RdN.a N,
      Ac32.n (B (Int.toNat (↑i : Int))) = RdN.n N,
      (0 : Nat) = (0 : Nat),
      (↑(List.length (RdN.l N)) : Int) = (↑(List.length (RdN.l N)) : Int),
      TA none (RdN.T N) = TA none (RdN.T N),
      (0 : Nat) = (0 : Nat),
      RdN.k N = RdN.k N,
      (0 : Nat) = (0 : Nat),
      (↑(List.length (RdN.l' N)) : Int) = (↑(List.length (RdN.l' N)) : Int),
      TA none (RdN.T' N) = TA none (RdN.T' N),
      (!(En.a (RdN.f N) == En.a (RdN.f N) && (En.n (RdN.f N) == En.n (RdN.f N) && true))) = false,
      (En.x (RdN.f N) != En.x (RdN.f N)) = false,
      (!true == true) = false,
      RdN.k N = RdN.k N,
      (0 : Nat) = (0 : Nat),
      (0 : Nat) = (0 : Nat),
      En.x (RdN.f N) = En.x (RdN.f N),
      true = true,
      (↑len2 : Int) = (↑len2 : Int),
      IntKind.wrap IntKind.i64 ((↑i : Int) + (1 : Int)) = (↑(i + (1 : Nat)) : Int),
      len = len,
      ∀ (i : Nat), i < len → Ac32.d (A i) = Ac32.d (A i) ∧ Ac32.a (A i) = Ac32.a (A i) ∧ Ac32.n (A i) = Ac32.n (A i) ∧ Ac32.x (A i) = Ac32.x (A i) ∧ Ac32.k (A i) = Ac32.k (A i) ∧ True,
      len2 = len2,
      ∀ (i : Nat), i < len2 → Ac32.d (B i) = Ac32.d (B i) ∧ Ac32.a (B i) = Ac32.a (B i) ∧ Ac32.n (B i) = Ac32.n (B i) ∧ Ac32.x (B i) = Ac32.x (B i) ∧ Ac32.k (B i) = Ac32.k (B i) ∧ True,
      (0 : Nat) = (0 : Nat),
      (↑(List.length (RdN.l' N)) : Int) = (↑(List.length (RdN.l' N)) : Int),
      TA none (RdN.T' N) = TA none (RdN.T' N),
      En.a (RdN.f N) = En.a (RdN.f N),
      En.n (RdN.f N) = En.n (RdN.f N)]) (by kernel_rfl) (.cons (by exact decide_eq_true (by omega)) (.cons (by (simp; done)) (.cons (by omega) (.cons (by assumption) (.cons (by (simp only [Int.toNat_natCast, hA]; omega)) (.cons (by (simp only [Int.toNat_natCast, hA]; omega)) (.cons (by assumption) (.cons (by assumption) (.cons (by (simp only [Int.toNat_natCast, hA]; exact hh)) (.cons (by (rw [Int.toNat_natCast, hA])) (.cons (by rfl) (.cons (by (rw [Int.toNat_natCast, hA])) (.cons (by (rw [Int.toNat_natCast, hA])) (.cons (by rfl) (.cons (by rfl) (.cons (by rfl) (.cons (by rfl) (.cons (by rfl) (.cons (by rfl) (.cons (by rfl) (.cons (by rfl) (.cons (by (simp; done)) (.cons (by (simp; done)) (.cons (by rfl) (.cons (by rfl) (.cons (by rfl) (.cons (by rfl) (.cons (by rfl) (.cons (by rfl) (.cons (by rfl) (.cons (by exact w64 (by omega) (by omega)) (.cons (by rfl) (.cons (by (simp; done)) (.cons (by rfl) (.cons (by (simp; done)) (.cons (by rfl) (.cons (by rfl) (.cons (by rfl) (.cons (by rfl) (.cons (by rfl) .nil)))))))))))))))))))))))))))))))))))))))) (Nat.le_of_ble_eq_true (by kernel_rfl))

set_option maxHeartbeats 2000000 in
theorem st_2x (len len2 : Nat) (A B : Nat → Ac32) (k : Int) (T : PT) (l : List En) (f : En) (fh : Bool) (hl : len2 ≤ 100) : CodeOk Try.prog 2 (loopOf Try.f3 1) (mkSt 103 [(2, .nv (.one (.val (.int .u32 k)))), (7, .nv (.one (.ptr 2 0))), (10, .nv (.one (.ptr 4 0))), (11, iA f.x), (12, bA fh), (50, .nv (.one (.own 1))), (51, iA len2), (52, iA len2)] [.ro 5 len (gAc A), .ro 5 len2 (gAc B), .box 57 [.root 3 0 true, .val (.int .i64 (l.length : Nat))], .abs (TA none T), .box 28 [.val (.int .u32 f.a), .val (.int .i64 f.n)]]) (.exit 2) (mkSt 103 [(2, .nv (.one (.val (.int .u32 k)))), (10, .nv (.one (.ptr 2 0))), (12, bA fh)] [.ro 5 len (gAc A), .ro 5 len2 (gAc B), .box 28 [.val (.int .u32 f.a), .val (.int .i64 f.n)]]) :=
  code_run Ghs_ok (orc := ⟨[false], []⟩) (obl := [decide ((↑len2 : Int) < (↑len2 : Int)) = false,
      k = k,
      (0 : Nat) = (0 : Nat),
      fh = fh,
      len = len,
      ∀ (i : Nat), i < len → Ac32.d (A i) = Ac32.d (A i) ∧ Ac32.a (A i) = Ac32.a (A i) ∧ Ac32.n (A i) = Ac32.n (A i) ∧ Ac32.x (A i) = Ac32.x (A i) ∧ Ac32.k (A i) = Ac32.k (A i) ∧ True,
      len2 = len2,
      ∀ (i : Nat), i < len2 → Ac32.d (B i) = Ac32.d (B i) ∧ Ac32.a (B i) = Ac32.a (B i) ∧ Ac32.n (B i) = Ac32.n (B i) ∧ Ac32.x (B i) = Ac32.x (B i) ∧ Ac32.k (B i) = Ac32.k (B i) ∧ True,
      En.a f = En.a f,
      En.n f = En.n f]) (by kernel_rfl) (.cons (by exact decide_eq_false (by omega)) (.cons (by rfl) (.cons (by rfl) (.cons (by rfl) (.cons (by rfl) (.cons (by (simp; done)) (.cons (by rfl) (.cons (by (simp; done)) (.cons (by rfl) (.cons (by rfl) .nil)))))))))) (Nat.le_of_ble_eq_true (by kernel_rfl))

set_option maxHeartbeats 2000000 in
theorem st_f0 (N : RdN) (ih : FnCs 9 (csFind false N)) (len len2 : Nat) (A B : Nat → Ac32) (h : len ≤ 100) (h2 : len2 ≤ 100) (hk : 0 ≤ N.k) (hk2 : N.k ≤ 4294967295) (l0 : CodeOk Try.prog 2 (.loop (loopOf Try.f3 0)) (mkSt 103 [(1, .nv (.one (.own 1))), (2, .nv (.one (.val (.int .u32 N.k)))), (7, .nv (.one (.ptr 2 0))), (30, .nv (.one (.own 0))), (31, iA len), (32, iA (0 : Nat))] [.ro 5 len (gAc A), .ro 5 len2 (gAc B), .box 57 [.root 3 0 true, .val (.int .i64 (([] : List En).length : Nat))], .abs (TA none emT)]) (.exit 0) (mkSt 103 [(1, .nv (.one (.own 1))), (2, .nv (.one (.val (.int .u32 N.k)))), (7, .nv (.one (.ptr 2 0)))] [.ro 5 len (gAc A), .ro 5 len2 (gAc B), .box 57 [.root 3 0 true, .val (.int .i64 (N.l'.length : Nat))], .abs (TA none N.T')])) (l1 : CodeOk Try.prog 2 (.loop (loopOf Try.f3 1)) (mkSt 103 [(2, .nv (.one (.val (.int .u32 N.k)))), (7, .nv (.one (.ptr 2 0))), (10, .nv (.one (.ptr 4 0))), (11, iA en0.x), (12, bA false), (50, .nv (.one (.own 1))), (51, iA len2), (52, iA (0 : Nat))] [.ro 5 len (gAc A), .ro 5 len2 (gAc B), .box 57 [.root 3 0 true, .val (.int .i64 (N.l'.length : Nat))], .abs (TA none N.T'), .box 28 [.val (.int .u32 en0.a), .val (.int .i64 en0.n)]]) (.exit 2) (mkSt 103 [(2, .nv (.one (.val (.int .u32 N.k)))), (10, .nv (.one (.ptr 2 0))), (12, bA false)] [.ro 5 len (gAc A), .ro 5 len2 (gAc B), .box 28 [.val (.int .u32 en0.a), .val (.int .i64 en0.n)]])) : LawOk Try.prog 3 ([.nv (.one (.own 0)), .nv (.one (.own 1)), .nv (.one (.val (.int .u32 N.k)))]) ([.ro 5 len (gAc A), .ro 5 len2 (gAc B)]) (bA true) :=
  law_run (Gsl0_ok N ih) Try.func3 (orc := ⟨[false, false, false, true, true], [⟨mkSt 103 [(1, .nv (.one (.own 1))), (2, .nv (.one (.val (.int .u32 N.k)))), (7, .nv (.one (.ptr 2 0))), (30, .nv (.one (.own 0))), (31, iA len), (32, iA (0 : Nat))] [.ro 5 len (gAc A), .ro 5 len2 (gAc B), .box 57 [.root 3 0 true, .val (.int .i64 (([] : List En).length : Nat))], .abs (TA none emT)], .exit 0, mkSt 103 [(1, .nv (.one (.own 1))), (2, .nv (.one (.val (.int .u32 N.k)))), (7, .nv (.one (.ptr 2 0)))] [.ro 5 len (gAc A), .ro 5 len2 (gAc B), .box 57 [.root 3 0 true, .val (.int .i64 (N.l'.length : Nat))], .abs (TA none N.T')]⟩, ⟨mkSt 103 [(2, .nv (.one (.val (.int .u32 N.k)))), (7, .nv (.one (.ptr 2 0))), (10, .nv (.one (.ptr 4 0))), (11, iA en0.x), (12, bA false), (50, .nv (.one (.own 1))), (51, iA len2), (52, iA (0 : Nat))] [.ro 5 len (gAc A), .ro 5 len2 (gAc B), .box 57 [.root 3 0 true, .val (.int .i64 (N.l'.length : Nat))], .abs (TA none N.T'), .box 28 [.val (.int .u32 en0.a), .val (.int .i64 en0.n)]], .exit 2, mkSt 103 [(2, .nv (.one (.val (.int .u32 N.k)))), (10, .nv (.one (.ptr 2 0))), (12, bA false)] [.ro 5 len (gAc A), .ro 5 len2 (gAc B), .box 28 [.val (.int .u32 en0.a), .val (.int .i64 en0.n)]]⟩]⟩) (obl := [decide ((↑len : Int) > (100 : Int)) = false,
      decide ((↑len2 : Int) > (100 : Int)) = false,
      false = false,
      RdN.k N = RdN.k N,
      (0 : Nat) = (0 : Nat),
      (↑len : Int) = (↑len : Int),
      (0 : Int) = (↑(0 : Nat) : Int),
      len = len,
      ∀ (i : Nat), i < len → Ac32.d (A i) = Ac32.d (A i) ∧ Ac32.a (A i) = Ac32.a (A i) ∧ Ac32.n (A i) = Ac32.n (A i) ∧ Ac32.x (A i) = Ac32.x (A i) ∧ Ac32.k (A i) = Ac32.k (A i) ∧ True,
      len2 = len2,
      ∀ (i : Nat), i < len2 → Ac32.d (B i) = Ac32.d (B i) ∧ Ac32.a (B i) = Ac32.a (B i) ∧ Ac32.n (B i) = Ac32.n (B i) ∧ Ac32.x (B i) = Ac32.x (B i) ∧ Ac32.k (B i) = Ac32.k (B i) ∧ True,
      (0 : Nat) = (0 : Nat),
      (0 : Int) = (↑(0 : Nat) : Int),
      TA none emT = TA none emT,
      (2 : Nat) ≤ (4 : Nat),
      CodeOk Try.prog (2 : Nat) (Code.loop (loopOf Try.f3 (0 : Nat))) (mkSt (103 : Nat) [((1 : Nat), SV.nv (NV.one (At.own (1 : Nat)))), ((2 : Nat), SV.nv (NV.one (At.val (Value.int IntKind.u32 (RdN.k N))))), ((7 : Nat), SV.nv (NV.one (At.ptr (2 : Nat) (0 : Nat)))), ((30 : Nat), SV.nv (NV.one (At.own (0 : Nat)))), ((31 : Nat), iA (↑len : Int)), ((32 : Nat), iA (↑(0 : Nat) : Int))] [Seg.ro (5 : Nat) len (gAc A), Seg.ro (5 : Nat) len2 (gAc B), Seg.box (57 : TypeId) [At.root (3 : Nat) (0 : Nat) true, At.val (Value.int IntKind.i64 (↑(List.length []) : Int))], Seg.abs (TA none emT)]) (Ex.exit (0 : Nat)) (mkSt (103 : Nat) [((1 : Nat), SV.nv (NV.one (At.own (1 : Nat)))), ((2 : Nat), SV.nv (NV.one (At.val (Value.int IntKind.u32 (RdN.k N))))), ((7 : Nat), SV.nv (NV.one (At.ptr (2 : Nat) (0 : Nat))))] [Seg.ro (5 : Nat) len (gAc A), Seg.ro (5 : Nat) len2 (gAc B), Seg.box (57 : TypeId) [At.root (3 : Nat) (0 : Nat) true, At.val (Value.int IntKind.i64 (↑(List.length (RdN.l' N)) : Int))], Seg.abs (TA none (RdN.T' N))]),
      (0 : Nat) = (0 : Nat),
      RdN.k N = RdN.k N,
      (0 : Nat) = (0 : Nat),
      (↑(List.length (RdN.l' N)) : Int) = (↑(List.length (RdN.l' N)) : Int),
      TA none (RdN.T' N) = TA none (RdN.T' N),
      RdN.k N = RdN.k N,
      (0 : Nat) = (0 : Nat),
      (0 : Nat) = (0 : Nat),
      En.x en0 = En.x en0,
      false = false,
      (↑len2 : Int) = (↑len2 : Int),
      (0 : Int) = (↑(0 : Nat) : Int),
      len = len,
      ∀ (i : Nat), i < len → Ac32.d (A i) = Ac32.d (A i) ∧ Ac32.a (A i) = Ac32.a (A i) ∧ Ac32.n (A i) = Ac32.n (A i) ∧ Ac32.x (A i) = Ac32.x (A i) ∧ Ac32.k (A i) = Ac32.k (A i) ∧ True,
      len2 = len2,
      ∀ (i : Nat), i < len2 → Ac32.d (B i) = Ac32.d (B i) ∧ Ac32.a (B i) = Ac32.a (B i) ∧ Ac32.n (B i) = Ac32.n (B i) ∧ Ac32.x (B i) = Ac32.x (B i) ∧ Ac32.k (B i) = Ac32.k (B i) ∧ True,
      (0 : Nat) = (0 : Nat),
      (↑(List.length (RdN.l' N)) : Int) = (↑(List.length (RdN.l' N)) : Int),
      TA none (RdN.T' N) = TA none (RdN.T' N),
      En.a en0 = En.a en0,
      En.n en0 = En.n en0,
      (2 : Nat) ≤ (5 : Nat),
      CodeOk Try.prog (2 : Nat) (Code.loop (loopOf Try.f3 (1 : Nat))) (mkSt (103 : Nat) [((2 : Nat), SV.nv (NV.one (At.val (Value.int IntKind.u32 (RdN.k N))))), ((7 : Nat), SV.nv (NV.one (At.ptr (2 : Nat) (0 : Nat)))), ((10 : Nat), SV.nv (NV.one (At.ptr (4 : Nat) (0 : Nat)))), ((11 : Nat), iA (En.x en0)), ((12 : Nat), bA false), ((50 : Nat), SV.nv (NV.one (At.own (1 : Nat)))), ((51 : Nat), iA (↑len2 : Int)), ((52 : Nat), iA (↑(0 : Nat) : Int))] [Seg.ro (5 : Nat) len (gAc A), Seg.ro (5 : Nat) len2 (gAc B), Seg.box (57 : TypeId) [At.root (3 : Nat) (0 : Nat) true, At.val (Value.int IntKind.i64 (↑(List.length (RdN.l' N)) : Int))], Seg.abs (TA none (RdN.T' N)), Seg.box (28 : TypeId) [At.val (Value.int IntKind.u32 (En.a en0)), At.val (Value.int IntKind.i64 (En.n en0))]]) (Ex.exit (2 : Nat)) (mkSt (103 : Nat) [((2 : Nat), SV.nv (NV.one (At.val (Value.int IntKind.u32 (RdN.k N))))), ((10 : Nat), SV.nv (NV.one (At.ptr (2 : Nat) (0 : Nat)))), ((12 : Nat), bA false)] [Seg.ro (5 : Nat) len (gAc A), Seg.ro (5 : Nat) len2 (gAc B), Seg.box (28 : TypeId) [At.val (Value.int IntKind.u32 (En.a en0)), At.val (Value.int IntKind.i64 (En.n en0))]]),
      (!false) = true,
      true = true,
      true = true]) (by kernel_rfl) (.cons (by exact decide_eq_false (by omega)) (.cons (by exact decide_eq_false (by omega)) (.cons (by rfl) (.cons (by rfl) (.cons (by rfl) (.cons (by rfl) (.cons (by rfl) (.cons (by rfl) (.cons (by (simp; done)) (.cons (by rfl) (.cons (by (simp; done)) (.cons (by rfl) (.cons (by rfl) (.cons (by rfl) (.cons (by trivial) (.cons (by assumption) (.cons (by rfl) (.cons (by rfl) (.cons (by rfl) (.cons (by rfl) (.cons (by rfl) (.cons (by rfl) (.cons (by rfl) (.cons (by rfl) (.cons (by rfl) (.cons (by rfl) (.cons (by rfl) (.cons (by rfl) (.cons (by rfl) (.cons (by (simp; done)) (.cons (by rfl) (.cons (by (simp; done)) (.cons (by rfl) (.cons (by rfl) (.cons (by rfl) (.cons (by rfl) (.cons (by rfl) (.cons (by trivial) (.cons (by assumption) (.cons (by rfl) (.cons (by rfl) (.cons (by rfl) .nil))))))))))))))))))))))))))))))))))))))))))

set_option maxHeartbeats 2000000 in
theorem st_f1 (N : RdN) (ih : FnCs 9 (csFind true N)) (len len2 : Nat) (A B : Nat → Ac32) (h : len ≤ 100) (h2 : len2 ≤ 100) (hk : 0 ≤ N.k) (hk2 : N.k ≤ 4294967295) (hf : 0 ≤ N.f.a) (hf2 : N.f.a ≤ 4294967295) (hh : hasB N.f.a N.f.n N.k = true) (l0 : CodeOk Try.prog 2 (.loop (loopOf Try.f3 0)) (mkSt 103 [(1, .nv (.one (.own 1))), (2, .nv (.one (.val (.int .u32 N.k)))), (7, .nv (.one (.ptr 2 0))), (30, .nv (.one (.own 0))), (31, iA len), (32, iA (0 : Nat))] [.ro 5 len (gAc A), .ro 5 len2 (gAc B), .box 57 [.root 3 0 true, .val (.int .i64 (([] : List En).length : Nat))], .abs (TA none emT)]) (.exit 0) (mkSt 103 [(1, .nv (.one (.own 1))), (2, .nv (.one (.val (.int .u32 N.k)))), (7, .nv (.one (.ptr 2 0)))] [.ro 5 len (gAc A), .ro 5 len2 (gAc B), .box 57 [.root 3 0 true, .val (.int .i64 (N.l'.length : Nat))], .abs (TA none N.T')])) (l1 : CodeOk Try.prog 2 (.loop (loopOf Try.f3 1)) (mkSt 103 [(2, .nv (.one (.val (.int .u32 N.k)))), (7, .nv (.one (.ptr 2 0))), (10, .nv (.one (.ptr 4 0))), (11, iA N.f.x), (12, bA true), (50, .nv (.one (.own 1))), (51, iA len2), (52, iA (0 : Nat))] [.ro 5 len (gAc A), .ro 5 len2 (gAc B), .box 57 [.root 3 0 true, .val (.int .i64 (N.l'.length : Nat))], .abs (TA none N.T'), .box 28 [.val (.int .u32 N.f.a), .val (.int .i64 N.f.n)]]) (.exit 2) (mkSt 103 [(2, .nv (.one (.val (.int .u32 N.k)))), (10, .nv (.one (.ptr 2 0))), (12, bA true)] [.ro 5 len (gAc A), .ro 5 len2 (gAc B), .box 28 [.val (.int .u32 N.f.a), .val (.int .i64 N.f.n)]])) : LawOk Try.prog 3 ([.nv (.one (.own 0)), .nv (.one (.own 1)), .nv (.one (.val (.int .u32 N.k)))]) ([.ro 5 len (gAc A), .ro 5 len2 (gAc B)]) (bA true) :=
  law_run (Gsl1_ok N ih) Try.func3 (orc := ⟨[false, false, false, false, true], [⟨mkSt 103 [(1, .nv (.one (.own 1))), (2, .nv (.one (.val (.int .u32 N.k)))), (7, .nv (.one (.ptr 2 0))), (30, .nv (.one (.own 0))), (31, iA len), (32, iA (0 : Nat))] [.ro 5 len (gAc A), .ro 5 len2 (gAc B), .box 57 [.root 3 0 true, .val (.int .i64 (([] : List En).length : Nat))], .abs (TA none emT)], .exit 0, mkSt 103 [(1, .nv (.one (.own 1))), (2, .nv (.one (.val (.int .u32 N.k)))), (7, .nv (.one (.ptr 2 0)))] [.ro 5 len (gAc A), .ro 5 len2 (gAc B), .box 57 [.root 3 0 true, .val (.int .i64 (N.l'.length : Nat))], .abs (TA none N.T')]⟩, ⟨mkSt 103 [(2, .nv (.one (.val (.int .u32 N.k)))), (7, .nv (.one (.ptr 2 0))), (10, .nv (.one (.ptr 4 0))), (11, iA N.f.x), (12, bA true), (50, .nv (.one (.own 1))), (51, iA len2), (52, iA (0 : Nat))] [.ro 5 len (gAc A), .ro 5 len2 (gAc B), .box 57 [.root 3 0 true, .val (.int .i64 (N.l'.length : Nat))], .abs (TA none N.T'), .box 28 [.val (.int .u32 N.f.a), .val (.int .i64 N.f.n)]], .exit 2, mkSt 103 [(2, .nv (.one (.val (.int .u32 N.k)))), (10, .nv (.one (.ptr 2 0))), (12, bA true)] [.ro 5 len (gAc A), .ro 5 len2 (gAc B), .box 28 [.val (.int .u32 N.f.a), .val (.int .i64 N.f.n)]]⟩]⟩) (obl := [decide ((↑len : Int) > (100 : Int)) = false,
      decide ((↑len2 : Int) > (100 : Int)) = false,
      false = false,
      RdN.k N = RdN.k N,
      (0 : Nat) = (0 : Nat),
      (↑len : Int) = (↑len : Int),
      (0 : Int) = (↑(0 : Nat) : Int),
      len = len,
      ∀ (i : Nat), i < len → Ac32.d (A i) = Ac32.d (A i) ∧ Ac32.a (A i) = Ac32.a (A i) ∧ Ac32.n (A i) = Ac32.n (A i) ∧ Ac32.x (A i) = Ac32.x (A i) ∧ Ac32.k (A i) = Ac32.k (A i) ∧ True,
      len2 = len2,
      ∀ (i : Nat), i < len2 → Ac32.d (B i) = Ac32.d (B i) ∧ Ac32.a (B i) = Ac32.a (B i) ∧ Ac32.n (B i) = Ac32.n (B i) ∧ Ac32.x (B i) = Ac32.x (B i) ∧ Ac32.k (B i) = Ac32.k (B i) ∧ True,
      (0 : Nat) = (0 : Nat),
      (0 : Int) = (↑(0 : Nat) : Int),
      TA none emT = TA none emT,
      (2 : Nat) ≤ (4 : Nat),
      CodeOk Try.prog (2 : Nat) (Code.loop (loopOf Try.f3 (0 : Nat))) (mkSt (103 : Nat) [((1 : Nat), SV.nv (NV.one (At.own (1 : Nat)))), ((2 : Nat), SV.nv (NV.one (At.val (Value.int IntKind.u32 (RdN.k N))))), ((7 : Nat), SV.nv (NV.one (At.ptr (2 : Nat) (0 : Nat)))), ((30 : Nat), SV.nv (NV.one (At.own (0 : Nat)))), ((31 : Nat), iA (↑len : Int)), ((32 : Nat), iA (↑(0 : Nat) : Int))] [Seg.ro (5 : Nat) len (gAc A), Seg.ro (5 : Nat) len2 (gAc B), Seg.box (57 : TypeId) [At.root (3 : Nat) (0 : Nat) true, At.val (Value.int IntKind.i64 (↑(List.length []) : Int))], Seg.abs (TA none emT)]) (Ex.exit (0 : Nat)) (mkSt (103 : Nat) [((1 : Nat), SV.nv (NV.one (At.own (1 : Nat)))), ((2 : Nat), SV.nv (NV.one (At.val (Value.int IntKind.u32 (RdN.k N))))), ((7 : Nat), SV.nv (NV.one (At.ptr (2 : Nat) (0 : Nat))))] [Seg.ro (5 : Nat) len (gAc A), Seg.ro (5 : Nat) len2 (gAc B), Seg.box (57 : TypeId) [At.root (3 : Nat) (0 : Nat) true, At.val (Value.int IntKind.i64 (↑(List.length (RdN.l' N)) : Int))], Seg.abs (TA none (RdN.T' N))]),
      (0 : Nat) = (0 : Nat),
      RdN.k N = RdN.k N,
      (0 : Nat) = (0 : Nat),
      (↑(List.length (RdN.l' N)) : Int) = (↑(List.length (RdN.l' N)) : Int),
      TA none (RdN.T' N) = TA none (RdN.T' N),
      RdN.k N = RdN.k N,
      (0 : Nat) = (0 : Nat),
      (0 : Nat) = (0 : Nat),
      En.x (RdN.f N) = En.x (RdN.f N),
      true = true,
      (↑len2 : Int) = (↑len2 : Int),
      (0 : Int) = (↑(0 : Nat) : Int),
      len = len,
      ∀ (i : Nat), i < len → Ac32.d (A i) = Ac32.d (A i) ∧ Ac32.a (A i) = Ac32.a (A i) ∧ Ac32.n (A i) = Ac32.n (A i) ∧ Ac32.x (A i) = Ac32.x (A i) ∧ Ac32.k (A i) = Ac32.k (A i) ∧ True,
      len2 = len2,
      ∀ (i : Nat), i < len2 → Ac32.d (B i) = Ac32.d (B i) ∧ Ac32.a (B i) = Ac32.a (B i) ∧ Ac32.n (B i) = Ac32.n (B i) ∧ Ac32.x (B i) = Ac32.x (B i) ∧ Ac32.k (B i) = Ac32.k (B i) ∧ True,
      (0 : Nat) = (0 : Nat),
      (↑(List.length (RdN.l' N)) : Int) = (↑(List.length (RdN.l' N)) : Int),
      TA none (RdN.T' N) = TA none (RdN.T' N),
      En.a (RdN.f N) = En.a (RdN.f N),
      En.n (RdN.f N) = En.n (RdN.f N),
      (2 : Nat) ≤ (5 : Nat),
      CodeOk Try.prog (2 : Nat) (Code.loop (loopOf Try.f3 (1 : Nat))) (mkSt (103 : Nat) [((2 : Nat), SV.nv (NV.one (At.val (Value.int IntKind.u32 (RdN.k N))))), ((7 : Nat), SV.nv (NV.one (At.ptr (2 : Nat) (0 : Nat)))), ((10 : Nat), SV.nv (NV.one (At.ptr (4 : Nat) (0 : Nat)))), ((11 : Nat), iA (En.x (RdN.f N))), ((12 : Nat), bA true), ((50 : Nat), SV.nv (NV.one (At.own (1 : Nat)))), ((51 : Nat), iA (↑len2 : Int)), ((52 : Nat), iA (↑(0 : Nat) : Int))] [Seg.ro (5 : Nat) len (gAc A), Seg.ro (5 : Nat) len2 (gAc B), Seg.box (57 : TypeId) [At.root (3 : Nat) (0 : Nat) true, At.val (Value.int IntKind.i64 (↑(List.length (RdN.l' N)) : Int))], Seg.abs (TA none (RdN.T' N)), Seg.box (28 : TypeId) [At.val (Value.int IntKind.u32 (En.a (RdN.f N))), At.val (Value.int IntKind.i64 (En.n (RdN.f N)))]]) (Ex.exit (2 : Nat)) (mkSt (103 : Nat) [((2 : Nat), SV.nv (NV.one (At.val (Value.int IntKind.u32 (RdN.k N))))), ((10 : Nat), SV.nv (NV.one (At.ptr (2 : Nat) (0 : Nat)))), ((12 : Nat), bA true)] [Seg.ro (5 : Nat) len (gAc A), Seg.ro (5 : Nat) len2 (gAc B), Seg.box (28 : TypeId) [At.val (Value.int IntKind.u32 (En.a (RdN.f N))), At.val (Value.int IntKind.i64 (En.n (RdN.f N)))]]),
      (!true) = false,
      (0 : Int) ≤ En.a (RdN.f N),
      En.a (RdN.f N) ≤ (4294967295 : Int),
      (0 : Int) ≤ RdN.k N,
      RdN.k N ≤ (4294967295 : Int),
      hasB (En.a (RdN.f N)) (En.n (RdN.f N)) (RdN.k N) = true,
      true = true]) (by kernel_rfl) (.cons (by exact decide_eq_false (by omega)) (.cons (by exact decide_eq_false (by omega)) (.cons (by rfl) (.cons (by rfl) (.cons (by rfl) (.cons (by rfl) (.cons (by rfl) (.cons (by rfl) (.cons (by (simp; done)) (.cons (by rfl) (.cons (by (simp; done)) (.cons (by rfl) (.cons (by rfl) (.cons (by rfl) (.cons (by trivial) (.cons (by assumption) (.cons (by rfl) (.cons (by rfl) (.cons (by rfl) (.cons (by rfl) (.cons (by rfl) (.cons (by rfl) (.cons (by rfl) (.cons (by rfl) (.cons (by rfl) (.cons (by rfl) (.cons (by rfl) (.cons (by rfl) (.cons (by rfl) (.cons (by (simp; done)) (.cons (by rfl) (.cons (by (simp; done)) (.cons (by rfl) (.cons (by rfl) (.cons (by rfl) (.cons (by rfl) (.cons (by rfl) (.cons (by trivial) (.cons (by assumption) (.cons (by rfl) (.cons (by assumption) (.cons (by assumption) (.cons (by assumption) (.cons (by assumption) (.cons (by assumption) (.cons (by rfl) .nil))))))))))))))))))))))))))))))))))))))))))))))
end Go.Proofs.Ytfienpkogkepkaa

/- TrieNobody, TrieStays: the walks. No condition. -/
namespace Go.Proofs.Ytfienpkogkepkaa
set_option linter.unusedVariables false
set_option linter.unusedSimpArgs false
open Go.RowKit E
theorem nobody32_walk (a0 : Array Value) (k : Int) (w : World) (r0 : Reads w (.agg 2 (.cons 0 1 (.int .u32) (.cons 1 1 (.int .i64) .nil))) (Value.agg a0).cells.toList) (hk : (Lit.int .u32 k).wf = true) :
    Calls Try.prog 5 #[.agg a0, .int .u32 k] w fun e w' => e = .returned (.bool true) ∧ Ext w w' := by
  obtain ⟨hl, ⟨a, e0, _⟩, ⟨n, e1, _⟩, _⟩ := r0
  have e : a0 = #[.int .u32 a, .int .i64 n] := by
    apply Array.ext'
    have hl' : a0.toList.length = 2 := hl
    match hq : a0.toList, hl' with
    | [x0, x1], _ =>
      simp only [Value.cells] at e0 e1
      rw [hq] at e0 e1
      simp at e0 e1
      rw [e0, e1]
  subst e
  refine (nb_f a n k _ [.agg #[.int .u32 a, .int .i64 n], .int .u32 k] w ⟨⟨_, rfl, rfl, rfl, trivial⟩, rfl, trivial⟩ (MemOk.empty w)).mono ?_
  rintro e w' ⟨u, rfl, hu, hx⟩
  exact ⟨by rw [show u = .bool true from hu], hx⟩
def sM (len len2 : Nat) (A B : Nat → Ac32) (T : PT) (l : List En) : List Seg := [.ro 5 len (gAc A), .ro 5 len2 (gAc B), .box 57 [.root 3 0 true, .val (.int .i64 (l.length : Nat))], .abs (TA none T)]
def sS1 (len len2 : Nat) (A B : Nat → Ac32) (k : Int) (T : PT) (l : List En) (i : Nat) : E.St := mkSt 103 [(1, .nv (.one (.own 1))), (2, .nv (.one (.val (.int .u32 k)))), (7, .nv (.one (.ptr 2 0))), (30, .nv (.one (.own 0))), (31, iA len), (32, iA i)] (sM len len2 A B T l)
def sE1 (len len2 : Nat) (A B : Nat → Ac32) (k : Int) (T : PT) (l : List En) : E.St := mkSt 103 [(1, .nv (.one (.own 1))), (2, .nv (.one (.val (.int .u32 k)))), (7, .nv (.one (.ptr 2 0)))] (sM len len2 A B T l)
def sS2 (len len2 : Nat) (A B : Nat → Ac32) (k : Int) (T : PT) (l : List En) (i : Nat) (f : En) (b : Bool) : E.St := mkSt 103 [(2, .nv (.one (.val (.int .u32 k)))), (7, .nv (.one (.ptr 2 0))), (10, .nv (.one (.ptr 4 0))), (11, iA f.x), (12, bA b), (50, .nv (.one (.own 1))), (51, iA len2), (52, iA i)] (sM len len2 A B T l ++ [.box 28 [.val (.int .u32 f.a), .val (.int .i64 f.n)]])
def sE2 (len len2 : Nat) (A B : Nat → Ac32) (k : Int) (f : En) (b : Bool) : E.St := mkSt 103 [(2, .nv (.one (.val (.int .u32 k)))), (10, .nv (.one (.ptr 2 0))), (12, bA b)] [.ro 5 len (gAc A), .ro 5 len2 (gAc B), .box 28 [.val (.int .u32 f.a), .val (.int .i64 f.n)]]
theorem stays_loop1 {len len2 : Nat} {A B : Nat → Ac32} {k : Int} (hl : len ≤ 100) (hA : ∀ i, i < len → okAc (A i)) : ∀ (m i : Nat) (T : PT) (l : List En), i + m = len → TrOk T l l.length → ∃ T' l', TrOk T' l' l'.length ∧ LoopOk Try.prog 2 (loopOf Try.f3 0) (sS1 len len2 A B k T l i) (.exit 0) (sE1 len len2 A B k T' l')
  | 0, i, T, l, hm, h => by
    have : i = len := by omega
    subst this
    exact ⟨T, l, h, LoopOk.last (by simp) (st_1x i len2 A B k T l hl)⟩
  | m + 1, i, T, l, hm, h => by
    have hi : i < len := by omega
    have ha := hA i hi
    rcases hq : A i with ⟨d, a, n, x, q⟩
    rw [hq] at ha
    obtain ⟨T1, p1, o1⟩ := put_fn (pn := n) x h ha.1
    obtain ⟨T2, l2, h2, c2⟩ := stays_loop1 (k := k) (len2 := len2) (B := B) hl hA m (i + 1) T1 _ (by omega) o1
    exact ⟨T2, l2, h2, LoopOk.step (st_1 ⟨T, T1, l, (puE a n x l).l, a, n, x, 0, (puE a n x l).e, 0, false, en0, 0, 0, 0⟩ p1 len len2 A B k d q i hi hl hq) c2⟩
theorem dr_fE {a n k : Int} {l : List En} (hh : hasB a n k = false) : fE k (drE a n l).l none = fE k l none := by
  have h : (drE a n l).l = dropE a n l := by
    unfold drE
    rcases at_law a n l with ⟨q1, q2, q3⟩ | ⟨j, e, q1, q2, q3, q4, q5⟩
    · rw [if_pos (by omega), q3]
    · rw [if_neg (by omega), q5, q1, Int.toNat_natCast]
  rw [h, fE_drop hh]
theorem pu_fE {a n x k : Int} {l : List En} (hh : hasB a n k = false) : fE k (puE a n x l).l none = fE k l none := by
  unfold puE
  split
  · rfl
  · split
    · rfl
    · split
      · rfl
      · exact fE_ins hh
def stF (o : Option En) : En := o.getD en0
theorem stays_round {len len2 : Nat} {A B : Nat → Ac32} {k : Int} (hl : len2 ≤ 100) (hk : 0 ≤ k ∧ k ≤ 4294967295) {i : Nat} (hi : i < len2) (hB : okAc (B i)) {T : PT} {l : List En} (h : TrOk T l l.length) {o : Option En} (ho : fE k l none = o) :
    ∃ T' l', TrOk T' l' l'.length ∧ fE k l' none = o ∧ CodeOk Try.prog 2 (loopOf Try.f3 1) (sS2 len len2 A B k T l i (stF o) o.isSome) .normal (sS2 len len2 A B k T' l' (i + 1) (stF o) o.isSome) := by
  rcases hq : B i with ⟨d, a, n, x, q⟩
  have hB' := hB
  rw [hq] at hB'
  have ha := hB'.1
  simp only at ha
  cases hh : hasB a n k with
  | true => exact ⟨T, l, h, ho, st_2h len len2 A B k T l (stF o) o.isSome i hi hl hk.1 hk.2 hB.1.1 hB.1.2 (by rw [hq]; exact hh)⟩
  | false =>
    cases d with
    | true =>
      obtain ⟨T1, p1, o1⟩ := drop_fn (pn := n) h ha
      have hf := find_fn o1 hk
      have e1 : fE k (drE a n l).l none = o := by rw [dr_fE hh, ho]
      refine ⟨T1, _, o1, e1, ?_⟩
      rw [e1] at hf
      cases o with
      | none => exact st_210 ⟨T, T1, l, (drE a n l).l, a, n, x, k, 0, (drE a n l).x, (drE a n l).b, en0, 0, 0, 0⟩ ⟨p1, hf⟩ len len2 A B q i hi hl hk.1 hk.2 ha.1 ha.2 hh hq
      | some f => exact st_211 ⟨T, T1, l, (drE a n l).l, a, n, x, k, 0, (drE a n l).x, (drE a n l).b, f, 0, 0, 0⟩ ⟨p1, hf⟩ len len2 A B q i hi hl hk.1 hk.2 ha.1 ha.2 hh hq
    | false =>
      obtain ⟨T1, p1, o1⟩ := put_fn (pn := n) x h ha
      have hf := find_fn o1 hk
      have e1 : fE k (puE a n x l).l none = o := by rw [pu_fE hh, ho]
      refine ⟨T1, _, o1, e1, ?_⟩
      rw [e1] at hf
      cases o with
      | none => exact st_200 ⟨T, T1, l, (puE a n x l).l, a, n, x, k, (puE a n x l).e, 0, false, en0, 0, 0, 0⟩ ⟨p1, hf⟩ len len2 A B q i hi hl hk.1 hk.2 ha.1 ha.2 hh hq
      | some f => exact st_201 ⟨T, T1, l, (puE a n x l).l, a, n, x, k, (puE a n x l).e, 0, false, f, 0, 0, 0⟩ ⟨p1, hf⟩ len len2 A B q i hi hl hk.1 hk.2 ha.1 ha.2 hh hq
theorem stays_loop2 {len len2 : Nat} {A B : Nat → Ac32} {k : Int} (hl : len2 ≤ 100) (hk : 0 ≤ k ∧ k ≤ 4294967295) (hB : ∀ i, i < len2 → okAc (B i)) {o : Option En} : ∀ (m i : Nat) (T : PT) (l : List En), i + m = len2 → TrOk T l l.length → fE k l none = o → LoopOk Try.prog 2 (loopOf Try.f3 1) (sS2 len len2 A B k T l i (stF o) o.isSome) (.exit 2) (sE2 len len2 A B k (stF o) o.isSome)
  | 0, i, T, l, hm, h, ho => by
    have : i = len2 := by omega
    subst this
    exact LoopOk.last (by simp) (st_2x len i A B k T l (stF o) o.isSome hl)
  | m + 1, i, T, l, hm, h, ho => by
    obtain ⟨T1, l1, h1, e1, c1⟩ := stays_round (A := A) (len := len) hl hk (show i < len2 by omega) (hB i (by omega)) h ho
    exact LoopOk.step c1 (stays_loop2 hl hk hB m (i + 1) T1 l1 (by omega) h1 e1)
theorem stays32_law (len len2 : Nat) (A B : Nat → Ac32) (k : Int) (hk : 0 ≤ k ∧ k ≤ 4294967295) (hA : ∀ i, i < len → okAc (A i)) (hB : ∀ i, i < len2 → okAc (B i)) :
    LawOk Try.prog 3 [.nv (.one (.own 0)), .nv (.one (.own 1)), .nv (.one (.val (.int .u32 k)))] [.ro 5 len (gAc A), .ro 5 len2 (gAc B)] (bA true) := by
  by_cases hl : 100 < len
  · exact st_l len len2 A B k hl
  by_cases hl2 : 100 < len2
  · exact st_l2 len len2 A B k (by omega) hl2
  obtain ⟨T, l, h, c1⟩ := stays_loop1 (len2 := len2) (B := B) (k := k) (show len ≤ 100 by omega) hA len 0 emT [] (by omega) em_ok
  have hf := find_fn h hk
  have c2 := stays_loop2 (len := len) (A := A) (show len2 ≤ 100 by omega) hk hB len2 0 T l (by omega) h rfl
  cases ho : fE k l none with
  | none =>
    rw [ho] at hf c2
    exact st_f0 ⟨T, T, l, l, 0, 0, 0, k, 0, 0, false, en0, 0, 0, 0⟩ hf len len2 A B (by omega) (by omega) hk.1 hk.2 c1.code c2.code
  | some f =>
    rw [ho] at hf c2
    have hb : 0 ≤ f.a ∧ f.a ≤ 4294967295 := by
      rcases (find_ok h k).2 with ⟨q1, q2⟩ | ⟨j, e, q1, q2, q3⟩
      · rw [ho] at q2; cases q2
      · rw [ho] at q3; cases q3
        have := h.ad j (List.getElem?_eq_some_iff.1 q2).1
        rw [enF_get q2] at this
        exact this
    exact st_f1 ⟨T, T, l, l, 0, 0, 0, k, 0, 0, false, f, 0, 0, 0⟩ hf len len2 A B (by omega) (by omega) hk.1 hk.2 hb.1 hb.2 (fE_has (b := none) (fun f hf => by cases hf) f ho) c1.code c2.code
theorem stays32_walk (a0 : Option Addr) (len cap : Nat) (a1 : Option Addr) (len2 cap2 : Nat) (k : Int) (w : World) (r0 : Reads w (.slice 5 (.agg 5 psA32)) (Value.slice a0 len cap).cells.toList) (r1 : Reads w (.slice 5 (.agg 5 psA32)) (Value.slice a1 len2 cap2).cells.toList) (hk : (Lit.int .u32 k).wf = true) :
    Calls Try.prog 3 #[.slice a0 len cap, .slice a1 len2 cap2, .int .u32 k] w fun e w' => e = .returned (.bool true) ∧ Ext w w' := by
  obtain ⟨es, b1, s1⟩ := rows_seg (h := 0) (n := 5) (ps := psB32) (env2_0 (.slice a0 len cap) (.slice a1 len2 cap2)) rfl rfl (reads_slice flat32 r0)
  obtain ⟨fs, b2, s2⟩ := rows_seg (h := 1) (n := 5) (ps := psB32) (env2_1 (.slice a0 len cap) (.slice a1 len2 cap2)) rfl rfl (reads_slice flat32 r1)
  refine (stays32_law len len2 (acEs32 es) (acEs32 fs) k (wf_u32 hk) (fun i hi => ?_) (fun i hi => ?_) _ [.slice a0 len cap, .slice a1 len2 cap2, .int .u32 k] w ⟨⟨env2_0 _ _, _, _, _, rfl⟩, ⟨env2_1 _ _, _, _, _, rfl⟩, rfl, trivial⟩ (two_ro s1 s2)).mono ?_
  · obtain ⟨_, c1, _, _, c4, _⟩ := b1 i hi
    exact ⟨c1, c4⟩
  · obtain ⟨_, c1, _, _, c4, _⟩ := b2 i hi
    exact ⟨c1, c4⟩
  rintro e w' ⟨u, rfl, hu, hx⟩
  exact ⟨by rw [show u = .bool true from hu], hx⟩
end Go.Proofs.Ytfienpkogkepkaa

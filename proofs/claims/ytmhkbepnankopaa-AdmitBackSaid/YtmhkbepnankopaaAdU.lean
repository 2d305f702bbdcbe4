/- Runs of Go code, as printed by a program: no condition beyond those that each states. -/
import Derived.Test.YtmhkbepnankopaaAdQ
import Derived.Test.YtmhkbepnankopaaChecked
import Derived.KernelRfl
namespace Go.Proofs.Ytmhkbepnankopaa
set_option linter.unusedVariables false
set_option linter.unusedSimpArgs false
set_option maxRecDepth 100000
open Go.RowKit E
attribute [local irreducible] fd homeN reT capU gtP gtB gtO gtU setT shU Ga.fit
set_option maxHeartbeats 2000000 in
theorem may_nil (id k : Int) : FnOk Try.prog 11 ([.nv (.one (.val (.pointer none))), u32A id, uA k]) ([]) (iA 10) ([]) :=
  fn_run Gad5_ok Try.func11 (orc := ⟨[true], []⟩) (obl := [Value.pointer none = Value.pointer none,
      id = id,
      k = k,
      ((10 : Int) != (0 : Int)) = true,
      (10 : Int) = (10 : Int)]) (by kernel_rfl) (.cons (by rfl) (.cons (by rfl) (.cons (by rfl) (.cons (by rfl) (.cons (by rfl) .nil))))) (Nat.le_of_ble_eq_true (by kernel_rfl))

set_option maxHeartbeats 2000000 in
theorem may_e (x : Ga) (id k : Int) (h1 : x.ok) (h2 : x.ok2) (he : x.fit id k ≠ 0) : FnOk Try.prog 11 ([p0, u32A id, uA k]) (x.R) (iA (x.fit id k)) ([.gone, .gone, .gone]) :=
  fn_run Gad5_ok Try.func11 (orc := ⟨[true], []⟩) (obl := [Ga.ok { P := Ga.P x, B := Ga.B x, S := Ga.S x, U := Ga.U x, n := Ga.n x, b := Ga.b x, m := Ga.m x, M := Ga.M x, T := slOf (gS (Ga.T x)) },
      Ga.ok2 { P := Ga.P x, B := Ga.B x, S := Ga.S x, U := Ga.U x, n := Ga.n x, b := Ga.b x, m := Ga.m x, M := Ga.M x, T := slOf (gS (Ga.T x)) },
      (0 : Nat) = (0 : Nat),
      id = id,
      k = k,
      Ga.P x = Ga.P x,
      Ga.B x = Ga.B x,
      Ga.S x = Ga.S x,
      Ga.U x = Ga.U x,
      Ga.n x = Ga.n x,
      Ga.b x = Ga.b x,
      (0 : Nat) = (0 : Nat),
      Ga.m x = Ga.m x,
      (64 : Int) = (64 : Int),
      Ga.M x = Ga.M x,
      ∀ (i : Nat), i < Ga.M x → Sl.id (Ga.T x i) = Sl.id (slOf (gS (Ga.T x)) i) ∧ Sl.us (Ga.T x i) = Sl.us (slOf (gS (Ga.T x)) i) ∧ Sl.pk (Ga.T x i) = Sl.pk (slOf (gS (Ga.T x)) i) ∧ Sl.bt (Ga.T x i) = Sl.bt (slOf (gS (Ga.T x)) i) ∧ Sl.mo (Ga.T x i) = Sl.mo (slOf (gS (Ga.T x)) i) ∧ True,
      (Ga.fit { P := Ga.P x, B := Ga.B x, S := Ga.S x, U := Ga.U x, n := Ga.n x, b := Ga.b x, m := Ga.m x, M := Ga.M x, T := slOf (gS (Ga.T x)) } id k != (0 : Int)) = true,
      Ga.fit { P := Ga.P x, B := Ga.B x, S := Ga.S x, U := Ga.U x, n := Ga.n x, b := Ga.b x, m := Ga.m x, M := Ga.M x, T := slOf (gS (Ga.T x)) } id k = Ga.fit x id k]) (by kernel_rfl) (.cons (by assumption) (.cons (by assumption) (.cons (by rfl) (.cons (by rfl) (.cons (by rfl) (.cons (by rfl) (.cons (by rfl) (.cons (by rfl) (.cons (by rfl) (.cons (by rfl) (.cons (by rfl) (.cons (by rfl) (.cons (by rfl) (.cons (by rfl) (.cons (by rfl) (.cons (by (intro _ _; exact ⟨rfl, rfl, rfl, rfl, rfl, trivial⟩)) (.cons (by exact bne_iff_ne.2 he) (.cons (by rfl) .nil)))))))))))))))))) (Nat.le_of_ble_eq_true (by kernel_rfl))

set_option maxHeartbeats 2000000 in
theorem may_s (x : Ga) (id k : Int) (h1 : x.ok) (h2 : x.ok2) (k1 : P2 x.M) (k2 : free x.M x.T) (he : x.fit id k = 0) (w0 : 0 ≤ IntKind.wrap IntKind.u64 (x.B - x.b)) (w1 : IntKind.wrap IntKind.u64 (x.B - x.b) ≤ 18446744073709551615) (s0 : 0 ≤ x.S) (s1 : x.S.toNat ≤ 16) (hs : shU (IntKind.wrap IntKind.u64 (x.B - x.b)) x.S.toNat ≤ gtB x.M x.T id) : FnOk Try.prog 11 ([p0, u32A id, uA k]) (x.R) (iA 17) ([.gone, .gone, .gone]) :=
  fn_run Gad5_ok Try.func11 (orc := ⟨[false, true], []⟩) (obl := [Ga.ok { P := Ga.P x, B := Ga.B x, S := Ga.S x, U := Ga.U x, n := Ga.n x, b := Ga.b x, m := Ga.m x, M := Ga.M x, T := slOf (gS (Ga.T x)) },
      Ga.ok2 { P := Ga.P x, B := Ga.B x, S := Ga.S x, U := Ga.U x, n := Ga.n x, b := Ga.b x, m := Ga.m x, M := Ga.M x, T := slOf (gS (Ga.T x)) },
      (0 : Nat) = (0 : Nat),
      id = id,
      k = k,
      Ga.P x = Ga.P x,
      Ga.B x = Ga.B x,
      Ga.S x = Ga.S x,
      Ga.U x = Ga.U x,
      Ga.n x = Ga.n x,
      Ga.b x = Ga.b x,
      (0 : Nat) = (0 : Nat),
      Ga.m x = Ga.m x,
      (64 : Int) = (64 : Int),
      Ga.M x = Ga.M x,
      ∀ (i : Nat), i < Ga.M x → Sl.id (Ga.T x i) = Sl.id (slOf (gS (Ga.T x)) i) ∧ Sl.us (Ga.T x i) = Sl.us (slOf (gS (Ga.T x)) i) ∧ Sl.pk (Ga.T x i) = Sl.pk (slOf (gS (Ga.T x)) i) ∧ Sl.bt (Ga.T x i) = Sl.bt (slOf (gS (Ga.T x)) i) ∧ Sl.mo (Ga.T x i) = Sl.mo (slOf (gS (Ga.T x)) i) ∧ True,
      (Ga.fit { P := Ga.P x, B := Ga.B x, S := Ga.S x, U := Ga.U x, n := Ga.n x, b := Ga.b x, m := Ga.m x, M := Ga.M x, T := slOf (gS (Ga.T x)) } id k != (0 : Int)) = false,
      P2 (Ga.M x),
      free (Ga.M x) (slOf (gS (Ga.T x))),
      (0 : Nat) = (0 : Nat),
      id = id,
      Ga.m x = Ga.m x,
      (64 : Int) = (64 : Int),
      Ga.M x = Ga.M x,
      ∀ (i : Nat), i < Ga.M x → Sl.id (Ga.T x i) = Sl.id (slOf (gS (Ga.T x)) i) ∧ Sl.us (Ga.T x i) = Sl.us (slOf (gS (Ga.T x)) i) ∧ Sl.pk (Ga.T x i) = Sl.pk (slOf (gS (Ga.T x)) i) ∧ Sl.bt (Ga.T x i) = Sl.bt (slOf (gS (Ga.T x)) i) ∧ Sl.mo (Ga.T x i) = Sl.mo (slOf (gS (Ga.T x)) i) ∧ True,
      (0 : Int) ≤ IntKind.wrap IntKind.u64 (Ga.B x - Ga.b x),
      IntKind.wrap IntKind.u64 (Ga.B x - Ga.b x) ≤ (18446744073709551615 : Int),
      (0 : Int) ≤ Ga.S x,
      Int.toNat (Ga.S x) ≤ (16 : Nat),
      decide (gtB (Ga.M x) (slOf (gS (Ga.T x))) id ≥ shU (IntKind.wrap IntKind.u64 (Ga.B x - Ga.b x)) (Int.toNat (Ga.S x))) = true,
      (17 : Int) = (17 : Int)]) (by kernel_rfl) (.cons (by assumption) (.cons (by assumption) (.cons (by rfl) (.cons (by rfl) (.cons (by rfl) (.cons (by rfl) (.cons (by rfl) (.cons (by rfl) (.cons (by rfl) (.cons (by rfl) (.cons (by rfl) (.cons (by rfl) (.cons (by rfl) (.cons (by rfl) (.cons (by rfl) (.cons (by (intro _ _; exact ⟨rfl, rfl, rfl, rfl, rfl, trivial⟩)) (.cons (by exact bne_eq_false_iff_eq.2 he) (.cons (by assumption) (.cons (by assumption) (.cons (by rfl) (.cons (by rfl) (.cons (by rfl) (.cons (by rfl) (.cons (by rfl) (.cons (by (intro _ _; exact ⟨rfl, rfl, rfl, rfl, rfl, trivial⟩)) (.cons (by assumption) (.cons (by assumption) (.cons (by assumption) (.cons (by assumption) (.cons (by exact decide_eq_true hs) (.cons (by rfl) .nil))))))))))))))))))))))))))))))) (Nat.le_of_ble_eq_true (by kernel_rfl))

set_option maxHeartbeats 2000000 in
theorem may_o (x : Ga) (id k : Int) (h1 : x.ok) (h2 : x.ok2) (k1 : P2 x.M) (k2 : free x.M x.T) (he : x.fit id k = 0) (w0 : 0 ≤ IntKind.wrap IntKind.u64 (x.B - x.b)) (w1 : IntKind.wrap IntKind.u64 (x.B - x.b) ≤ 18446744073709551615) (s0 : 0 ≤ x.S) (s1 : x.S.toNat ≤ 16) (hs : ¬ shU (IntKind.wrap IntKind.u64 (x.B - x.b)) x.S.toNat ≤ gtB x.M x.T id) : FnOk Try.prog 11 ([p0, u32A id, uA k]) (x.R) (iA 0) ([.gone, .gone, .gone]) :=
  fn_run Gad5_ok Try.func11 (orc := ⟨[false, false], []⟩) (obl := [Ga.ok { P := Ga.P x, B := Ga.B x, S := Ga.S x, U := Ga.U x, n := Ga.n x, b := Ga.b x, m := Ga.m x, M := Ga.M x, T := slOf (gS (Ga.T x)) },
      Ga.ok2 { P := Ga.P x, B := Ga.B x, S := Ga.S x, U := Ga.U x, n := Ga.n x, b := Ga.b x, m := Ga.m x, M := Ga.M x, T := slOf (gS (Ga.T x)) },
      (0 : Nat) = (0 : Nat),
      id = id,
      k = k,
      Ga.P x = Ga.P x,
      Ga.B x = Ga.B x,
      Ga.S x = Ga.S x,
      Ga.U x = Ga.U x,
      Ga.n x = Ga.n x,
      Ga.b x = Ga.b x,
      (0 : Nat) = (0 : Nat),
      Ga.m x = Ga.m x,
      (64 : Int) = (64 : Int),
      Ga.M x = Ga.M x,
      ∀ (i : Nat), i < Ga.M x → Sl.id (Ga.T x i) = Sl.id (slOf (gS (Ga.T x)) i) ∧ Sl.us (Ga.T x i) = Sl.us (slOf (gS (Ga.T x)) i) ∧ Sl.pk (Ga.T x i) = Sl.pk (slOf (gS (Ga.T x)) i) ∧ Sl.bt (Ga.T x i) = Sl.bt (slOf (gS (Ga.T x)) i) ∧ Sl.mo (Ga.T x i) = Sl.mo (slOf (gS (Ga.T x)) i) ∧ True,
      (Ga.fit { P := Ga.P x, B := Ga.B x, S := Ga.S x, U := Ga.U x, n := Ga.n x, b := Ga.b x, m := Ga.m x, M := Ga.M x, T := slOf (gS (Ga.T x)) } id k != (0 : Int)) = false,
      P2 (Ga.M x),
      free (Ga.M x) (slOf (gS (Ga.T x))),
      (0 : Nat) = (0 : Nat),
      id = id,
      Ga.m x = Ga.m x,
      (64 : Int) = (64 : Int),
      Ga.M x = Ga.M x,
      ∀ (i : Nat), i < Ga.M x → Sl.id (Ga.T x i) = Sl.id (slOf (gS (Ga.T x)) i) ∧ Sl.us (Ga.T x i) = Sl.us (slOf (gS (Ga.T x)) i) ∧ Sl.pk (Ga.T x i) = Sl.pk (slOf (gS (Ga.T x)) i) ∧ Sl.bt (Ga.T x i) = Sl.bt (slOf (gS (Ga.T x)) i) ∧ Sl.mo (Ga.T x i) = Sl.mo (slOf (gS (Ga.T x)) i) ∧ True,
      (0 : Int) ≤ IntKind.wrap IntKind.u64 (Ga.B x - Ga.b x),
      IntKind.wrap IntKind.u64 (Ga.B x - Ga.b x) ≤ (18446744073709551615 : Int),
      (0 : Int) ≤ Ga.S x,
      Int.toNat (Ga.S x) ≤ (16 : Nat),
      decide (gtB (Ga.M x) (slOf (gS (Ga.T x))) id ≥ shU (IntKind.wrap IntKind.u64 (Ga.B x - Ga.b x)) (Int.toNat (Ga.S x))) = false,
      (0 : Int) = (0 : Int)]) (by kernel_rfl) (.cons (by assumption) (.cons (by assumption) (.cons (by rfl) (.cons (by rfl) (.cons (by rfl) (.cons (by rfl) (.cons (by rfl) (.cons (by rfl) (.cons (by rfl) (.cons (by rfl) (.cons (by rfl) (.cons (by rfl) (.cons (by rfl) (.cons (by rfl) (.cons (by rfl) (.cons (by (intro _ _; exact ⟨rfl, rfl, rfl, rfl, rfl, trivial⟩)) (.cons (by exact bne_eq_false_iff_eq.2 he) (.cons (by assumption) (.cons (by assumption) (.cons (by rfl) (.cons (by rfl) (.cons (by rfl) (.cons (by rfl) (.cons (by rfl) (.cons (by (intro _ _; exact ⟨rfl, rfl, rfl, rfl, rfl, trivial⟩)) (.cons (by assumption) (.cons (by assumption) (.cons (by assumption) (.cons (by assumption) (.cons (by exact decide_eq_false hs) (.cons (by rfl) .nil))))))))))))))))))))))))))))))) (Nat.le_of_ble_eq_true (by kernel_rfl))
end Go.Proofs.Ytmhkbepnankopaa

/- admit: May as specifications. No condition. -/
namespace Go.Proofs.Ytmhkbepnankopaa
set_option linter.unusedVariables false
set_option linter.unusedSimpArgs false
open Go.RowKit E
theorem u64_bd (x : Int) : 0 ≤ IntKind.wrap IntKind.u64 x ∧ IntKind.wrap IntKind.u64 x ≤ 18446744073709551615 := by
  show 0 ≤ x % 18446744073709551616 ∧ x % 18446744073709551616 ≤ _
  omega
/-- May a packet come in? -/
def Ga.may (x : Ga) (id k : Int) : Int := if x.fit id k ≠ 0 then x.fit id k else if shU (IntKind.wrap IntKind.u64 (x.B - x.b)) x.S.toNat ≤ gtB x.M x.T id then 17 else 0
theorem fnMay17 (x : Ga) (id k : Int) (h : x.ok) (h2 : x.ok2) (s0 : 0 ≤ x.S) (s1 : x.S.toNat ≤ 16) : FnOk Try.prog 11 [p0, u32A id, uA k] x.R (iA (x.may id k)) [.gone, .gone, .gone] := by
  obtain ⟨w0, w1⟩ := u64_bd (x.B - x.b)
  unfold Ga.may
  by_cases e : x.fit id k ≠ 0
  · rw [if_pos e]; exact may_e x id k h h2 e
  rw [if_neg e]
  have e := Classical.not_not.1 e
  by_cases a : shU (IntKind.wrap IntKind.u64 (x.B - x.b)) x.S.toNat ≤ gtB x.M x.T id
  · rw [if_pos a]; exact may_s x id k h h2 h.1 h.2 e w0 w1 s0 s1 a
  · rw [if_neg a]; exact may_o x id k h h2 h.1 h.2 e w0 w1 s0 s1 a
def gMay17 : List SV → List Seg → Option (CS × List Prop)
  | [.nv (.one (.ptr h 0)), .nv (.one (.val (.int .u32 id))), .nv (.one (.val (.int .u64 k)))], mem => match gaAt mem h with
    | some x => some (⟨[p0, u32A id, uA k], x.R, iA (x.may id k), [.gone, .gone, .gone]⟩, [x.ok, x.ok2, 0 ≤ x.S, x.S.toNat ≤ 16])
    | none => none
  | [.nv (.one (.val (.pointer none))), .nv (.one (.val (.int .u32 id))), .nv (.one (.val (.int .u64 k)))], mem => some (⟨[.nv (.one (.val (.pointer none))), u32A id, uA k], [], iA 10, []⟩, [])
  | _, _ => none
theorem spMay17 : SpOk Try.prog 11 (.lift gMay17) := by
  intro args mem cs obl h ho
  unfold gMay17 at h
  split at h
  · split at h
    · simp only [Option.some.injEq, Prod.mk.injEq] at h
      obtain ⟨rfl, rfl⟩ := h
      obtain ⟨o1, o2, o3, o4, _⟩ := ho
      exact fnMay17 _ _ _ o1 o2 o3 o4
    · cases h
  · simp only [Option.some.injEq, Prod.mk.injEq] at h
    obtain ⟨rfl, rfl⟩ := h
    exact may_nil _ _
  · cases h
def Gad6 : List (FuncId × Sp) := (11, .lift gMay17) :: Gad5
theorem Gad6_ok : CtxOk Try.prog Gad6 := ctx_cons (enter_of Try.func11 (by kernel_rfl) (by kernel_rfl)) spMay17 Gad5_ok
end Go.Proofs.Ytmhkbepnankopaa

/- Runs of Go code, as printed by a program: no condition beyond those that each states. -/
namespace Go.Proofs.Ytmhkbepnankopaa
set_option linter.unusedVariables false
set_option linter.unusedSimpArgs false
set_option maxRecDepth 100000
open Go.RowKit E
attribute [local irreducible] fd homeN reT capU gtP gtB gtO gtU setT shU Ga.fit Ga.may
set_option maxHeartbeats 2000000 in
theorem inn_nil (id k : Int) : FnOk Try.prog 9 ([.nv (.one (.val (.pointer none))), u32A id, uA k]) ([]) (iA 10) ([]) :=
  fn_run Gad6_ok Try.func9 (orc := ⟨[false], []⟩) (obl := [Value.pointer none = Value.pointer none,
      id = id,
      k = k,
      ((10 : Int) == (0 : Int)) = false,
      (10 : Int) = (10 : Int)]) (by kernel_rfl) (.cons (by rfl) (.cons (by rfl) (.cons (by rfl) (.cons (by rfl) (.cons (by rfl) .nil))))) (Nat.le_of_ble_eq_true (by kernel_rfl))

set_option maxHeartbeats 2000000 in
theorem inn_e (x : Ga) (id k : Int) (h1 : x.ok) (h2 : x.ok2) (s0 : 0 ≤ x.S) (s1 : x.S.toNat ≤ 16) (he : x.may id k ≠ 0) : FnOk Try.prog 9 ([p0, u32A id, uA k]) (x.W) (iA (x.may id k)) (x.W) :=
  fn_run Gad6_ok Try.func9 (orc := ⟨[false], []⟩) (obl := [Ga.ok { P := Ga.P x, B := Ga.B x, S := Ga.S x, U := Ga.U x, n := Ga.n x, b := Ga.b x, m := Ga.m x, M := Ga.M x, T := slOf (gS (Ga.T x)) },
      Ga.ok2 { P := Ga.P x, B := Ga.B x, S := Ga.S x, U := Ga.U x, n := Ga.n x, b := Ga.b x, m := Ga.m x, M := Ga.M x, T := slOf (gS (Ga.T x)) },
      (0 : Int) ≤ Ga.S x,
      Int.toNat (Ga.S x) ≤ (16 : Nat),
      (0 : Nat) = (0 : Nat),
      id = id,
      k = k,
      Ga.P x = Ga.P x,
      Ga.B x = Ga.B x,
      Ga.S x = Ga.S x,
      Ga.U x = Ga.U x,
      Ga.n x = Ga.n x,
      Ga.b x = Ga.b x,
      (0 : Nat) = (0 : Nat),
      Ga.m x = Ga.m x,
      (64 : Int) = (64 : Int),
      Ga.M x = Ga.M x,
      ∀ (i : Nat), i < Ga.M x → Sl.id (Ga.T x i) = Sl.id (slOf (gS (Ga.T x)) i) ∧ Sl.us (Ga.T x i) = Sl.us (slOf (gS (Ga.T x)) i) ∧ Sl.pk (Ga.T x i) = Sl.pk (slOf (gS (Ga.T x)) i) ∧ Sl.bt (Ga.T x i) = Sl.bt (slOf (gS (Ga.T x)) i) ∧ Sl.mo (Ga.T x i) = Sl.mo (slOf (gS (Ga.T x)) i) ∧ True,
      (Ga.may { P := Ga.P x, B := Ga.B x, S := Ga.S x, U := Ga.U x, n := Ga.n x, b := Ga.b x, m := Ga.m x, M := Ga.M x, T := slOf (gS (Ga.T x)) } id k == (0 : Int)) = false,
      Ga.may { P := Ga.P x, B := Ga.B x, S := Ga.S x, U := Ga.U x, n := Ga.n x, b := Ga.b x, m := Ga.m x, M := Ga.M x, T := slOf (gS (Ga.T x)) } id k = Ga.may x id k,
      Ga.P x = Ga.P x,
      Ga.B x = Ga.B x,
      Ga.S x = Ga.S x,
      Ga.U x = Ga.U x,
      Ga.n x = Ga.n x,
      Ga.b x = Ga.b x,
      (0 : Nat) = (0 : Nat),
      Ga.m x = Ga.m x,
      (64 : Int) = (64 : Int),
      Ga.M x = Ga.M x,
      ∀ (i : Nat), i < Ga.M x → Sl.id (Ga.T x i) = Sl.id (Ga.T x i) ∧ Sl.us (Ga.T x i) = Sl.us (Ga.T x i) ∧ Sl.pk (Ga.T x i) = Sl.pk (Ga.T x i) ∧ Sl.bt (Ga.T x i) = Sl.bt (Ga.T x i) ∧ Sl.mo (Ga.T x i) = Sl.mo (Ga.T x i) ∧ True]) (by kernel_rfl) (.cons (by assumption) (.cons (by assumption) (.cons (by assumption) (.cons (by assumption) (.cons (by rfl) (.cons (by rfl) (.cons (by rfl) (.cons (by rfl) (.cons (by rfl) (.cons (by rfl) (.cons (by rfl) (.cons (by rfl) (.cons (by rfl) (.cons (by rfl) (.cons (by rfl) (.cons (by rfl) (.cons (by rfl) (.cons (by (intro _ _; exact ⟨rfl, rfl, rfl, rfl, rfl, trivial⟩)) (.cons (by exact beq_eq_false_iff_ne.2 he) (.cons (by rfl) (.cons (by rfl) (.cons (by rfl) (.cons (by rfl) (.cons (by rfl) (.cons (by rfl) (.cons (by rfl) (.cons (by rfl) (.cons (by rfl) (.cons (by rfl) (.cons (by rfl) (.cons (by (simp; done)) .nil))))))))))))))))))))))))))))))) (Nat.le_of_ble_eq_true (by kernel_rfl))

set_option maxHeartbeats 2000000 in
theorem inn_y (x : Ga) (id k : Int) (h1 : x.ok) (h2 : x.ok2) (s0 : 0 ≤ x.S) (s1 : x.S.toNat ≤ 16) (he : x.may id k = 0) (hu : gtU x.M x.T id = true) : FnOk Try.prog 9 ([p0, u32A id, uA k]) (x.W) (iA (x.may id k)) ((x.inn id k).W) :=
  fn_run Gad6_ok Try.func9 (orc := ⟨[true], []⟩) (obl := [Ga.ok { P := Ga.P x, B := Ga.B x, S := Ga.S x, U := Ga.U x, n := Ga.n x, b := Ga.b x, m := Ga.m x, M := Ga.M x, T := slOf (gS (Ga.T x)) },
      Ga.ok2 { P := Ga.P x, B := Ga.B x, S := Ga.S x, U := Ga.U x, n := Ga.n x, b := Ga.b x, m := Ga.m x, M := Ga.M x, T := slOf (gS (Ga.T x)) },
      (0 : Int) ≤ Ga.S x,
      Int.toNat (Ga.S x) ≤ (16 : Nat),
      (0 : Nat) = (0 : Nat),
      id = id,
      k = k,
      Ga.P x = Ga.P x,
      Ga.B x = Ga.B x,
      Ga.S x = Ga.S x,
      Ga.U x = Ga.U x,
      Ga.n x = Ga.n x,
      Ga.b x = Ga.b x,
      (0 : Nat) = (0 : Nat),
      Ga.m x = Ga.m x,
      (64 : Int) = (64 : Int),
      Ga.M x = Ga.M x,
      ∀ (i : Nat), i < Ga.M x → Sl.id (Ga.T x i) = Sl.id (slOf (gS (Ga.T x)) i) ∧ Sl.us (Ga.T x i) = Sl.us (slOf (gS (Ga.T x)) i) ∧ Sl.pk (Ga.T x i) = Sl.pk (slOf (gS (Ga.T x)) i) ∧ Sl.bt (Ga.T x i) = Sl.bt (slOf (gS (Ga.T x)) i) ∧ Sl.mo (Ga.T x i) = Sl.mo (slOf (gS (Ga.T x)) i) ∧ True,
      (Ga.may { P := Ga.P x, B := Ga.B x, S := Ga.S x, U := Ga.U x, n := Ga.n x, b := Ga.b x, m := Ga.m x, M := Ga.M x, T := slOf (gS (Ga.T x)) } id k == (0 : Int)) = true,
      Ga.ok { P := Ga.P x, B := Ga.B x, S := Ga.S x, U := Ga.U x, n := Ga.n x, b := Ga.b x, m := Ga.m x, M := Ga.M x, T := slOf (gS (Ga.T x)) },
      gtU (Ga.M x) (slOf (gS (Ga.T x))) id = true,
      (0 : Nat) = (0 : Nat),
      id = id,
      k = k,
      Ga.P x = Ga.P x,
      Ga.B x = Ga.B x,
      Ga.S x = Ga.S x,
      Ga.U x = Ga.U x,
      Ga.n x = Ga.n x,
      Ga.b x = Ga.b x,
      (0 : Nat) = (0 : Nat),
      Ga.m x = Ga.m x,
      (64 : Int) = (64 : Int),
      Ga.M x = Ga.M x,
      ∀ (i : Nat), i < Ga.M x → Sl.id (Ga.T x i) = Sl.id (slOf (gS (Ga.T x)) i) ∧ Sl.us (Ga.T x i) = Sl.us (slOf (gS (Ga.T x)) i) ∧ Sl.pk (Ga.T x i) = Sl.pk (slOf (gS (Ga.T x)) i) ∧ Sl.bt (Ga.T x i) = Sl.bt (slOf (gS (Ga.T x)) i) ∧ Sl.mo (Ga.T x i) = Sl.mo (slOf (gS (Ga.T x)) i) ∧ True,
      ∀ (i : Nat), i < Ga.M (Ga.inn { P := Ga.P x, B := Ga.B x, S := Ga.S x, U := Ga.U x, n := Ga.n x, b := Ga.b x, m := Ga.m x, M := Ga.M x, T := slOf (gS (Ga.T x)) } id k) → (true && (true && (true && (true && (true && true))))) = true,
      Ga.may { P := Ga.P x, B := Ga.B x, S := Ga.S x, U := Ga.U x, n := Ga.n x, b := Ga.b x, m := Ga.m x, M := Ga.M x, T := slOf (gS (Ga.T x)) } id k = Ga.may x id k,
      Ga.P (Ga.inn { P := Ga.P x, B := Ga.B x, S := Ga.S x, U := Ga.U x, n := Ga.n x, b := Ga.b x, m := Ga.m x, M := Ga.M x, T := slOf (gS (Ga.T x)) } id k) = Ga.P (Ga.inn x id k),
      Ga.B (Ga.inn { P := Ga.P x, B := Ga.B x, S := Ga.S x, U := Ga.U x, n := Ga.n x, b := Ga.b x, m := Ga.m x, M := Ga.M x, T := slOf (gS (Ga.T x)) } id k) = Ga.B (Ga.inn x id k),
      Ga.S (Ga.inn { P := Ga.P x, B := Ga.B x, S := Ga.S x, U := Ga.U x, n := Ga.n x, b := Ga.b x, m := Ga.m x, M := Ga.M x, T := slOf (gS (Ga.T x)) } id k) = Ga.S (Ga.inn x id k),
      Ga.U (Ga.inn { P := Ga.P x, B := Ga.B x, S := Ga.S x, U := Ga.U x, n := Ga.n x, b := Ga.b x, m := Ga.m x, M := Ga.M x, T := slOf (gS (Ga.T x)) } id k) = Ga.U (Ga.inn x id k),
      Ga.n (Ga.inn { P := Ga.P x, B := Ga.B x, S := Ga.S x, U := Ga.U x, n := Ga.n x, b := Ga.b x, m := Ga.m x, M := Ga.M x, T := slOf (gS (Ga.T x)) } id k) = Ga.n (Ga.inn x id k),
      Ga.b (Ga.inn { P := Ga.P x, B := Ga.B x, S := Ga.S x, U := Ga.U x, n := Ga.n x, b := Ga.b x, m := Ga.m x, M := Ga.M x, T := slOf (gS (Ga.T x)) } id k) = Ga.b (Ga.inn x id k),
      (0 : Nat) = (0 : Nat),
      Ga.m (Ga.inn { P := Ga.P x, B := Ga.B x, S := Ga.S x, U := Ga.U x, n := Ga.n x, b := Ga.b x, m := Ga.m x, M := Ga.M x, T := slOf (gS (Ga.T x)) } id k) = Ga.m (Ga.inn x id k),
      (64 : Int) = (64 : Int),
      Ga.M (Ga.inn { P := Ga.P x, B := Ga.B x, S := Ga.S x, U := Ga.U x, n := Ga.n x, b := Ga.b x, m := Ga.m x, M := Ga.M x, T := slOf (gS (Ga.T x)) } id k) = Ga.M (Ga.inn x id k),
      ∀ (i : Nat), i < Ga.M (Ga.inn { P := Ga.P x, B := Ga.B x, S := Ga.S x, U := Ga.U x, n := Ga.n x, b := Ga.b x, m := Ga.m x, M := Ga.M x, T := slOf (gS (Ga.T x)) } id k) → Sl.id (Ga.T (Ga.inn { P := Ga.P x, B := Ga.B x, S := Ga.S x, U := Ga.U x, n := Ga.n x, b := Ga.b x, m := Ga.m x, M := Ga.M x, T := slOf (gS (Ga.T x)) } id k) i) = Sl.id (Ga.T (Ga.inn x id k) i) ∧ Sl.us (Ga.T (Ga.inn { P := Ga.P x, B := Ga.B x, S := Ga.S x, U := Ga.U x, n := Ga.n x, b := Ga.b x, m := Ga.m x, M := Ga.M x, T := slOf (gS (Ga.T x)) } id k) i) = Sl.us (Ga.T (Ga.inn x id k) i) ∧ Sl.pk (Ga.T (Ga.inn { P := Ga.P x, B := Ga.B x, S := Ga.S x, U := Ga.U x, n := Ga.n x, b := Ga.b x, m := Ga.m x, M := Ga.M x, T := slOf (gS (Ga.T x)) } id k) i) = Sl.pk (Ga.T (Ga.inn x id k) i) ∧ Sl.bt (Ga.T (Ga.inn { P := Ga.P x, B := Ga.B x, S := Ga.S x, U := Ga.U x, n := Ga.n x, b := Ga.b x, m := Ga.m x, M := Ga.M x, T := slOf (gS (Ga.T x)) } id k) i) = Sl.bt (Ga.T (Ga.inn x id k) i) ∧ Sl.mo (Ga.T (Ga.inn { P := Ga.P x, B := Ga.B x, S := Ga.S x, U := Ga.U x, n := Ga.n x, b := Ga.b x, m := Ga.m x, M := Ga.M x, T := slOf (gS (Ga.T x)) } id k) i) = Sl.mo (Ga.T (Ga.inn x id k) i) ∧ True]) (by kernel_rfl) (.cons (by assumption) (.cons (by assumption) (.cons (by assumption) (.cons (by assumption) (.cons (by rfl) (.cons (by rfl) (.cons (by rfl) (.cons (by rfl) (.cons (by rfl) (.cons (by rfl) (.cons (by rfl) (.cons (by rfl) (.cons (by rfl) (.cons (by rfl) (.cons (by rfl) (.cons (by rfl) (.cons (by rfl) (.cons (by (intro _ _; exact ⟨rfl, rfl, rfl, rfl, rfl, trivial⟩)) (.cons (by exact beq_iff_eq.2 he) (.cons (by assumption) (.cons (by assumption) (.cons (by rfl) (.cons (by rfl) (.cons (by rfl) (.cons (by rfl) (.cons (by rfl) (.cons (by rfl) (.cons (by rfl) (.cons (by rfl) (.cons (by rfl) (.cons (by rfl) (.cons (by rfl) (.cons (by rfl) (.cons (by rfl) (.cons (by (intro _ _; exact ⟨rfl, rfl, rfl, rfl, rfl, trivial⟩)) (.cons (by (intro _ _; rfl)) (.cons (by rfl) (.cons (by rfl) (.cons (by rfl) (.cons (by rfl) (.cons (by rfl) (.cons (by rfl) (.cons (by rfl) (.cons (by rfl) (.cons (by rfl) (.cons (by rfl) (.cons (by rfl) (.cons (by (intro _ _; exact ⟨rfl, rfl, rfl, rfl, rfl, trivial⟩)) .nil)))))))))))))))))))))))))))))))))))))))))))))))) (Nat.le_of_ble_eq_true (by kernel_rfl))

set_option maxHeartbeats 2000000 in
theorem lay_nil (id k : Int) : FnOk Try.prog 20 ([.nv (.one (.val (.pointer none))), u32A id, uA k]) ([]) (iA 10) ([]) :=
  fn_run Gad6_ok Try.func20 (orc := ⟨[false], []⟩) (obl := [Value.pointer none = Value.pointer none,
      id = id,
      k = k,
      ((10 : Int) == (0 : Int)) = false,
      (10 : Int) = (10 : Int)]) (by kernel_rfl) (.cons (by rfl) (.cons (by rfl) (.cons (by rfl) (.cons (by rfl) (.cons (by rfl) .nil))))) (Nat.le_of_ble_eq_true (by kernel_rfl))

set_option maxHeartbeats 2000000 in
theorem lay_e (x : Ga) (id k : Int) (h1 : x.ok) (h2 : x.ok2) (s0 : 0 ≤ x.S) (s1 : x.S.toNat ≤ 16) (he : x.fit id k ≠ 0) : FnOk Try.prog 20 ([p0, u32A id, uA k]) (x.W) (iA (x.fit id k)) (x.W) :=
  fn_run Gad6_ok Try.func20 (orc := ⟨[false], []⟩) (obl := [Ga.ok { P := Ga.P x, B := Ga.B x, S := Ga.S x, U := Ga.U x, n := Ga.n x, b := Ga.b x, m := Ga.m x, M := Ga.M x, T := slOf (gS (Ga.T x)) },
      Ga.ok2 { P := Ga.P x, B := Ga.B x, S := Ga.S x, U := Ga.U x, n := Ga.n x, b := Ga.b x, m := Ga.m x, M := Ga.M x, T := slOf (gS (Ga.T x)) },
      (0 : Nat) = (0 : Nat),
      id = id,
      k = k,
      Ga.P x = Ga.P x,
      Ga.B x = Ga.B x,
      Ga.S x = Ga.S x,
      Ga.U x = Ga.U x,
      Ga.n x = Ga.n x,
      Ga.b x = Ga.b x,
      (0 : Nat) = (0 : Nat),
      Ga.m x = Ga.m x,
      (64 : Int) = (64 : Int),
      Ga.M x = Ga.M x,
      ∀ (i : Nat), i < Ga.M x → Sl.id (Ga.T x i) = Sl.id (slOf (gS (Ga.T x)) i) ∧ Sl.us (Ga.T x i) = Sl.us (slOf (gS (Ga.T x)) i) ∧ Sl.pk (Ga.T x i) = Sl.pk (slOf (gS (Ga.T x)) i) ∧ Sl.bt (Ga.T x i) = Sl.bt (slOf (gS (Ga.T x)) i) ∧ Sl.mo (Ga.T x i) = Sl.mo (slOf (gS (Ga.T x)) i) ∧ True,
      (Ga.fit { P := Ga.P x, B := Ga.B x, S := Ga.S x, U := Ga.U x, n := Ga.n x, b := Ga.b x, m := Ga.m x, M := Ga.M x, T := slOf (gS (Ga.T x)) } id k == (0 : Int)) = false,
      Ga.fit { P := Ga.P x, B := Ga.B x, S := Ga.S x, U := Ga.U x, n := Ga.n x, b := Ga.b x, m := Ga.m x, M := Ga.M x, T := slOf (gS (Ga.T x)) } id k = Ga.fit x id k,
      Ga.P x = Ga.P x,
      Ga.B x = Ga.B x,
      Ga.S x = Ga.S x,
      Ga.U x = Ga.U x,
      Ga.n x = Ga.n x,
      Ga.b x = Ga.b x,
      (0 : Nat) = (0 : Nat),
      Ga.m x = Ga.m x,
      (64 : Int) = (64 : Int),
      Ga.M x = Ga.M x,
      ∀ (i : Nat), i < Ga.M x → Sl.id (Ga.T x i) = Sl.id (Ga.T x i) ∧ Sl.us (Ga.T x i) = Sl.us (Ga.T x i) ∧ Sl.pk (Ga.T x i) = Sl.pk (Ga.T x i) ∧ Sl.bt (Ga.T x i) = Sl.bt (Ga.T x i) ∧ Sl.mo (Ga.T x i) = Sl.mo (Ga.T x i) ∧ True]) (by kernel_rfl) (.cons (by assumption) (.cons (by assumption) (.cons (by rfl) (.cons (by rfl) (.cons (by rfl) (.cons (by rfl) (.cons (by rfl) (.cons (by rfl) (.cons (by rfl) (.cons (by rfl) (.cons (by rfl) (.cons (by rfl) (.cons (by rfl) (.cons (by rfl) (.cons (by rfl) (.cons (by (intro _ _; exact ⟨rfl, rfl, rfl, rfl, rfl, trivial⟩)) (.cons (by exact beq_eq_false_iff_ne.2 he) (.cons (by rfl) (.cons (by rfl) (.cons (by rfl) (.cons (by rfl) (.cons (by rfl) (.cons (by rfl) (.cons (by rfl) (.cons (by rfl) (.cons (by rfl) (.cons (by rfl) (.cons (by rfl) (.cons (by (simp; done)) .nil))))))))))))))))))))))))))))) (Nat.le_of_ble_eq_true (by kernel_rfl))

set_option maxHeartbeats 2000000 in
theorem lay_y (x : Ga) (id k : Int) (h1 : x.ok) (h2 : x.ok2) (s0 : 0 ≤ x.S) (s1 : x.S.toNat ≤ 16) (he : x.fit id k = 0) (hu : gtU x.M x.T id = true) : FnOk Try.prog 20 ([p0, u32A id, uA k]) (x.W) (iA (x.fit id k)) ((x.inn id k).W) :=
  fn_run Gad6_ok Try.func20 (orc := ⟨[true], []⟩) (obl := [Ga.ok { P := Ga.P x, B := Ga.B x, S := Ga.S x, U := Ga.U x, n := Ga.n x, b := Ga.b x, m := Ga.m x, M := Ga.M x, T := slOf (gS (Ga.T x)) },
      Ga.ok2 { P := Ga.P x, B := Ga.B x, S := Ga.S x, U := Ga.U x, n := Ga.n x, b := Ga.b x, m := Ga.m x, M := Ga.M x, T := slOf (gS (Ga.T x)) },
      (0 : Nat) = (0 : Nat),
      id = id,
      k = k,
      Ga.P x = Ga.P x,
      Ga.B x = Ga.B x,
      Ga.S x = Ga.S x,
      Ga.U x = Ga.U x,
      Ga.n x = Ga.n x,
      Ga.b x = Ga.b x,
      (0 : Nat) = (0 : Nat),
      Ga.m x = Ga.m x,
      (64 : Int) = (64 : Int),
      Ga.M x = Ga.M x,
      ∀ (i : Nat), i < Ga.M x → Sl.id (Ga.T x i) = Sl.id (slOf (gS (Ga.T x)) i) ∧ Sl.us (Ga.T x i) = Sl.us (slOf (gS (Ga.T x)) i) ∧ Sl.pk (Ga.T x i) = Sl.pk (slOf (gS (Ga.T x)) i) ∧ Sl.bt (Ga.T x i) = Sl.bt (slOf (gS (Ga.T x)) i) ∧ Sl.mo (Ga.T x i) = Sl.mo (slOf (gS (Ga.T x)) i) ∧ True,
      (Ga.fit { P := Ga.P x, B := Ga.B x, S := Ga.S x, U := Ga.U x, n := Ga.n x, b := Ga.b x, m := Ga.m x, M := Ga.M x, T := slOf (gS (Ga.T x)) } id k == (0 : Int)) = true,
      Ga.ok { P := Ga.P x, B := Ga.B x, S := Ga.S x, U := Ga.U x, n := Ga.n x, b := Ga.b x, m := Ga.m x, M := Ga.M x, T := slOf (gS (Ga.T x)) },
      gtU (Ga.M x) (slOf (gS (Ga.T x))) id = true,
      (0 : Nat) = (0 : Nat),
      id = id,
      k = k,
      Ga.P x = Ga.P x,
      Ga.B x = Ga.B x,
      Ga.S x = Ga.S x,
      Ga.U x = Ga.U x,
      Ga.n x = Ga.n x,
      Ga.b x = Ga.b x,
      (0 : Nat) = (0 : Nat),
      Ga.m x = Ga.m x,
      (64 : Int) = (64 : Int),
      Ga.M x = Ga.M x,
      ∀ (i : Nat), i < Ga.M x → Sl.id (Ga.T x i) = Sl.id (slOf (gS (Ga.T x)) i) ∧ Sl.us (Ga.T x i) = Sl.us (slOf (gS (Ga.T x)) i) ∧ Sl.pk (Ga.T x i) = Sl.pk (slOf (gS (Ga.T x)) i) ∧ Sl.bt (Ga.T x i) = Sl.bt (slOf (gS (Ga.T x)) i) ∧ Sl.mo (Ga.T x i) = Sl.mo (slOf (gS (Ga.T x)) i) ∧ True,
      ∀ (i : Nat), i < Ga.M (Ga.inn { P := Ga.P x, B := Ga.B x, S := Ga.S x, U := Ga.U x, n := Ga.n x, b := Ga.b x, m := Ga.m x, M := Ga.M x, T := slOf (gS (Ga.T x)) } id k) → (true && (true && (true && (true && (true && true))))) = true,
      Ga.fit { P := Ga.P x, B := Ga.B x, S := Ga.S x, U := Ga.U x, n := Ga.n x, b := Ga.b x, m := Ga.m x, M := Ga.M x, T := slOf (gS (Ga.T x)) } id k = Ga.fit x id k,
      Ga.P (Ga.inn { P := Ga.P x, B := Ga.B x, S := Ga.S x, U := Ga.U x, n := Ga.n x, b := Ga.b x, m := Ga.m x, M := Ga.M x, T := slOf (gS (Ga.T x)) } id k) = Ga.P (Ga.inn x id k),
      Ga.B (Ga.inn { P := Ga.P x, B := Ga.B x, S := Ga.S x, U := Ga.U x, n := Ga.n x, b := Ga.b x, m := Ga.m x, M := Ga.M x, T := slOf (gS (Ga.T x)) } id k) = Ga.B (Ga.inn x id k),
      Ga.S (Ga.inn { P := Ga.P x, B := Ga.B x, S := Ga.S x, U := Ga.U x, n := Ga.n x, b := Ga.b x, m := Ga.m x, M := Ga.M x, T := slOf (gS (Ga.T x)) } id k) = Ga.S (Ga.inn x id k),
      Ga.U (Ga.inn { P := Ga.P x, B := Ga.B x, S := Ga.S x, U := Ga.U x, n := Ga.n x, b := Ga.b x, m := Ga.m x, M := Ga.M x, T := slOf (gS (Ga.T x)) } id k) = Ga.U (Ga.inn x id k),
      Ga.n (Ga.inn { P := Ga.P x, B := Ga.B x, S := Ga.S x, U := Ga.U x, n := Ga.n x, b := Ga.b x, m := Ga.m x, M := Ga.M x, T := slOf (gS (Ga.T x)) } id k) = Ga.n (Ga.inn x id k),
      Ga.b (Ga.inn { P := Ga.P x, B := Ga.B x, S := Ga.S x, U := Ga.U x, n := Ga.n x, b := Ga.b x, m := Ga.m x, M := Ga.M x, T := slOf (gS (Ga.T x)) } id k) = Ga.b (Ga.inn x id k),
      (0 : Nat) = (0 : Nat),
      Ga.m (Ga.inn { P := Ga.P x, B := Ga.B x, S := Ga.S x, U := Ga.U x, n := Ga.n x, b := Ga.b x, m := Ga.m x, M := Ga.M x, T := slOf (gS (Ga.T x)) } id k) = Ga.m (Ga.inn x id k),
      (64 : Int) = (64 : Int),
      Ga.M (Ga.inn { P := Ga.P x, B := Ga.B x, S := Ga.S x, U := Ga.U x, n := Ga.n x, b := Ga.b x, m := Ga.m x, M := Ga.M x, T := slOf (gS (Ga.T x)) } id k) = Ga.M (Ga.inn x id k),
      ∀ (i : Nat), i < Ga.M (Ga.inn { P := Ga.P x, B := Ga.B x, S := Ga.S x, U := Ga.U x, n := Ga.n x, b := Ga.b x, m := Ga.m x, M := Ga.M x, T := slOf (gS (Ga.T x)) } id k) → Sl.id (Ga.T (Ga.inn { P := Ga.P x, B := Ga.B x, S := Ga.S x, U := Ga.U x, n := Ga.n x, b := Ga.b x, m := Ga.m x, M := Ga.M x, T := slOf (gS (Ga.T x)) } id k) i) = Sl.id (Ga.T (Ga.inn x id k) i) ∧ Sl.us (Ga.T (Ga.inn { P := Ga.P x, B := Ga.B x, S := Ga.S x, U := Ga.U x, n := Ga.n x, b := Ga.b x, m := Ga.m x, M := Ga.M x, T := slOf (gS (Ga.T x)) } id k) i) = Sl.us (Ga.T (Ga.inn x id k) i) ∧ Sl.pk (Ga.T (Ga.inn { P := Ga.P x, B := Ga.B x, S := Ga.S x, U := Ga.U x, n := Ga.n x, b := Ga.b x, m := Ga.m x, M := Ga.M x, T := slOf (gS (Ga.T x)) } id k) i) = Sl.pk (Ga.T (Ga.inn x id k) i) ∧ Sl.bt (Ga.T (Ga.inn { P := Ga.P x, B := Ga.B x, S := Ga.S x, U := Ga.U x, n := Ga.n x, b := Ga.b x, m := Ga.m x, M := Ga.M x, T := slOf (gS (Ga.T x)) } id k) i) = Sl.bt (Ga.T (Ga.inn x id k) i) ∧ Sl.mo (Ga.T (Ga.inn { P := Ga.P x, B := Ga.B x, S := Ga.S x, U := Ga.U x, n := Ga.n x, b := Ga.b x, m := Ga.m x, M := Ga.M x, T := slOf (gS (Ga.T x)) } id k) i) = Sl.mo (Ga.T (Ga.inn x id k) i) ∧ True]) (by kernel_rfl) (.cons (by assumption) (.cons (by assumption) (.cons (by rfl) (.cons (by rfl) (.cons (by rfl) (.cons (by rfl) (.cons (by rfl) (.cons (by rfl) (.cons (by rfl) (.cons (by rfl) (.cons (by rfl) (.cons (by rfl) (.cons (by rfl) (.cons (by rfl) (.cons (by rfl) (.cons (by (intro _ _; exact ⟨rfl, rfl, rfl, rfl, rfl, trivial⟩)) (.cons (by exact beq_iff_eq.2 he) (.cons (by assumption) (.cons (by assumption) (.cons (by rfl) (.cons (by rfl) (.cons (by rfl) (.cons (by rfl) (.cons (by rfl) (.cons (by rfl) (.cons (by rfl) (.cons (by rfl) (.cons (by rfl) (.cons (by rfl) (.cons (by rfl) (.cons (by rfl) (.cons (by rfl) (.cons (by (intro _ _; exact ⟨rfl, rfl, rfl, rfl, rfl, trivial⟩)) (.cons (by (intro _ _; rfl)) (.cons (by rfl) (.cons (by rfl) (.cons (by rfl) (.cons (by rfl) (.cons (by rfl) (.cons (by rfl) (.cons (by rfl) (.cons (by rfl) (.cons (by rfl) (.cons (by rfl) (.cons (by rfl) (.cons (by (intro _ _; exact ⟨rfl, rfl, rfl, rfl, rfl, trivial⟩)) .nil)))))))))))))))))))))))))))))))))))))))))))))) (Nat.le_of_ble_eq_true (by kernel_rfl))
end Go.Proofs.Ytmhkbepnankopaa

/- admit: In, Lay as specifications. No condition. -/
namespace Go.Proofs.Ytmhkbepnankopaa
set_option linter.unusedVariables false
set_option linter.unusedSimpArgs false
open Go.RowKit E
theorem fit_us {x : Ga} {id k : Int} (h : x.fit id k = 0) : gtU x.M x.T id = true := by
  unfold Ga.fit at h
  cases hu : gtU x.M x.T id
  · rw [hu] at h
    split at h
    · cases h
    · simp at h
  · rfl
theorem may_fit {x : Ga} {id k : Int} (h : x.may id k = 0) : x.fit id k = 0 := by
  unfold Ga.may at h
  split at h
  · rename_i q; exact absurd h q
  · rename_i q; exact Classical.not_not.1 q
def Ga.inn' (x : Ga) (id k : Int) : Ga := if x.may id k = 0 then x.inn id k else x
def Ga.lay (x : Ga) (id k : Int) : Ga := if x.fit id k = 0 then x.inn id k else x
theorem inn_norm (x : Ga) (id k : Int) : (x.inn' id k).norm x = x.inn' id k := by
  unfold Ga.inn'
  split <;> rfl
theorem lay_norm (x : Ga) (id k : Int) : (x.lay id k).norm x = x.lay id k := by
  unfold Ga.lay
  split <;> rfl
theorem fnInn17 (x : Ga) (id k : Int) (h : x.ok) (h2 : x.ok2) (s0 : 0 ≤ x.S) (s1 : x.S.toNat ≤ 16) : FnOk Try.prog 9 [p0, u32A id, uA k] x.W (iA (x.may id k)) (x.inn' id k).W := by
  unfold Ga.inn'
  by_cases e : x.may id k = 0
  · rw [if_pos e]; exact inn_y x id k h h2 s0 s1 e (fit_us (may_fit e))
  · rw [if_neg e]; exact inn_e x id k h h2 s0 s1 e
theorem fnLay17 (x : Ga) (id k : Int) (h : x.ok) (h2 : x.ok2) (s0 : 0 ≤ x.S) (s1 : x.S.toNat ≤ 16) : FnOk Try.prog 20 [p0, u32A id, uA k] x.W (iA (x.fit id k)) (x.lay id k).W := by
  unfold Ga.lay
  by_cases e : x.fit id k = 0
  · rw [if_pos e]; exact lay_y x id k h h2 s0 s1 e (fit_us e)
  · rw [if_neg e]; exact lay_e x id k h h2 s0 s1 e
def gInn17 : List SV → List Seg → Option (CS × List Prop)
  | [.nv (.one (.ptr h 0)), .nv (.one (.val (.int .u32 id))), .nv (.one (.val (.int .u64 k)))], mem => match gaAt mem h with
    | some x => some (⟨[p0, u32A id, uA k], x.W, iA (x.may id k), ((x.inn' id k).norm x).W⟩, [x.ok, x.ok2, 0 ≤ x.S, x.S.toNat ≤ 16])
    | none => none
  | [.nv (.one (.val (.pointer none))), .nv (.one (.val (.int .u32 id))), .nv (.one (.val (.int .u64 k)))], mem => some (⟨[.nv (.one (.val (.pointer none))), u32A id, uA k], [], iA 10, []⟩, [])
  | _, _ => none
theorem spInn17 : SpOk Try.prog 9 (.lift gInn17) := by
  intro args mem cs obl h ho
  unfold gInn17 at h
  split at h
  · split at h
    · simp only [Option.some.injEq, Prod.mk.injEq] at h
      obtain ⟨rfl, rfl⟩ := h
      obtain ⟨o1, o2, o3, o4, _⟩ := ho
      rw [inn_norm]; exact fnInn17 _ _ _ o1 o2 o3 o4
    · cases h
  · simp only [Option.some.injEq, Prod.mk.injEq] at h
    obtain ⟨rfl, rfl⟩ := h
    exact inn_nil _ _
  · cases h
def gLay17 : List SV → List Seg → Option (CS × List Prop)
  | [.nv (.one (.ptr h 0)), .nv (.one (.val (.int .u32 id))), .nv (.one (.val (.int .u64 k)))], mem => match gaAt mem h with
    | some x => some (⟨[p0, u32A id, uA k], x.W, iA (x.fit id k), ((x.lay id k).norm x).W⟩, [x.ok, x.ok2, 0 ≤ x.S, x.S.toNat ≤ 16])
    | none => none
  | [.nv (.one (.val (.pointer none))), .nv (.one (.val (.int .u32 id))), .nv (.one (.val (.int .u64 k)))], mem => some (⟨[.nv (.one (.val (.pointer none))), u32A id, uA k], [], iA 10, []⟩, [])
  | _, _ => none
theorem spLay17 : SpOk Try.prog 20 (.lift gLay17) := by
  intro args mem cs obl h ho
  unfold gLay17 at h
  split at h
  · split at h
    · simp only [Option.some.injEq, Prod.mk.injEq] at h
      obtain ⟨rfl, rfl⟩ := h
      obtain ⟨o1, o2, o3, o4, _⟩ := ho
      rw [lay_norm]; exact fnLay17 _ _ _ o1 o2 o3 o4
    · cases h
  · simp only [Option.some.injEq, Prod.mk.injEq] at h
    obtain ⟨rfl, rfl⟩ := h
    exact lay_nil _ _
  · cases h
def Gad7 : List (FuncId × Sp) := (9, .lift gInn17) :: (20, .lift gLay17) :: Gad6
theorem Gad7_ok : CtxOk Try.prog Gad7 := ctx_cons (enter_of Try.func9 (by kernel_rfl) (by kernel_rfl)) spInn17 <|
  ctx_cons (enter_of Try.func20 (by kernel_rfl) (by kernel_rfl)) spLay17 Gad6_ok
end Go.Proofs.Ytmhkbepnankopaa

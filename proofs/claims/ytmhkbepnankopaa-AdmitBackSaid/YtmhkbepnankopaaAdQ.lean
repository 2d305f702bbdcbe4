/- admit: the gate. No condition. -/
import Derived.Test.YtmhkbepnankopaaAdN
import Derived.Test.YtmhkbepnankopaaChecked
import Derived.KernelRfl
namespace Go.Proofs.Ytmhkbepnankopaa
set_option linter.unusedVariables false
set_option linter.unusedSimpArgs false
open Go.RowKit E
abbrev gtC (P B S U n b : Int) : List At := [.any, .any, .any, .any, .val (.int .i64 P), .val (.int .u64 B), .val (.int .i64 S), .val (.int .u64 U), .any, .any, .any, .val (.int .i64 n), .val (.int .u64 b), .ptr 1 0]
abbrev gaR (P B S U n b m : Int) (M : Nat) (T : Nat → Sl) : List Seg := [.robox 60 (gtC P B S U n b), .robox 78 [.own 2, .val (.int .i64 m), .val (.int .i64 64)], .ro 5 M (gS T)]
abbrev gaW (P B S U n b m : Int) (M : Nat) (T : Nat → Sl) : List Seg := [.box 60 (gtC P B S U n b), .box 78 [.own 2, .val (.int .i64 m), .val (.int .i64 64)], .row 80 5 M (gS T)]
end Go.Proofs.Ytmhkbepnankopaa

/- Runs of Go code, as printed by a program: no condition beyond those that each states. -/
namespace Go.Proofs.Ytmhkbepnankopaa
set_option linter.unusedVariables false
set_option linter.unusedSimpArgs false
set_option maxRecDepth 100000
open Go.RowKit E
attribute [local irreducible] fd homeN reT capU gtP gtB gtO gtU setT shU
set_option maxHeartbeats 2000000 in
theorem fits_nil (id x : Int) : FnOk Try.prog 28 ([.nv (.one (.val (.pointer none))), u32A id, uA x]) ([]) (iA 10) ([]) :=
  fn_run Gad4_ok Try.func28 (orc := ⟨[true], []⟩) (obl := [true = true,
      (10 : Int) = (10 : Int)]) (by kernel_rfl) (.cons (by rfl) (.cons (by rfl) .nil)) (Nat.le_of_ble_eq_true (by kernel_rfl))

set_option maxHeartbeats 2000000 in
theorem fits_0 (P B S U n b m x id : Int) (M : Nat) (T : Nat → Sl) (h2 : P2 M) (hf : free M T) (he : x = 0) : FnOk Try.prog 28 ([p0, u32A id, uA x]) (gaR P B S U n b m M T) (iA 12) ([.gone, .gone, .gone]) :=
  fn_run Gad4_ok Try.func28 (orc := ⟨[false, true, true], []⟩) (obl := [false = false,
      (x == (0 : Int)) = true,
      true = true,
      (12 : Int) = (12 : Int)]) (by kernel_rfl) (.cons (by rfl) (.cons (by exact decide_eq_true (by omega)) (.cons (by rfl) (.cons (by rfl) .nil)))) (Nat.le_of_ble_eq_true (by kernel_rfl))

set_option maxHeartbeats 2000000 in
theorem fits_u (P B S U n b m x id : Int) (M : Nat) (T : Nat → Sl) (h2 : P2 M) (hf : free M T) (hx : x ≠ 0) (hx2 : U < x) : FnOk Try.prog 28 ([p0, u32A id, uA x]) (gaR P B S U n b m M T) (iA 12) ([.gone, .gone, .gone]) :=
  fn_run Gad4_ok Try.func28 (orc := ⟨[false, false, true], []⟩) (obl := [false = false,
      (x == (0 : Int)) = false,
      decide (x > U) = true,
      (12 : Int) = (12 : Int)]) (by kernel_rfl) (.cons (by rfl) (.cons (by exact decide_eq_false (by omega)) (.cons (by exact decide_eq_true (by omega)) (.cons (by rfl) .nil)))) (Nat.le_of_ble_eq_true (by kernel_rfl))

set_option maxHeartbeats 2000000 in
theorem fits_13 (P B S U n b m x id : Int) (M : Nat) (T : Nat → Sl) (h2 : P2 M) (hf : free M T) (hx : x ≠ 0) (hx2 : ¬ U < x) (hu : gtU M T id = false) : FnOk Try.prog 28 ([p0, u32A id, uA x]) (gaR P B S U n b m M T) (iA 13) ([.gone, .gone, .gone]) :=
  fn_run Gad4_ok Try.func28 (orc := ⟨[false, false, false, true], []⟩) (obl := [false = false,
      (x == (0 : Int)) = false,
      decide (x > U) = false,
      P2 M,
      free M (slOf (gS T)),
      (0 : Nat) = (0 : Nat),
      id = id,
      m = m,
      (64 : Int) = (64 : Int),
      M = M,
      ∀ (i : Nat), i < M → Sl.id (T i) = Sl.id (slOf (gS T) i) ∧ Sl.us (T i) = Sl.us (slOf (gS T) i) ∧ Sl.pk (T i) = Sl.pk (slOf (gS T) i) ∧ Sl.bt (T i) = Sl.bt (slOf (gS T) i) ∧ Sl.mo (T i) = Sl.mo (slOf (gS T) i) ∧ True,
      (!gtU M (slOf (gS T)) id) = true,
      (13 : Int) = (13 : Int)]) (by kernel_rfl) (.cons (by rfl) (.cons (by exact decide_eq_false (by omega)) (.cons (by exact decide_eq_false (by omega)) (.cons (by assumption) (.cons (by assumption) (.cons (by rfl) (.cons (by rfl) (.cons (by rfl) (.cons (by rfl) (.cons (by rfl) (.cons (by (intro _ _; exact ⟨rfl, rfl, rfl, rfl, rfl, trivial⟩)) (.cons (by exact congrArg not hu) (.cons (by rfl) .nil))))))))))))) (Nat.le_of_ble_eq_true (by kernel_rfl))

set_option maxHeartbeats 2000000 in
theorem fits_14 (P B S U n b m x id : Int) (M : Nat) (T : Nat → Sl) (h2 : P2 M) (hf : free M T) (hx : x ≠ 0) (hx2 : ¬ U < x) (hu : gtU M T id = true) (hp : P ≤ n) : FnOk Try.prog 28 ([p0, u32A id, uA x]) (gaR P B S U n b m M T) (iA 14) ([.gone, .gone, .gone]) :=
  fn_run Gad4_ok Try.func28 (orc := ⟨[false, false, false, false, true], []⟩) (obl := [false = false,
      (x == (0 : Int)) = false,
      decide (x > U) = false,
      P2 M,
      free M (slOf (gS T)),
      (0 : Nat) = (0 : Nat),
      id = id,
      m = m,
      (64 : Int) = (64 : Int),
      M = M,
      ∀ (i : Nat), i < M → Sl.id (T i) = Sl.id (slOf (gS T) i) ∧ Sl.us (T i) = Sl.us (slOf (gS T) i) ∧ Sl.pk (T i) = Sl.pk (slOf (gS T) i) ∧ Sl.bt (T i) = Sl.bt (slOf (gS T) i) ∧ Sl.mo (T i) = Sl.mo (slOf (gS T) i) ∧ True,
      (!gtU M (slOf (gS T)) id) = false,
      decide (n ≥ P) = true,
      (14 : Int) = (14 : Int)]) (by kernel_rfl) (.cons (by rfl) (.cons (by exact decide_eq_false (by omega)) (.cons (by exact decide_eq_false (by omega)) (.cons (by assumption) (.cons (by assumption) (.cons (by rfl) (.cons (by rfl) (.cons (by rfl) (.cons (by rfl) (.cons (by rfl) (.cons (by (intro _ _; exact ⟨rfl, rfl, rfl, rfl, rfl, trivial⟩)) (.cons (by exact congrArg not hu) (.cons (by exact decide_eq_true (by omega)) (.cons (by rfl) .nil)))))))))))))) (Nat.le_of_ble_eq_true (by kernel_rfl))

set_option maxHeartbeats 2000000 in
theorem fits_15 (P B S U n b m x id : Int) (M : Nat) (T : Nat → Sl) (h2 : P2 M) (hf : free M T) (hx : x ≠ 0) (hx2 : ¬ U < x) (hu : gtU M T id = true) (hp : ¬ P ≤ n) (ew : IntKind.wrap IntKind.u64 (B - b) = B - b) (hb : B - b < x) : FnOk Try.prog 28 ([p0, u32A id, uA x]) (gaR P B S U n b m M T) (iA 15) ([.gone, .gone, .gone]) :=
  fn_run Gad4_ok Try.func28 (orc := ⟨[false, false, false, false, false, true], []⟩) (obl := [false = false,
      (x == (0 : Int)) = false,
      decide (x > U) = false,
      P2 M,
      free M (slOf (gS T)),
      (0 : Nat) = (0 : Nat),
      id = id,
      m = m,
      (64 : Int) = (64 : Int),
      M = M,
      ∀ (i : Nat), i < M → Sl.id (T i) = Sl.id (slOf (gS T) i) ∧ Sl.us (T i) = Sl.us (slOf (gS T) i) ∧ Sl.pk (T i) = Sl.pk (slOf (gS T) i) ∧ Sl.bt (T i) = Sl.bt (slOf (gS T) i) ∧ Sl.mo (T i) = Sl.mo (slOf (gS T) i) ∧ True,
      (!gtU M (slOf (gS T)) id) = false,
      decide (n ≥ P) = false,
      decide (x > IntKind.wrap IntKind.u64 (B - b)) = true,
      (15 : Int) = (15 : Int)]) (by kernel_rfl) (.cons (by rfl) (.cons (by exact decide_eq_false (by omega)) (.cons (by exact decide_eq_false (by omega)) (.cons (by assumption) (.cons (by assumption) (.cons (by rfl) (.cons (by rfl) (.cons (by rfl) (.cons (by rfl) (.cons (by rfl) (.cons (by (intro _ _; exact ⟨rfl, rfl, rfl, rfl, rfl, trivial⟩)) (.cons (by exact congrArg not hu) (.cons (by exact decide_eq_false (by omega)) (.cons (by exact decide_eq_true (by omega)) (.cons (by rfl) .nil))))))))))))))) (Nat.le_of_ble_eq_true (by kernel_rfl))

set_option maxHeartbeats 2000000 in
theorem fits_16 (P B S U n b m x id : Int) (M : Nat) (T : Nat → Sl) (h2 : P2 M) (hf : free M T) (hx : x ≠ 0) (hx2 : ¬ U < x) (hu : gtU M T id = true) (hp : ¬ P ≤ n) (ew : IntKind.wrap IntKind.u64 (B - b) = B - b) (hb : ¬ B - b < x) (ho : gtO M T id < gtB M T id) : FnOk Try.prog 28 ([p0, u32A id, uA x]) (gaR P B S U n b m M T) (iA 16) ([.gone, .gone, .gone]) :=
  fn_run Gad4_ok Try.func28 (orc := ⟨[false, false, false, false, false, false, true, true], []⟩) (obl := [false = false,
      (x == (0 : Int)) = false,
      decide (x > U) = false,
      P2 M,
      free M (slOf (gS T)),
      (0 : Nat) = (0 : Nat),
      id = id,
      m = m,
      (64 : Int) = (64 : Int),
      M = M,
      ∀ (i : Nat), i < M → Sl.id (T i) = Sl.id (slOf (gS T) i) ∧ Sl.us (T i) = Sl.us (slOf (gS T) i) ∧ Sl.pk (T i) = Sl.pk (slOf (gS T) i) ∧ Sl.bt (T i) = Sl.bt (slOf (gS T) i) ∧ Sl.mo (T i) = Sl.mo (slOf (gS T) i) ∧ True,
      (!gtU M (slOf (gS T)) id) = false,
      decide (n ≥ P) = false,
      decide (x > IntKind.wrap IntKind.u64 (B - b)) = false,
      decide (gtB M (slOf (gS T)) id > gtO M (slOf (gS T)) id) = true,
      true = true,
      (16 : Int) = (16 : Int)]) (by kernel_rfl) (.cons (by rfl) (.cons (by exact decide_eq_false (by omega)) (.cons (by exact decide_eq_false (by omega)) (.cons (by assumption) (.cons (by assumption) (.cons (by rfl) (.cons (by rfl) (.cons (by rfl) (.cons (by rfl) (.cons (by rfl) (.cons (by (intro _ _; exact ⟨rfl, rfl, rfl, rfl, rfl, trivial⟩)) (.cons (by exact congrArg not hu) (.cons (by exact decide_eq_false (by omega)) (.cons (by exact decide_eq_false (by omega)) (.cons (by exact decide_eq_true ho) (.cons (by rfl) (.cons (by rfl) .nil))))))))))))))))) (Nat.le_of_ble_eq_true (by kernel_rfl))

set_option maxHeartbeats 2000000 in
theorem fits_17 (P B S U n b m x id : Int) (M : Nat) (T : Nat → Sl) (h2 : P2 M) (hf : free M T) (hx : x ≠ 0) (hx2 : ¬ U < x) (hu : gtU M T id = true) (hp : ¬ P ≤ n) (ew : IntKind.wrap IntKind.u64 (B - b) = B - b) (hb : ¬ B - b < x) (ho : ¬ gtO M T id < gtB M T id) (hq : IntKind.wrap IntKind.u64 (gtO M T id - gtB M T id) < x) : FnOk Try.prog 28 ([p0, u32A id, uA x]) (gaR P B S U n b m M T) (iA 16) ([.gone, .gone, .gone]) :=
  fn_run Gad4_ok Try.func28 (orc := ⟨[false, false, false, false, false, false, false, true], []⟩) (obl := [false = false,
      (x == (0 : Int)) = false,
      decide (x > U) = false,
      P2 M,
      free M (slOf (gS T)),
      (0 : Nat) = (0 : Nat),
      id = id,
      m = m,
      (64 : Int) = (64 : Int),
      M = M,
      ∀ (i : Nat), i < M → Sl.id (T i) = Sl.id (slOf (gS T) i) ∧ Sl.us (T i) = Sl.us (slOf (gS T) i) ∧ Sl.pk (T i) = Sl.pk (slOf (gS T) i) ∧ Sl.bt (T i) = Sl.bt (slOf (gS T) i) ∧ Sl.mo (T i) = Sl.mo (slOf (gS T) i) ∧ True,
      (!gtU M (slOf (gS T)) id) = false,
      decide (n ≥ P) = false,
      decide (x > IntKind.wrap IntKind.u64 (B - b)) = false,
      decide (gtB M (slOf (gS T)) id > gtO M (slOf (gS T)) id) = false,
      decide (x > IntKind.wrap IntKind.u64 (gtO M (slOf (gS T)) id - gtB M (slOf (gS T)) id)) = true,
      (16 : Int) = (16 : Int)]) (by kernel_rfl) (.cons (by rfl) (.cons (by exact decide_eq_false (by omega)) (.cons (by exact decide_eq_false (by omega)) (.cons (by assumption) (.cons (by assumption) (.cons (by rfl) (.cons (by rfl) (.cons (by rfl) (.cons (by rfl) (.cons (by rfl) (.cons (by (intro _ _; exact ⟨rfl, rfl, rfl, rfl, rfl, trivial⟩)) (.cons (by exact congrArg not hu) (.cons (by exact decide_eq_false (by omega)) (.cons (by exact decide_eq_false (by omega)) (.cons (by exact decide_eq_false ho) (.cons (by exact decide_eq_true hq) (.cons (by rfl) .nil))))))))))))))))) (Nat.le_of_ble_eq_true (by kernel_rfl))

set_option maxHeartbeats 2000000 in
theorem fits_ok (P B S U n b m x id : Int) (M : Nat) (T : Nat → Sl) (h2 : P2 M) (hf : free M T) (hx : x ≠ 0) (hx2 : ¬ U < x) (hu : gtU M T id = true) (hp : ¬ P ≤ n) (ew : IntKind.wrap IntKind.u64 (B - b) = B - b) (hb : ¬ B - b < x) (ho : ¬ gtO M T id < gtB M T id) (hq : ¬ IntKind.wrap IntKind.u64 (gtO M T id - gtB M T id) < x) : FnOk Try.prog 28 ([p0, u32A id, uA x]) (gaR P B S U n b m M T) (iA 0) ([.gone, .gone, .gone]) :=
  fn_run Gad4_ok Try.func28 (orc := ⟨[false, false, false, false, false, false, false, false], []⟩) (obl := [false = false,
      (x == (0 : Int)) = false,
      decide (x > U) = false,
      P2 M,
      free M (slOf (gS T)),
      (0 : Nat) = (0 : Nat),
      id = id,
      m = m,
      (64 : Int) = (64 : Int),
      M = M,
      ∀ (i : Nat), i < M → Sl.id (T i) = Sl.id (slOf (gS T) i) ∧ Sl.us (T i) = Sl.us (slOf (gS T) i) ∧ Sl.pk (T i) = Sl.pk (slOf (gS T) i) ∧ Sl.bt (T i) = Sl.bt (slOf (gS T) i) ∧ Sl.mo (T i) = Sl.mo (slOf (gS T) i) ∧ True,
      (!gtU M (slOf (gS T)) id) = false,
      decide (n ≥ P) = false,
      decide (x > IntKind.wrap IntKind.u64 (B - b)) = false,
      decide (gtB M (slOf (gS T)) id > gtO M (slOf (gS T)) id) = false,
      decide (x > IntKind.wrap IntKind.u64 (gtO M (slOf (gS T)) id - gtB M (slOf (gS T)) id)) = false,
      (0 : Int) = (0 : Int)]) (by kernel_rfl) (.cons (by rfl) (.cons (by exact decide_eq_false (by omega)) (.cons (by exact decide_eq_false (by omega)) (.cons (by assumption) (.cons (by assumption) (.cons (by rfl) (.cons (by rfl) (.cons (by rfl) (.cons (by rfl) (.cons (by rfl) (.cons (by (intro _ _; exact ⟨rfl, rfl, rfl, rfl, rfl, trivial⟩)) (.cons (by exact congrArg not hu) (.cons (by exact decide_eq_false (by omega)) (.cons (by exact decide_eq_false (by omega)) (.cons (by exact decide_eq_false ho) (.cons (by exact decide_eq_false hq) (.cons (by rfl) .nil))))))))))))))))) (Nat.le_of_ble_eq_true (by kernel_rfl))

set_option maxHeartbeats 2000000 in
theorem in_f (P B S U n b m x id : Int) (M : Nat) (T : Nat → Sl) (h2 : P2 M) (hf : free M T) (hu : gtU M T id = true) : FnOk Try.prog 27 ([p0, u32A id, uA x]) (gaW P B S U n b m M T) (.any) (gaW P B S U (IntKind.wrap .i64 (n + 1)) (IntKind.wrap .u64 (b + x)) m M (setT M T id (IntKind.wrap .i64 (gtP M T id + 1)) (IntKind.wrap .u64 (gtB M T id + x)) (gtO M T id))) :=
  fn_run Gad4_ok Try.func27 (orc := ⟨[], []⟩) (obl := [P2 M,
      free M (slOf (gS T)),
      (0 : Nat) = (0 : Nat),
      id = id,
      m = m,
      (64 : Int) = (64 : Int),
      M = M,
      ∀ (i : Nat), i < M → Sl.id (T i) = Sl.id (slOf (gS T) i) ∧ Sl.us (T i) = Sl.us (slOf (gS T) i) ∧ Sl.pk (T i) = Sl.pk (slOf (gS T) i) ∧ Sl.bt (T i) = Sl.bt (slOf (gS T) i) ∧ Sl.mo (T i) = Sl.mo (slOf (gS T) i) ∧ True,
      P2 M,
      free M (slOf (gS T)),
      gtU M (slOf (gS T)) id = true,
      (0 : Nat) = (0 : Nat),
      id = id,
      IntKind.wrap IntKind.i64 (gtP M (slOf (gS T)) id + (1 : Int)) = IntKind.wrap IntKind.i64 (gtP M (slOf (gS T)) id + (1 : Int)),
      IntKind.wrap IntKind.u64 (gtB M (slOf (gS T)) id + x) = IntKind.wrap IntKind.u64 (gtB M (slOf (gS T)) id + x),
      gtO M (slOf (gS T)) id = gtO M (slOf (gS T)) id,
      m = m,
      (64 : Int) = (64 : Int),
      M = M,
      ∀ (i : Nat), i < M → Sl.id (T i) = Sl.id (slOf (gS T) i) ∧ Sl.us (T i) = Sl.us (slOf (gS T) i) ∧ Sl.pk (T i) = Sl.pk (slOf (gS T) i) ∧ Sl.bt (T i) = Sl.bt (slOf (gS T) i) ∧ Sl.mo (T i) = Sl.mo (slOf (gS T) i) ∧ True,
      ∀ (i : Nat), i < M → (true && (true && (true && (true && (true && true))))) = true,
      P = P,
      B = B,
      S = S,
      U = U,
      IntKind.wrap IntKind.i64 (n + (1 : Int)) = IntKind.wrap IntKind.i64 (n + (1 : Int)),
      IntKind.wrap IntKind.u64 (b + x) = IntKind.wrap IntKind.u64 (b + x),
      (0 : Nat) = (0 : Nat),
      m = m,
      (64 : Int) = (64 : Int),
      M = M,
      ∀ (i : Nat), i < M → Sl.id (setT M (slOf (gS T)) id (IntKind.wrap IntKind.i64 (gtP M (slOf (gS T)) id + (1 : Int))) (IntKind.wrap IntKind.u64 (gtB M (slOf (gS T)) id + x)) (gtO M (slOf (gS T)) id) i) = Sl.id (setT M T id (IntKind.wrap IntKind.i64 (gtP M T id + (1 : Int))) (IntKind.wrap IntKind.u64 (gtB M T id + x)) (gtO M T id) i) ∧ Sl.us (setT M (slOf (gS T)) id (IntKind.wrap IntKind.i64 (gtP M (slOf (gS T)) id + (1 : Int))) (IntKind.wrap IntKind.u64 (gtB M (slOf (gS T)) id + x)) (gtO M (slOf (gS T)) id) i) = Sl.us (setT M T id (IntKind.wrap IntKind.i64 (gtP M T id + (1 : Int))) (IntKind.wrap IntKind.u64 (gtB M T id + x)) (gtO M T id) i) ∧ Sl.pk (setT M (slOf (gS T)) id (IntKind.wrap IntKind.i64 (gtP M (slOf (gS T)) id + (1 : Int))) (IntKind.wrap IntKind.u64 (gtB M (slOf (gS T)) id + x)) (gtO M (slOf (gS T)) id) i) = Sl.pk (setT M T id (IntKind.wrap IntKind.i64 (gtP M T id + (1 : Int))) (IntKind.wrap IntKind.u64 (gtB M T id + x)) (gtO M T id) i) ∧ Sl.bt (setT M (slOf (gS T)) id (IntKind.wrap IntKind.i64 (gtP M (slOf (gS T)) id + (1 : Int))) (IntKind.wrap IntKind.u64 (gtB M (slOf (gS T)) id + x)) (gtO M (slOf (gS T)) id) i) = Sl.bt (setT M T id (IntKind.wrap IntKind.i64 (gtP M T id + (1 : Int))) (IntKind.wrap IntKind.u64 (gtB M T id + x)) (gtO M T id) i) ∧ Sl.mo (setT M (slOf (gS T)) id (IntKind.wrap IntKind.i64 (gtP M (slOf (gS T)) id + (1 : Int))) (IntKind.wrap IntKind.u64 (gtB M (slOf (gS T)) id + x)) (gtO M (slOf (gS T)) id) i) = Sl.mo (setT M T id (IntKind.wrap IntKind.i64 (gtP M T id + (1 : Int))) (IntKind.wrap IntKind.u64 (gtB M T id + x)) (gtO M T id) i) ∧ True]) (by kernel_rfl) (.cons (by assumption) (.cons (by assumption) (.cons (by rfl) (.cons (by rfl) (.cons (by rfl) (.cons (by rfl) (.cons (by rfl) (.cons (by (intro _ _; exact ⟨rfl, rfl, rfl, rfl, rfl, trivial⟩)) (.cons (by assumption) (.cons (by assumption) (.cons (by assumption) (.cons (by rfl) (.cons (by rfl) (.cons (by rfl) (.cons (by rfl) (.cons (by rfl) (.cons (by rfl) (.cons (by rfl) (.cons (by rfl) (.cons (by (intro _ _; exact ⟨rfl, rfl, rfl, rfl, rfl, trivial⟩)) (.cons (by (intro _ _; rfl)) (.cons (by rfl) (.cons (by rfl) (.cons (by rfl) (.cons (by rfl) (.cons (by rfl) (.cons (by rfl) (.cons (by rfl) (.cons (by rfl) (.cons (by rfl) (.cons (by rfl) (.cons (by (intro _ _; exact ⟨rfl, rfl, rfl, rfl, rfl, trivial⟩)) .nil)))))))))))))))))))))))))))))))) (Nat.le_of_ble_eq_true (by kernel_rfl))

set_option maxHeartbeats 2000000 in
theorem tot_f (P B S U n b m : Int) (M : Nat) (T : Nat → Sl) : FnOk Try.prog 10 ([p0]) (gaR P B S U n b m M T) (.tup [.one (.val (.int .i64 n)), .one (.val (.int .u64 b))]) ([.gone, .gone, .gone]) :=
  fn_run Gad4_ok Try.func10 (orc := ⟨[false], []⟩) (obl := [false = false,
      n = n,
      b = b]) (by kernel_rfl) (.cons (by rfl) (.cons (by rfl) (.cons (by rfl) .nil))) (Nat.le_of_ble_eq_true (by kernel_rfl))

set_option maxHeartbeats 2000000 in
theorem tot_nil  : FnOk Try.prog 10 ([.nv (.one (.val (.pointer none)))]) ([]) (.tup [.one (.val (.int .i64 0)), .one (.val (.int .u64 0))]) ([]) :=
  fn_run Gad4_ok Try.func10 (orc := ⟨[true], []⟩) (obl := [true = true,
      (0 : Int) = (0 : Int),
      (0 : Int) = (0 : Int)]) (by kernel_rfl) (.cons (by rfl) (.cons (by rfl) (.cons (by rfl) .nil))) (Nat.le_of_ble_eq_true (by kernel_rfl))

set_option maxHeartbeats 2000000 in
theorem own_f (P B S U n b m id : Int) (M : Nat) (T : Nat → Sl) (h2 : P2 M) (hf : free M T) : FnOk Try.prog 14 ([p0, u32A id]) (gaR P B S U n b m M T) (.tup [.one (.val (.int .i64 (gtP M T id))), .one (.val (.int .u64 (gtB M T id)))]) ([.gone, .gone, .gone]) :=
  fn_run Gad4_ok Try.func14 (orc := ⟨[false], []⟩) (obl := [false = false,
      P2 M,
      free M (slOf (gS T)),
      (0 : Nat) = (0 : Nat),
      id = id,
      m = m,
      (64 : Int) = (64 : Int),
      M = M,
      ∀ (i : Nat), i < M → Sl.id (T i) = Sl.id (slOf (gS T) i) ∧ Sl.us (T i) = Sl.us (slOf (gS T) i) ∧ Sl.pk (T i) = Sl.pk (slOf (gS T) i) ∧ Sl.bt (T i) = Sl.bt (slOf (gS T) i) ∧ Sl.mo (T i) = Sl.mo (slOf (gS T) i) ∧ True,
      gtP M (slOf (gS T)) id = gtP M T id,
      gtB M (slOf (gS T)) id = gtB M T id]) (by kernel_rfl) (.cons (by rfl) (.cons (by assumption) (.cons (by assumption) (.cons (by rfl) (.cons (by rfl) (.cons (by rfl) (.cons (by rfl) (.cons (by rfl) (.cons (by (intro _ _; exact ⟨rfl, rfl, rfl, rfl, rfl, trivial⟩)) (.cons (by rfl) (.cons (by rfl) .nil))))))))))) (Nat.le_of_ble_eq_true (by kernel_rfl))

set_option maxHeartbeats 2000000 in
theorem own_nil (id : Int) : FnOk Try.prog 14 ([.nv (.one (.val (.pointer none))), u32A id]) ([]) (.tup [.one (.val (.int .i64 0)), .one (.val (.int .u64 0))]) ([]) :=
  fn_run Gad4_ok Try.func14 (orc := ⟨[true], []⟩) (obl := [true = true,
      (0 : Int) = (0 : Int),
      (0 : Int) = (0 : Int)]) (by kernel_rfl) (.cons (by rfl) (.cons (by rfl) (.cons (by rfl) .nil))) (Nat.le_of_ble_eq_true (by kernel_rfl))

set_option maxHeartbeats 2000000 in
theorem out_nil (id x : Int) : FnOk Try.prog 12 ([.nv (.one (.val (.pointer none))), u32A id, uA x]) ([]) (iA 10) ([]) :=
  fn_run Gad4_ok Try.func12 (orc := ⟨[true], []⟩) (obl := [true = true,
      (10 : Int) = (10 : Int)]) (by kernel_rfl) (.cons (by rfl) (.cons (by rfl) .nil)) (Nat.le_of_ble_eq_true (by kernel_rfl))

set_option maxHeartbeats 2000000 in
theorem out_13 (P B S U n b m x id : Int) (M : Nat) (T : Nat → Sl) (h2 : P2 M) (hf : free M T) (hu : gtU M T id = false) : FnOk Try.prog 12 ([p0, u32A id, uA x]) (gaW P B S U n b m M T) (iA 13) (gaW P B S U n b m M T) :=
  fn_run Gad4_ok Try.func12 (orc := ⟨[false, true], []⟩) (obl := [false = false,
      P2 M,
      free M (slOf (gS T)),
      (0 : Nat) = (0 : Nat),
      id = id,
      m = m,
      (64 : Int) = (64 : Int),
      M = M,
      ∀ (i : Nat), i < M → Sl.id (T i) = Sl.id (slOf (gS T) i) ∧ Sl.us (T i) = Sl.us (slOf (gS T) i) ∧ Sl.pk (T i) = Sl.pk (slOf (gS T) i) ∧ Sl.bt (T i) = Sl.bt (slOf (gS T) i) ∧ Sl.mo (T i) = Sl.mo (slOf (gS T) i) ∧ True,
      (!gtU M (slOf (gS T)) id) = true,
      (13 : Int) = (13 : Int),
      P = P,
      B = B,
      S = S,
      U = U,
      n = n,
      b = b,
      (0 : Nat) = (0 : Nat),
      m = m,
      (64 : Int) = (64 : Int),
      M = M,
      ∀ (i : Nat), i < M → Sl.id (T i) = Sl.id (T i) ∧ Sl.us (T i) = Sl.us (T i) ∧ Sl.pk (T i) = Sl.pk (T i) ∧ Sl.bt (T i) = Sl.bt (T i) ∧ Sl.mo (T i) = Sl.mo (T i) ∧ True]) (by kernel_rfl) (.cons (by rfl) (.cons (by assumption) (.cons (by assumption) (.cons (by rfl) (.cons (by rfl) (.cons (by rfl) (.cons (by rfl) (.cons (by rfl) (.cons (by (intro _ _; exact ⟨rfl, rfl, rfl, rfl, rfl, trivial⟩)) (.cons (by exact congrArg not hu) (.cons (by rfl) (.cons (by rfl) (.cons (by rfl) (.cons (by rfl) (.cons (by rfl) (.cons (by rfl) (.cons (by rfl) (.cons (by rfl) (.cons (by rfl) (.cons (by rfl) (.cons (by rfl) (.cons (by (simp; done)) .nil)))))))))))))))))))))) (Nat.le_of_ble_eq_true (by kernel_rfl))

set_option maxHeartbeats 2000000 in
theorem out_9 (P B S U n b m x id : Int) (M : Nat) (T : Nat → Sl) (h2 : P2 M) (hf : free M T) (hu : gtU M T id = true) (he : gtP M T id = 0) : FnOk Try.prog 12 ([p0, u32A id, uA x]) (gaW P B S U n b m M T) (iA 9) (gaW P B S U n b m M T) :=
  fn_run Gad4_ok Try.func12 (orc := ⟨[false, false, true, true], []⟩) (obl := [false = false,
      P2 M,
      free M (slOf (gS T)),
      (0 : Nat) = (0 : Nat),
      id = id,
      m = m,
      (64 : Int) = (64 : Int),
      M = M,
      ∀ (i : Nat), i < M → Sl.id (T i) = Sl.id (slOf (gS T) i) ∧ Sl.us (T i) = Sl.us (slOf (gS T) i) ∧ Sl.pk (T i) = Sl.pk (slOf (gS T) i) ∧ Sl.bt (T i) = Sl.bt (slOf (gS T) i) ∧ Sl.mo (T i) = Sl.mo (slOf (gS T) i) ∧ True,
      (!gtU M (slOf (gS T)) id) = false,
      (gtP M (slOf (gS T)) id == (0 : Int)) = true,
      true = true,
      (9 : Int) = (9 : Int),
      P = P,
      B = B,
      S = S,
      U = U,
      n = n,
      b = b,
      (0 : Nat) = (0 : Nat),
      m = m,
      (64 : Int) = (64 : Int),
      M = M,
      ∀ (i : Nat), i < M → Sl.id (T i) = Sl.id (T i) ∧ Sl.us (T i) = Sl.us (T i) ∧ Sl.pk (T i) = Sl.pk (T i) ∧ Sl.bt (T i) = Sl.bt (T i) ∧ Sl.mo (T i) = Sl.mo (T i) ∧ True]) (by kernel_rfl) (.cons (by rfl) (.cons (by assumption) (.cons (by assumption) (.cons (by rfl) (.cons (by rfl) (.cons (by rfl) (.cons (by rfl) (.cons (by rfl) (.cons (by (intro _ _; exact ⟨rfl, rfl, rfl, rfl, rfl, trivial⟩)) (.cons (by exact congrArg not hu) (.cons (by exact beq_iff_eq.2 he) (.cons (by rfl) (.cons (by rfl) (.cons (by rfl) (.cons (by rfl) (.cons (by rfl) (.cons (by rfl) (.cons (by rfl) (.cons (by rfl) (.cons (by rfl) (.cons (by rfl) (.cons (by rfl) (.cons (by rfl) (.cons (by (simp; done)) .nil)))))))))))))))))))))))) (Nat.le_of_ble_eq_true (by kernel_rfl))

set_option maxHeartbeats 2000000 in
theorem out_9b (P B S U n b m x id : Int) (M : Nat) (T : Nat → Sl) (h2 : P2 M) (hf : free M T) (hu : gtU M T id = true) (hx : gtP M T id ≠ 0) (hb : gtB M T id < x) : FnOk Try.prog 12 ([p0, u32A id, uA x]) (gaW P B S U n b m M T) (iA 9) (gaW P B S U n b m M T) :=
  fn_run Gad4_ok Try.func12 (orc := ⟨[false, false, false, true], []⟩) (obl := [false = false,
      P2 M,
      free M (slOf (gS T)),
      (0 : Nat) = (0 : Nat),
      id = id,
      m = m,
      (64 : Int) = (64 : Int),
      M = M,
      ∀ (i : Nat), i < M → Sl.id (T i) = Sl.id (slOf (gS T) i) ∧ Sl.us (T i) = Sl.us (slOf (gS T) i) ∧ Sl.pk (T i) = Sl.pk (slOf (gS T) i) ∧ Sl.bt (T i) = Sl.bt (slOf (gS T) i) ∧ Sl.mo (T i) = Sl.mo (slOf (gS T) i) ∧ True,
      (!gtU M (slOf (gS T)) id) = false,
      (gtP M (slOf (gS T)) id == (0 : Int)) = false,
      decide (gtB M (slOf (gS T)) id < x) = true,
      (9 : Int) = (9 : Int),
      P = P,
      B = B,
      S = S,
      U = U,
      n = n,
      b = b,
      (0 : Nat) = (0 : Nat),
      m = m,
      (64 : Int) = (64 : Int),
      M = M,
      ∀ (i : Nat), i < M → Sl.id (T i) = Sl.id (T i) ∧ Sl.us (T i) = Sl.us (T i) ∧ Sl.pk (T i) = Sl.pk (T i) ∧ Sl.bt (T i) = Sl.bt (T i) ∧ Sl.mo (T i) = Sl.mo (T i) ∧ True]) (by kernel_rfl) (.cons (by rfl) (.cons (by assumption) (.cons (by assumption) (.cons (by rfl) (.cons (by rfl) (.cons (by rfl) (.cons (by rfl) (.cons (by rfl) (.cons (by (intro _ _; exact ⟨rfl, rfl, rfl, rfl, rfl, trivial⟩)) (.cons (by exact congrArg not hu) (.cons (by exact beq_eq_false_iff_ne.2 hx) (.cons (by exact decide_eq_true hb) (.cons (by rfl) (.cons (by rfl) (.cons (by rfl) (.cons (by rfl) (.cons (by rfl) (.cons (by rfl) (.cons (by rfl) (.cons (by rfl) (.cons (by rfl) (.cons (by rfl) (.cons (by rfl) (.cons (by (simp; done)) .nil)))))))))))))))))))))))) (Nat.le_of_ble_eq_true (by kernel_rfl))

set_option maxHeartbeats 2000000 in
theorem out_ok (P B S U n b m x id : Int) (M : Nat) (T : Nat → Sl) (h2 : P2 M) (hf : free M T) (hu : gtU M T id = true) (hx : gtP M T id ≠ 0) (hb : ¬ gtB M T id < x) : FnOk Try.prog 12 ([p0, u32A id, uA x]) (gaW P B S U n b m M T) (iA 0) (gaW P B S U (IntKind.wrap .i64 (n - 1)) (IntKind.wrap .u64 (b - x)) m M (setT M T id (IntKind.wrap .i64 (gtP M T id - 1)) (IntKind.wrap .u64 (gtB M T id - x)) (gtO M T id))) :=
  fn_run Gad4_ok Try.func12 (orc := ⟨[false, false, false, false], []⟩) (obl := [false = false,
      P2 M,
      free M (slOf (gS T)),
      (0 : Nat) = (0 : Nat),
      id = id,
      m = m,
      (64 : Int) = (64 : Int),
      M = M,
      ∀ (i : Nat), i < M → Sl.id (T i) = Sl.id (slOf (gS T) i) ∧ Sl.us (T i) = Sl.us (slOf (gS T) i) ∧ Sl.pk (T i) = Sl.pk (slOf (gS T) i) ∧ Sl.bt (T i) = Sl.bt (slOf (gS T) i) ∧ Sl.mo (T i) = Sl.mo (slOf (gS T) i) ∧ True,
      (!gtU M (slOf (gS T)) id) = false,
      (gtP M (slOf (gS T)) id == (0 : Int)) = false,
      decide (gtB M (slOf (gS T)) id < x) = false,
      P2 M,
      free M (slOf (gS T)),
      gtU M (slOf (gS T)) id = true,
      (0 : Nat) = (0 : Nat),
      id = id,
      IntKind.wrap IntKind.i64 (gtP M (slOf (gS T)) id - (1 : Int)) = IntKind.wrap IntKind.i64 (gtP M (slOf (gS T)) id - (1 : Int)),
      IntKind.wrap IntKind.u64 (gtB M (slOf (gS T)) id - x) = IntKind.wrap IntKind.u64 (gtB M (slOf (gS T)) id - x),
      gtO M (slOf (gS T)) id = gtO M (slOf (gS T)) id,
      m = m,
      (64 : Int) = (64 : Int),
      M = M,
      ∀ (i : Nat), i < M → Sl.id (T i) = Sl.id (slOf (gS T) i) ∧ Sl.us (T i) = Sl.us (slOf (gS T) i) ∧ Sl.pk (T i) = Sl.pk (slOf (gS T) i) ∧ Sl.bt (T i) = Sl.bt (slOf (gS T) i) ∧ Sl.mo (T i) = Sl.mo (slOf (gS T) i) ∧ True,
      ∀ (i : Nat), i < M → (true && (true && (true && (true && (true && true))))) = true,
      (0 : Int) = (0 : Int),
      P = P,
      B = B,
      S = S,
      U = U,
      IntKind.wrap IntKind.i64 (n - (1 : Int)) = IntKind.wrap IntKind.i64 (n - (1 : Int)),
      IntKind.wrap IntKind.u64 (b - x) = IntKind.wrap IntKind.u64 (b - x),
      (0 : Nat) = (0 : Nat),
      m = m,
      (64 : Int) = (64 : Int),
      M = M,
      ∀ (i : Nat), i < M → Sl.id (setT M (slOf (gS T)) id (IntKind.wrap IntKind.i64 (gtP M (slOf (gS T)) id - (1 : Int))) (IntKind.wrap IntKind.u64 (gtB M (slOf (gS T)) id - x)) (gtO M (slOf (gS T)) id) i) = Sl.id (setT M T id (IntKind.wrap IntKind.i64 (gtP M T id - (1 : Int))) (IntKind.wrap IntKind.u64 (gtB M T id - x)) (gtO M T id) i) ∧ Sl.us (setT M (slOf (gS T)) id (IntKind.wrap IntKind.i64 (gtP M (slOf (gS T)) id - (1 : Int))) (IntKind.wrap IntKind.u64 (gtB M (slOf (gS T)) id - x)) (gtO M (slOf (gS T)) id) i) = Sl.us (setT M T id (IntKind.wrap IntKind.i64 (gtP M T id - (1 : Int))) (IntKind.wrap IntKind.u64 (gtB M T id - x)) (gtO M T id) i) ∧ Sl.pk (setT M (slOf (gS T)) id (IntKind.wrap IntKind.i64 (gtP M (slOf (gS T)) id - (1 : Int))) (IntKind.wrap IntKind.u64 (gtB M (slOf (gS T)) id - x)) (gtO M (slOf (gS T)) id) i) = Sl.pk (setT M T id (IntKind.wrap IntKind.i64 (gtP M T id - (1 : Int))) (IntKind.wrap IntKind.u64 (gtB M T id - x)) (gtO M T id) i) ∧ Sl.bt (setT M (slOf (gS T)) id (IntKind.wrap IntKind.i64 (gtP M (slOf (gS T)) id - (1 : Int))) (IntKind.wrap IntKind.u64 (gtB M (slOf (gS T)) id - x)) (gtO M (slOf (gS T)) id) i) = Sl.bt (setT M T id (IntKind.wrap IntKind.i64 (gtP M T id - (1 : Int))) (IntKind.wrap IntKind.u64 (gtB M T id - x)) (gtO M T id) i) ∧ Sl.mo (setT M (slOf (gS T)) id (IntKind.wrap IntKind.i64 (gtP M (slOf (gS T)) id - (1 : Int))) (IntKind.wrap IntKind.u64 (gtB M (slOf (gS T)) id - x)) (gtO M (slOf (gS T)) id) i) = Sl.mo (setT M T id (IntKind.wrap IntKind.i64 (gtP M T id - (1 : Int))) (IntKind.wrap IntKind.u64 (gtB M T id - x)) (gtO M T id) i) ∧ True]) (by kernel_rfl) (.cons (by rfl) (.cons (by assumption) (.cons (by assumption) (.cons (by rfl) (.cons (by rfl) (.cons (by rfl) (.cons (by rfl) (.cons (by rfl) (.cons (by (intro _ _; exact ⟨rfl, rfl, rfl, rfl, rfl, trivial⟩)) (.cons (by exact congrArg not hu) (.cons (by exact beq_eq_false_iff_ne.2 hx) (.cons (by exact decide_eq_false hb) (.cons (by assumption) (.cons (by assumption) (.cons (by assumption) (.cons (by rfl) (.cons (by rfl) (.cons (by rfl) (.cons (by rfl) (.cons (by rfl) (.cons (by rfl) (.cons (by rfl) (.cons (by rfl) (.cons (by (intro _ _; exact ⟨rfl, rfl, rfl, rfl, rfl, trivial⟩)) (.cons (by (intro _ _; rfl)) (.cons (by rfl) (.cons (by rfl) (.cons (by rfl) (.cons (by rfl) (.cons (by rfl) (.cons (by rfl) (.cons (by rfl) (.cons (by rfl) (.cons (by rfl) (.cons (by rfl) (.cons (by rfl) (.cons (by (intro _ _; exact ⟨rfl, rfl, rfl, rfl, rfl, trivial⟩)) .nil))))))))))))))))))))))))))))))))))))) (Nat.le_of_ble_eq_true (by kernel_rfl))
end Go.Proofs.Ytmhkbepnankopaa

/- admit: fits, in, Total, Own, Out as specifications. No condition. -/
namespace Go.Proofs.Ytmhkbepnankopaa
set_option linter.unusedVariables false
set_option linter.unusedSimpArgs false
open Go.RowKit E
structure Ga where
  P : Int
  B : Int
  S : Int
  U : Int
  n : Int
  b : Int
  m : Int
  M : Nat
  T : Nat → Sl
abbrev Ga.R (x : Ga) : List Seg := gaR x.P x.B x.S x.U x.n x.b x.m x.M x.T
abbrev Ga.W (x : Ga) : List Seg := gaW x.P x.B x.S x.U x.n x.b x.m x.M x.T
/-- What an operation changes of a gate. -/
abbrev Ga.norm (y x : Ga) : Ga := ⟨x.P, x.B, x.S, x.U, y.n, y.b, x.m, x.M, y.T⟩
/-- The gate at a pointer. -/
def gaAt (mem : List Seg) (h : Nat) : Option Ga :=
  match boxAt mem h with
  | some [_, _, _, _, .val (.int .i64 P), .val (.int .u64 B), .val (.int .i64 S), .val (.int .u64 U), _, _, _, .val (.int .i64 n), .val (.int .u64 b), .ptr h2 0] => match tbAt mem h2 with
    | some (m, M, g) => some ⟨P, B, S, U, n, b, m, M, slOf g⟩
    | none => none
  | _ => none
/-- What Ga's number tells: 0, or why not. -/
def Ga.fit (x : Ga) (id k : Int) : Int :=
  if k = 0 ∨ x.U < k then 12 else if gtU x.M x.T id = false then 13 else if x.P ≤ x.n then 14 else if x.B - x.b < k then 15
  else if gtO x.M x.T id < gtB x.M x.T id ∨ IntKind.wrap IntKind.u64 (gtO x.M x.T id - gtB x.M x.T id) < k then 16 else 0
def Ga.ok (x : Ga) : Prop := P2 x.M ∧ free x.M x.T
def Ga.ok2 (x : Ga) : Prop := 0 ≤ x.b ∧ x.b ≤ x.B ∧ x.B ≤ 18446744073709551615
theorem fnFits (x : Ga) (id k : Int) (h : x.ok) (h2 : x.ok2) : FnOk Try.prog 28 [p0, u32A id, uA k] x.R (iA (x.fit id k)) [.gone, .gone, .gone] := by
  obtain ⟨k1, k2⟩ := h
  obtain ⟨j1, j2, j3⟩ := h2
  have ew : IntKind.wrap IntKind.u64 (x.B - x.b) = x.B - x.b := by
    show (x.B - x.b) % 18446744073709551616 = _
    omega
  unfold Ga.fit
  by_cases a : k = 0
  · rw [if_pos (.inl a)]; exact fits_0 _ _ _ _ _ _ _ _ _ _ _ k1 k2 a
  by_cases a2 : x.U < k
  · rw [if_pos (.inr a2)]; exact fits_u _ _ _ _ _ _ _ _ _ _ _ k1 k2 a a2
  rw [if_neg (by omega)]
  cases hu : gtU x.M x.T id
  · rw [if_pos rfl]; exact fits_13 _ _ _ _ _ _ _ _ _ _ _ k1 k2 a a2 hu
  rw [if_neg (by simp)]
  by_cases a3 : x.P ≤ x.n
  · rw [if_pos a3]; exact fits_14 _ _ _ _ _ _ _ _ _ _ _ k1 k2 a a2 hu a3
  rw [if_neg a3]
  by_cases a4 : x.B - x.b < k
  · rw [if_pos a4]; exact fits_15 _ _ _ _ _ _ _ _ _ _ _ k1 k2 a a2 hu a3 ew a4
  rw [if_neg a4]
  by_cases a5 : gtO x.M x.T id < gtB x.M x.T id
  · rw [if_pos (.inl a5)]; exact fits_16 _ _ _ _ _ _ _ _ _ _ _ k1 k2 a a2 hu a3 ew a4 a5
  by_cases a6 : IntKind.wrap IntKind.u64 (gtO x.M x.T id - gtB x.M x.T id) < k
  · rw [if_pos (.inr a6)]; exact fits_17 _ _ _ _ _ _ _ _ _ _ _ k1 k2 a a2 hu a3 ew a4 a5 a6
  rw [if_neg (by rintro (q | q); exact a5 q; exact a6 q)]
  exact fits_ok _ _ _ _ _ _ _ _ _ _ _ k1 k2 a a2 hu a3 ew a4 a5 a6
def gFits : List SV → List Seg → Option (CS × List Prop)
  | [.nv (.one (.ptr h 0)), .nv (.one (.val (.int .u32 id))), .nv (.one (.val (.int .u64 k)))], mem => match gaAt mem h with
    | some x => some (⟨[p0, u32A id, uA k], x.R, iA (x.fit id k), [.gone, .gone, .gone]⟩, [x.ok, x.ok2])
    | none => none
  | [.nv (.one (.val (.pointer none))), .nv (.one (.val (.int .u32 id))), .nv (.one (.val (.int .u64 k)))], mem => some (⟨[.nv (.one (.val (.pointer none))), .nv (.one (.val (.int .u32 id))), .nv (.one (.val (.int .u64 k)))], [], iA 10, []⟩, [])
  | _, _ => none
theorem spFits : SpOk Try.prog 28 (.lift gFits) := by
  intro args mem cs obl h ho
  unfold gFits at h
  split at h
  · split at h
    · simp only [Option.some.injEq, Prod.mk.injEq] at h
      obtain ⟨rfl, rfl⟩ := h
      exact fnFits _ _ _ ho.1 ho.2.1
    · cases h
  · simp only [Option.some.injEq, Prod.mk.injEq] at h
    obtain ⟨rfl, rfl⟩ := h
    exact fits_nil _ _
  · cases h
/-- One packet more. -/
def Ga.inn (x : Ga) (id k : Int) : Ga := { x with n := IntKind.wrap .i64 (x.n + 1), b := IntKind.wrap .u64 (x.b + k), T := setT x.M x.T id (IntKind.wrap .i64 (gtP x.M x.T id + 1)) (IntKind.wrap .u64 (gtB x.M x.T id + k)) (gtO x.M x.T id) }
def gIn17 : List SV → List Seg → Option (CS × List Prop)
  | [.nv (.one (.ptr h 0)), .nv (.one (.val (.int .u32 id))), .nv (.one (.val (.int .u64 k)))], mem => match gaAt mem h with
    | some x => some (⟨[p0, u32A id, uA k], x.W, .any, (x.inn id k).W⟩, [x.ok, gtU x.M x.T id = true])
    | none => none
  | _, _ => none
theorem spIn17 : SpOk Try.prog 27 (.lift gIn17) := by
  intro args mem cs obl h ho
  unfold gIn17 at h
  split at h
  · split at h
    · simp only [Option.some.injEq, Prod.mk.injEq] at h
      obtain ⟨rfl, rfl⟩ := h
      exact in_f _ _ _ _ _ _ _ _ _ _ _ ho.1.1 ho.1.2 ho.2.1
    · cases h
  · cases h
def gTot17 : List SV → List Seg → Option (CS × List Prop)
  | [.nv (.one (.ptr h 0))], mem => match gaAt mem h with
    | some x => some (⟨[p0], x.R, .tup [.one (.val (.int .i64 x.n)), .one (.val (.int .u64 x.b))], [.gone, .gone, .gone]⟩, [])
    | none => none
  | [.nv (.one (.val (.pointer none)))], mem => some (⟨[.nv (.one (.val (.pointer none)))], [], .tup [.one (.val (.int .i64 0)), .one (.val (.int .u64 0))], []⟩, [])
  | _, _ => none
theorem spTot17 : SpOk Try.prog 10 (.lift gTot17) := by
  intro args mem cs obl h ho
  unfold gTot17 at h
  split at h
  · split at h
    · simp only [Option.some.injEq, Prod.mk.injEq] at h
      obtain ⟨rfl, rfl⟩ := h
      exact tot_f _ _ _ _ _ _ _ _ _
    · cases h
  · simp only [Option.some.injEq, Prod.mk.injEq] at h
    obtain ⟨rfl, rfl⟩ := h
    exact tot_nil
  · cases h
def gOwn17 : List SV → List Seg → Option (CS × List Prop)
  | [.nv (.one (.ptr h 0)), .nv (.one (.val (.int .u32 id)))], mem => match gaAt mem h with
    | some x => some (⟨[p0, u32A id], x.R, .tup [.one (.val (.int .i64 (gtP x.M x.T id))), .one (.val (.int .u64 (gtB x.M x.T id)))], [.gone, .gone, .gone]⟩, [x.ok])
    | none => none
  | [.nv (.one (.val (.pointer none))), .nv (.one (.val (.int .u32 id)))], mem => some (⟨[.nv (.one (.val (.pointer none))), .nv (.one (.val (.int .u32 id)))], [], .tup [.one (.val (.int .i64 0)), .one (.val (.int .u64 0))], []⟩, [])
  | _, _ => none
theorem spOwn17 : SpOk Try.prog 14 (.lift gOwn17) := by
  intro args mem cs obl h ho
  unfold gOwn17 at h
  split at h
  · split at h
    · simp only [Option.some.injEq, Prod.mk.injEq] at h
      obtain ⟨rfl, rfl⟩ := h
      exact own_f _ _ _ _ _ _ _ _ _ _ ho.1.1 ho.1.2
    · cases h
  · simp only [Option.some.injEq, Prod.mk.injEq] at h
    obtain ⟨rfl, rfl⟩ := h
    exact own_nil _
  · cases h
def Ga.outE (x : Ga) (id k : Int) : Int := if gtU x.M x.T id = false then 13 else if gtP x.M x.T id = 0 ∨ gtB x.M x.T id < k then 9 else 0
/-- One packet less, if it may go. -/
def Ga.out (x : Ga) (id k : Int) : Ga := if x.outE id k = 0 then { x with n := IntKind.wrap .i64 (x.n - 1), b := IntKind.wrap .u64 (x.b - k), T := setT x.M x.T id (IntKind.wrap .i64 (gtP x.M x.T id - 1)) (IntKind.wrap .u64 (gtB x.M x.T id - k)) (gtO x.M x.T id) } else x
theorem fnOut17 (x : Ga) (id k : Int) (h : x.ok) : FnOk Try.prog 12 [p0, u32A id, uA k] x.W (iA (x.outE id k)) (x.out id k).W := by
  obtain ⟨k1, k2⟩ := h
  unfold Ga.out
  cases hu : gtU x.M x.T id
  · have e : x.outE id k = 13 := if_pos hu
    rw [e, if_neg (by decide)]; exact out_13 _ _ _ _ _ _ _ _ _ _ _ k1 k2 hu
  by_cases a : gtP x.M x.T id = 0
  · have e : x.outE id k = 9 := by unfold Ga.outE; rw [hu, if_neg (by simp), if_pos (.inl a)]
    rw [e, if_neg (by decide)]; exact out_9 _ _ _ _ _ _ _ _ _ _ _ k1 k2 hu a
  by_cases a2 : gtB x.M x.T id < k
  · have e : x.outE id k = 9 := by unfold Ga.outE; rw [hu, if_neg (by simp), if_pos (.inr a2)]
    rw [e, if_neg (by decide)]; exact out_9b _ _ _ _ _ _ _ _ _ _ _ k1 k2 hu a a2
  have e : x.outE id k = 0 := by unfold Ga.outE; rw [hu, if_neg (by simp), if_neg (by rintro (q | q); exact a q; exact a2 q)]
  rw [e, if_pos rfl]; exact out_ok _ _ _ _ _ _ _ _ _ _ _ k1 k2 hu a a2
theorem out_norm (x : Ga) (id k : Int) : (x.out id k).norm x = x.out id k := by
  unfold Ga.out
  split <;> rfl
def gOut17 : List SV → List Seg → Option (CS × List Prop)
  | [.nv (.one (.ptr h 0)), .nv (.one (.val (.int .u32 id))), .nv (.one (.val (.int .u64 k)))], mem => match gaAt mem h with
    | some x => some (⟨[p0, u32A id, uA k], x.W, iA (x.outE id k), ((x.out id k).norm x).W⟩, [x.ok])
    | none => none
  | [.nv (.one (.val (.pointer none))), .nv (.one (.val (.int .u32 id))), .nv (.one (.val (.int .u64 k)))], mem => some (⟨[.nv (.one (.val (.pointer none))), .nv (.one (.val (.int .u32 id))), .nv (.one (.val (.int .u64 k)))], [], iA 10, []⟩, [])
  | _, _ => none
theorem spOut17 : SpOk Try.prog 12 (.lift gOut17) := by
  intro args mem cs obl h ho
  unfold gOut17 at h
  split at h
  · split at h
    · simp only [Option.some.injEq, Prod.mk.injEq] at h
      obtain ⟨rfl, rfl⟩ := h
      rw [out_norm]; exact fnOut17 _ _ _ ho.1
    · cases h
  · simp only [Option.some.injEq, Prod.mk.injEq] at h
    obtain ⟨rfl, rfl⟩ := h
    exact out_nil _ _
  · cases h
def Gad5 : List (FuncId × Sp) := (28, .lift gFits) :: (27, .lift gIn17) :: (10, .lift gTot17) :: (14, .lift gOwn17) :: (12, .lift gOut17) :: Gad4
theorem Gad5_ok : CtxOk Try.prog Gad5 := ctx_cons (enter_of Try.func28 (by kernel_rfl) (by kernel_rfl)) spFits <|
  ctx_cons (enter_of Try.func27 (by kernel_rfl) (by kernel_rfl)) spIn17 <|
  ctx_cons (enter_of Try.func10 (by kernel_rfl) (by kernel_rfl)) spTot17 <|
  ctx_cons (enter_of Try.func14 (by kernel_rfl) (by kernel_rfl)) spOwn17 <|
  ctx_cons (enter_of Try.func12 (by kernel_rfl) (by kernel_rfl)) spOut17 Gad4_ok
end Go.Proofs.Ytmhkbepnankopaa

/- Runs of Go code, as printed by a program: no condition beyond those that each states. -/
import Derived.Test.YtmhkbepnankopaaAeC
import Derived.Test.YtmhkbepnankopaaChecked
import Derived.KernelRfl
namespace Go.Proofs.Ytmhkbepnankopaa
set_option linter.unusedVariables false
set_option linter.unusedSimpArgs false
set_option maxRecDepth 100000
open Go.RowKit E
attribute [local irreducible] fd homeN reT capU gtP gtB gtO gtU setT shU Ga.fit Ga.may chkF chkA mM putT sI sU idx
set_option maxHeartbeats 2000000 in
theorem rown_n (x : Rg) (id : Int) (hn : x.n ≤ 100) (hi : idx x.F.id id x.n < 0) : FnOk Try.prog 24 ([p0, u32A id]) (x.R) (.tup [.one (.val (.int .i64 0)), .one (.val (.int .u64 0))]) (gone4) :=
  fn_run Gad9_ok Try.func24 (orc := ⟨[true], []⟩) (obl := [Rg.n x ≤ (4611686018427387904 : Nat),
      id = id,
      Rg.n x = Rg.n x,
      ∀ (i : Nat), i < Rg.n x → Fl.id (Rg.F x) i = Fl.id (flOf (gFl (Rg.F x))) i ∧ Fl.co (Rg.F x) i = Fl.co (flOf (gFl (Rg.F x))) i ∧ Fl.bu (Rg.F x) i = Fl.bu (flOf (gFl (Rg.F x))) i ∧ Fl.si (Rg.F x) i = Fl.si (flOf (gFl (Rg.F x))) i ∧ Fl.ca (Rg.F x) i = Fl.ca (flOf (gFl (Rg.F x))) i ∧ True,
      decide (idx (Fl.id (flOf (gFl (Rg.F x)))) id (Rg.n x) < (0 : Int)) = true,
      (0 : Int) = (0 : Int),
      (0 : Int) = (0 : Int)]) (by kernel_rfl) (.cons (by omega) (.cons (by rfl) (.cons (by rfl) (.cons (by (intro _ _; exact ⟨rfl, rfl, rfl, rfl, rfl, trivial⟩)) (.cons (by exact decide_eq_true hi) (.cons (by rfl) (.cons (by rfl) .nil))))))) (Nat.le_of_ble_eq_true (by kernel_rfl))

set_option maxHeartbeats 2000000 in
theorem rown_y (x : Rg) (id : Int) (hn : x.n ≤ 100) (hi : ¬ idx x.F.id id x.n < 0) (k0 : 0 ≤ idx x.F.id id x.n) (k1 : idx x.F.id id x.n < (x.n : Int)) (k2 : (idx x.F.id id x.n).toNat < x.n) : FnOk Try.prog 24 ([p0, u32A id]) (x.R) (.tup [.one (.val (.int .i64 (x.P (idx x.F.id id x.n).toNat))), .one (.val (.int .u64 (x.B (idx x.F.id id x.n).toNat)))]) (gone4) :=
  fn_run Gad9_ok Try.func24 (orc := ⟨[false], []⟩) (obl := [Rg.n x ≤ (4611686018427387904 : Nat),
      id = id,
      Rg.n x = Rg.n x,
      ∀ (i : Nat), i < Rg.n x → Fl.id (Rg.F x) i = Fl.id (flOf (gFl (Rg.F x))) i ∧ Fl.co (Rg.F x) i = Fl.co (flOf (gFl (Rg.F x))) i ∧ Fl.bu (Rg.F x) i = Fl.bu (flOf (gFl (Rg.F x))) i ∧ Fl.si (Rg.F x) i = Fl.si (flOf (gFl (Rg.F x))) i ∧ Fl.ca (Rg.F x) i = Fl.ca (flOf (gFl (Rg.F x))) i ∧ True,
      decide (idx (Fl.id (flOf (gFl (Rg.F x)))) id (Rg.n x) < (0 : Int)) = false,
      (0 : Int) ≤ idx (Fl.id (flOf (gFl (Rg.F x)))) id (Rg.n x),
      idx (Fl.id (flOf (gFl (Rg.F x)))) id (Rg.n x) < (↑(Rg.n x) : Int),
      Int.toNat (idx (Fl.id (flOf (gFl (Rg.F x)))) id (Rg.n x)) < Rg.n x,
      (0 : Int) ≤ idx (Fl.id (flOf (gFl (Rg.F x)))) id (Rg.n x),
      idx (Fl.id (flOf (gFl (Rg.F x)))) id (Rg.n x) < (↑(Rg.n x) : Int),
      Int.toNat (idx (Fl.id (flOf (gFl (Rg.F x)))) id (Rg.n x)) < Rg.n x,
      Rg.P x (Int.toNat (idx (Fl.id (flOf (gFl (Rg.F x)))) id (Rg.n x))) = Rg.P x (Int.toNat (idx (Fl.id (Rg.F x)) id (Rg.n x))),
      Rg.B x (Int.toNat (idx (Fl.id (flOf (gFl (Rg.F x)))) id (Rg.n x))) = Rg.B x (Int.toNat (idx (Fl.id (Rg.F x)) id (Rg.n x)))]) (by kernel_rfl) (.cons (by omega) (.cons (by rfl) (.cons (by rfl) (.cons (by (intro _ _; exact ⟨rfl, rfl, rfl, rfl, rfl, trivial⟩)) (.cons (by exact decide_eq_false hi) (.cons (by assumption) (.cons (by assumption) (.cons (by assumption) (.cons (by assumption) (.cons (by assumption) (.cons (by assumption) (.cons (by rfl) (.cons (by rfl) .nil))))))))))))) (Nat.le_of_ble_eq_true (by kernel_rfl))

set_option maxHeartbeats 2000000 in
theorem rfit_0 (x : Rg) (id k : Int) (hn : x.n ≤ 100) (hx : k = 0) : FnOk Try.prog 36 ([p0, u32A id, uA k]) (x.R) (iA 12) (gone4) :=
  fn_run Gad9_ok Try.func36 (orc := ⟨[true, true], []⟩) (obl := [(k == (0 : Int)) = true,
      true = true,
      (12 : Int) = (12 : Int)]) (by kernel_rfl) (.cons (by exact beq_iff_eq.2 hx) (.cons (by rfl) (.cons (by rfl) .nil))) (Nat.le_of_ble_eq_true (by kernel_rfl))

set_option maxHeartbeats 2000000 in
theorem rfit_u (x : Rg) (id k : Int) (hn : x.n ≤ 100) (hx : k ≠ 0) (hx2 : x.c.U < k) : FnOk Try.prog 36 ([p0, u32A id, uA k]) (x.R) (iA 12) (gone4) :=
  fn_run Gad9_ok Try.func36 (orc := ⟨[false, true], []⟩) (obl := [(k == (0 : Int)) = false,
      decide (k > Cf.U (Rg.c x)) = true,
      (12 : Int) = (12 : Int)]) (by kernel_rfl) (.cons (by exact beq_eq_false_iff_ne.2 hx) (.cons (by exact decide_eq_true hx2) (.cons (by rfl) .nil))) (Nat.le_of_ble_eq_true (by kernel_rfl))

set_option maxHeartbeats 2000000 in
theorem rfit_13 (x : Rg) (id k : Int) (hn : x.n ≤ 100) (hx : k ≠ 0) (hx2 : ¬ x.c.U < k) (hi : idx x.F.id id x.n < 0) : FnOk Try.prog 36 ([p0, u32A id, uA k]) (x.R) (iA 13) (gone4) :=
  fn_run Gad9_ok Try.func36 (orc := ⟨[false, false, true], []⟩) (obl := [(k == (0 : Int)) = false,
      decide (k > Cf.U (Rg.c x)) = false,
      Rg.n x ≤ (4611686018427387904 : Nat),
      id = id,
      Rg.n x = Rg.n x,
      ∀ (i : Nat), i < Rg.n x → Fl.id (Rg.F x) i = Fl.id (flOf (gFl (Rg.F x))) i ∧ Fl.co (Rg.F x) i = Fl.co (flOf (gFl (Rg.F x))) i ∧ Fl.bu (Rg.F x) i = Fl.bu (flOf (gFl (Rg.F x))) i ∧ Fl.si (Rg.F x) i = Fl.si (flOf (gFl (Rg.F x))) i ∧ Fl.ca (Rg.F x) i = Fl.ca (flOf (gFl (Rg.F x))) i ∧ True,
      decide (idx (Fl.id (flOf (gFl (Rg.F x)))) id (Rg.n x) < (0 : Int)) = true,
      (13 : Int) = (13 : Int)]) (by kernel_rfl) (.cons (by exact beq_eq_false_iff_ne.2 hx) (.cons (by exact decide_eq_false hx2) (.cons (by omega) (.cons (by rfl) (.cons (by rfl) (.cons (by (intro _ _; exact ⟨rfl, rfl, rfl, rfl, rfl, trivial⟩)) (.cons (by exact decide_eq_true hi) (.cons (by rfl) .nil)))))))) (Nat.le_of_ble_eq_true (by kernel_rfl))

set_option maxHeartbeats 2000000 in
theorem rfit_14 (x : Rg) (id k : Int) (hn : x.n ≤ 100) (hx : k ≠ 0) (hx2 : ¬ x.c.U < k) (hi : ¬ idx x.F.id id x.n < 0) (k0 : 0 ≤ idx x.F.id id x.n) (k1 : idx x.F.id id x.n < (x.n : Int)) (k2 : (idx x.F.id id x.n).toNat < x.n) (hp : x.c.P ≤ sI x.P x.n) : FnOk Try.prog 36 ([p0, u32A id, uA k]) (x.R) (iA 14) (gone4) :=
  fn_run Gad9_ok Try.func36 (orc := ⟨[false, false, false, true], []⟩) (obl := [(k == (0 : Int)) = false,
      decide (k > Cf.U (Rg.c x)) = false,
      Rg.n x ≤ (4611686018427387904 : Nat),
      id = id,
      Rg.n x = Rg.n x,
      ∀ (i : Nat), i < Rg.n x → Fl.id (Rg.F x) i = Fl.id (flOf (gFl (Rg.F x))) i ∧ Fl.co (Rg.F x) i = Fl.co (flOf (gFl (Rg.F x))) i ∧ Fl.bu (Rg.F x) i = Fl.bu (flOf (gFl (Rg.F x))) i ∧ Fl.si (Rg.F x) i = Fl.si (flOf (gFl (Rg.F x))) i ∧ Fl.ca (Rg.F x) i = Fl.ca (flOf (gFl (Rg.F x))) i ∧ True,
      decide (idx (Fl.id (flOf (gFl (Rg.F x)))) id (Rg.n x) < (0 : Int)) = false,
      Rg.n x ≤ (100 : Nat),
      Rg.n x = Rg.n x,
      Rg.n x = Rg.n x,
      Rg.n x ≤ (100 : Nat),
      (0 : Nat) = (0 : Nat),
      Cf.a (Rg.c x) = Cf.a (Rg.c x),
      Cf.c (Rg.c x) = Cf.c (Rg.c x),
      Cf.l (Rg.c x) = Cf.l (Rg.c x),
      Cf.q (Rg.c x) = Cf.q (Rg.c x),
      Cf.P (Rg.c x) = Cf.P (Rg.c x),
      Cf.B (Rg.c x) = Cf.B (Rg.c x),
      Cf.S (Rg.c x) = Cf.S (Rg.c x),
      Cf.U (Rg.c x) = Cf.U (Rg.c x),
      Cf.r (Rg.c x) = Cf.r (Rg.c x),
      Cf.u (Rg.c x) = Cf.u (Rg.c x),
      Rg.n x = Rg.n x,
      ∀ (i : Nat), i < Rg.n x → Fl.id (Rg.F x) i = Fl.id (flOf (gFl (Rg.F x))) i ∧ Fl.co (Rg.F x) i = Fl.co (flOf (gFl (Rg.F x))) i ∧ Fl.bu (Rg.F x) i = Fl.bu (flOf (gFl (Rg.F x))) i ∧ Fl.si (Rg.F x) i = Fl.si (flOf (gFl (Rg.F x))) i ∧ Fl.ca (Rg.F x) i = Fl.ca (flOf (gFl (Rg.F x))) i ∧ True,
      Rg.n x = Rg.n x,
      ∀ (i : Nat), i < Rg.n x → Rg.P x i = colOf (gI (Rg.P x)) i ∧ True,
      Rg.n x = Rg.n x,
      ∀ (i : Nat), i < Rg.n x → Rg.B x i = colOf (gU64 (Rg.B x)) i ∧ True,
      (0 : Int) ≤ idx (Fl.id (flOf (gFl (Rg.F x)))) id (Rg.n x),
      idx (Fl.id (flOf (gFl (Rg.F x)))) id (Rg.n x) < (↑(Rg.n x) : Int),
      Int.toNat (idx (Fl.id (flOf (gFl (Rg.F x)))) id (Rg.n x)) < Rg.n x,
      decide (sI (Rg.P { c := { a := Cf.a (Rg.c x), c := Cf.c (Rg.c x), l := Cf.l (Rg.c x), q := Cf.q (Rg.c x), P := Cf.P (Rg.c x), B := Cf.B (Rg.c x), S := Cf.S (Rg.c x), U := Cf.U (Rg.c x), r := Cf.r (Rg.c x), u := Cf.u (Rg.c x) }, n := Rg.n x, F := flOf (gFl (Rg.F x)), P := colOf (gI (Rg.P x)), B := colOf (gU64 (Rg.B x)) }) (Rg.n { c := { a := Cf.a (Rg.c x), c := Cf.c (Rg.c x), l := Cf.l (Rg.c x), q := Cf.q (Rg.c x), P := Cf.P (Rg.c x), B := Cf.B (Rg.c x), S := Cf.S (Rg.c x), U := Cf.U (Rg.c x), r := Cf.r (Rg.c x), u := Cf.u (Rg.c x) }, n := Rg.n x, F := flOf (gFl (Rg.F x)), P := colOf (gI (Rg.P x)), B := colOf (gU64 (Rg.B x)) }) ≥ Cf.P (Rg.c x)) = true,
      (14 : Int) = (14 : Int)]) (by kernel_rfl) (.cons (by exact beq_eq_false_iff_ne.2 hx) (.cons (by exact decide_eq_false hx2) (.cons (by omega) (.cons (by rfl) (.cons (by rfl) (.cons (by (intro _ _; exact ⟨rfl, rfl, rfl, rfl, rfl, trivial⟩)) (.cons (by exact decide_eq_false hi) (.cons (by assumption) (.cons (by rfl) (.cons (by rfl) (.cons (by assumption) (.cons (by rfl) (.cons (by rfl) (.cons (by rfl) (.cons (by rfl) (.cons (by rfl) (.cons (by rfl) (.cons (by rfl) (.cons (by rfl) (.cons (by rfl) (.cons (by rfl) (.cons (by rfl) (.cons (by rfl) (.cons (by (intro _ _; exact ⟨rfl, rfl, rfl, rfl, rfl, trivial⟩)) (.cons (by rfl) (.cons (by (intro _ _; exact ⟨rfl, trivial⟩)) (.cons (by rfl) (.cons (by (intro _ _; exact ⟨rfl, trivial⟩)) (.cons (by assumption) (.cons (by assumption) (.cons (by assumption) (.cons (by exact decide_eq_true hp) (.cons (by rfl) .nil))))))))))))))))))))))))))))))))) (Nat.le_of_ble_eq_true (by kernel_rfl))

set_option maxHeartbeats 2000000 in
theorem rfit_15 (x : Rg) (id k : Int) (hn : x.n ≤ 100) (hx : k ≠ 0) (hx2 : ¬ x.c.U < k) (hi : ¬ idx x.F.id id x.n < 0) (k0 : 0 ≤ idx x.F.id id x.n) (k1 : idx x.F.id id x.n < (x.n : Int)) (k2 : (idx x.F.id id x.n).toNat < x.n) (hp : ¬ x.c.P ≤ sI x.P x.n) (hb : IntKind.wrap IntKind.u64 (x.c.B - sU x.B x.n) < k) : FnOk Try.prog 36 ([p0, u32A id, uA k]) (x.R) (iA 15) (gone4) :=
  fn_run Gad9_ok Try.func36 (orc := ⟨[false, false, false, false, true], []⟩) (obl := [(k == (0 : Int)) = false,
      decide (k > Cf.U (Rg.c x)) = false,
      Rg.n x ≤ (4611686018427387904 : Nat),
      id = id,
      Rg.n x = Rg.n x,
      ∀ (i : Nat), i < Rg.n x → Fl.id (Rg.F x) i = Fl.id (flOf (gFl (Rg.F x))) i ∧ Fl.co (Rg.F x) i = Fl.co (flOf (gFl (Rg.F x))) i ∧ Fl.bu (Rg.F x) i = Fl.bu (flOf (gFl (Rg.F x))) i ∧ Fl.si (Rg.F x) i = Fl.si (flOf (gFl (Rg.F x))) i ∧ Fl.ca (Rg.F x) i = Fl.ca (flOf (gFl (Rg.F x))) i ∧ True,
      decide (idx (Fl.id (flOf (gFl (Rg.F x)))) id (Rg.n x) < (0 : Int)) = false,
      Rg.n x ≤ (100 : Nat),
      Rg.n x = Rg.n x,
      Rg.n x = Rg.n x,
      Rg.n x ≤ (100 : Nat),
      (0 : Nat) = (0 : Nat),
      Cf.a (Rg.c x) = Cf.a (Rg.c x),
      Cf.c (Rg.c x) = Cf.c (Rg.c x),
      Cf.l (Rg.c x) = Cf.l (Rg.c x),
      Cf.q (Rg.c x) = Cf.q (Rg.c x),
      Cf.P (Rg.c x) = Cf.P (Rg.c x),
      Cf.B (Rg.c x) = Cf.B (Rg.c x),
      Cf.S (Rg.c x) = Cf.S (Rg.c x),
      Cf.U (Rg.c x) = Cf.U (Rg.c x),
      Cf.r (Rg.c x) = Cf.r (Rg.c x),
      Cf.u (Rg.c x) = Cf.u (Rg.c x),
      Rg.n x = Rg.n x,
      ∀ (i : Nat), i < Rg.n x → Fl.id (Rg.F x) i = Fl.id (flOf (gFl (Rg.F x))) i ∧ Fl.co (Rg.F x) i = Fl.co (flOf (gFl (Rg.F x))) i ∧ Fl.bu (Rg.F x) i = Fl.bu (flOf (gFl (Rg.F x))) i ∧ Fl.si (Rg.F x) i = Fl.si (flOf (gFl (Rg.F x))) i ∧ Fl.ca (Rg.F x) i = Fl.ca (flOf (gFl (Rg.F x))) i ∧ True,
      Rg.n x = Rg.n x,
      ∀ (i : Nat), i < Rg.n x → Rg.P x i = colOf (gI (Rg.P x)) i ∧ True,
      Rg.n x = Rg.n x,
      ∀ (i : Nat), i < Rg.n x → Rg.B x i = colOf (gU64 (Rg.B x)) i ∧ True,
      (0 : Int) ≤ idx (Fl.id (flOf (gFl (Rg.F x)))) id (Rg.n x),
      idx (Fl.id (flOf (gFl (Rg.F x)))) id (Rg.n x) < (↑(Rg.n x) : Int),
      Int.toNat (idx (Fl.id (flOf (gFl (Rg.F x)))) id (Rg.n x)) < Rg.n x,
      decide (sI (Rg.P { c := { a := Cf.a (Rg.c x), c := Cf.c (Rg.c x), l := Cf.l (Rg.c x), q := Cf.q (Rg.c x), P := Cf.P (Rg.c x), B := Cf.B (Rg.c x), S := Cf.S (Rg.c x), U := Cf.U (Rg.c x), r := Cf.r (Rg.c x), u := Cf.u (Rg.c x) }, n := Rg.n x, F := flOf (gFl (Rg.F x)), P := colOf (gI (Rg.P x)), B := colOf (gU64 (Rg.B x)) }) (Rg.n { c := { a := Cf.a (Rg.c x), c := Cf.c (Rg.c x), l := Cf.l (Rg.c x), q := Cf.q (Rg.c x), P := Cf.P (Rg.c x), B := Cf.B (Rg.c x), S := Cf.S (Rg.c x), U := Cf.U (Rg.c x), r := Cf.r (Rg.c x), u := Cf.u (Rg.c x) }, n := Rg.n x, F := flOf (gFl (Rg.F x)), P := colOf (gI (Rg.P x)), B := colOf (gU64 (Rg.B x)) }) ≥ Cf.P (Rg.c x)) = false,
      decide (k > IntKind.wrap IntKind.u64 (Cf.B (Rg.c x) - sU (Rg.B { c := { a := Cf.a (Rg.c x), c := Cf.c (Rg.c x), l := Cf.l (Rg.c x), q := Cf.q (Rg.c x), P := Cf.P (Rg.c x), B := Cf.B (Rg.c x), S := Cf.S (Rg.c x), U := Cf.U (Rg.c x), r := Cf.r (Rg.c x), u := Cf.u (Rg.c x) }, n := Rg.n x, F := flOf (gFl (Rg.F x)), P := colOf (gI (Rg.P x)), B := colOf (gU64 (Rg.B x)) }) (Rg.n { c := { a := Cf.a (Rg.c x), c := Cf.c (Rg.c x), l := Cf.l (Rg.c x), q := Cf.q (Rg.c x), P := Cf.P (Rg.c x), B := Cf.B (Rg.c x), S := Cf.S (Rg.c x), U := Cf.U (Rg.c x), r := Cf.r (Rg.c x), u := Cf.u (Rg.c x) }, n := Rg.n x, F := flOf (gFl (Rg.F x)), P := colOf (gI (Rg.P x)), B := colOf (gU64 (Rg.B x)) }))) = true,
      (15 : Int) = (15 : Int)]) (by kernel_rfl) (.cons (by exact beq_eq_false_iff_ne.2 hx) (.cons (by exact decide_eq_false hx2) (.cons (by omega) (.cons (by rfl) (.cons (by rfl) (.cons (by (intro _ _; exact ⟨rfl, rfl, rfl, rfl, rfl, trivial⟩)) (.cons (by exact decide_eq_false hi) (.cons (by assumption) (.cons (by rfl) (.cons (by rfl) (.cons (by assumption) (.cons (by rfl) (.cons (by rfl) (.cons (by rfl) (.cons (by rfl) (.cons (by rfl) (.cons (by rfl) (.cons (by rfl) (.cons (by rfl) (.cons (by rfl) (.cons (by rfl) (.cons (by rfl) (.cons (by rfl) (.cons (by (intro _ _; exact ⟨rfl, rfl, rfl, rfl, rfl, trivial⟩)) (.cons (by rfl) (.cons (by (intro _ _; exact ⟨rfl, trivial⟩)) (.cons (by rfl) (.cons (by (intro _ _; exact ⟨rfl, trivial⟩)) (.cons (by assumption) (.cons (by assumption) (.cons (by assumption) (.cons (by exact decide_eq_false hp) (.cons (by exact decide_eq_true hb) (.cons (by rfl) .nil)))))))))))))))))))))))))))))))))) (Nat.le_of_ble_eq_true (by kernel_rfl))

set_option maxHeartbeats 2000000 in
theorem rfit_16 (x : Rg) (id k : Int) (hn : x.n ≤ 100) (hx : k ≠ 0) (hx2 : ¬ x.c.U < k) (hi : ¬ idx x.F.id id x.n < 0) (k0 : 0 ≤ idx x.F.id id x.n) (k1 : idx x.F.id id x.n < (x.n : Int)) (k2 : (idx x.F.id id x.n).toNat < x.n) (hp : ¬ x.c.P ≤ sI x.P x.n) (hb : ¬ IntKind.wrap IntKind.u64 (x.c.B - sU x.B x.n) < k) (b0 : 0 ≤ x.B (idx x.F.id id x.n).toNat) (b1 : x.B (idx x.F.id id x.n).toNat ≤ 18446744073709551615) (q0 : 0 ≤ k) (q1 : k ≤ 18446744073709551615) (ho : x.F.ca (idx x.F.id id x.n).toNat < capU (x.B (idx x.F.id id x.n).toNat + k)) : FnOk Try.prog 36 ([p0, u32A id, uA k]) (x.R) (iA 16) (gone4) :=
  fn_run Gad9_ok Try.func36 (orc := ⟨[false, false, false, false, false, true], []⟩) (obl := [(k == (0 : Int)) = false,
      decide (k > Cf.U (Rg.c x)) = false,
      Rg.n x ≤ (4611686018427387904 : Nat),
      id = id,
      Rg.n x = Rg.n x,
      ∀ (i : Nat), i < Rg.n x → Fl.id (Rg.F x) i = Fl.id (flOf (gFl (Rg.F x))) i ∧ Fl.co (Rg.F x) i = Fl.co (flOf (gFl (Rg.F x))) i ∧ Fl.bu (Rg.F x) i = Fl.bu (flOf (gFl (Rg.F x))) i ∧ Fl.si (Rg.F x) i = Fl.si (flOf (gFl (Rg.F x))) i ∧ Fl.ca (Rg.F x) i = Fl.ca (flOf (gFl (Rg.F x))) i ∧ True,
      decide (idx (Fl.id (flOf (gFl (Rg.F x)))) id (Rg.n x) < (0 : Int)) = false,
      Rg.n x ≤ (100 : Nat),
      Rg.n x = Rg.n x,
      Rg.n x = Rg.n x,
      Rg.n x ≤ (100 : Nat),
      (0 : Nat) = (0 : Nat),
      Cf.a (Rg.c x) = Cf.a (Rg.c x),
      Cf.c (Rg.c x) = Cf.c (Rg.c x),
      Cf.l (Rg.c x) = Cf.l (Rg.c x),
      Cf.q (Rg.c x) = Cf.q (Rg.c x),
      Cf.P (Rg.c x) = Cf.P (Rg.c x),
      Cf.B (Rg.c x) = Cf.B (Rg.c x),
      Cf.S (Rg.c x) = Cf.S (Rg.c x),
      Cf.U (Rg.c x) = Cf.U (Rg.c x),
      Cf.r (Rg.c x) = Cf.r (Rg.c x),
      Cf.u (Rg.c x) = Cf.u (Rg.c x),
      Rg.n x = Rg.n x,
      ∀ (i : Nat), i < Rg.n x → Fl.id (Rg.F x) i = Fl.id (flOf (gFl (Rg.F x))) i ∧ Fl.co (Rg.F x) i = Fl.co (flOf (gFl (Rg.F x))) i ∧ Fl.bu (Rg.F x) i = Fl.bu (flOf (gFl (Rg.F x))) i ∧ Fl.si (Rg.F x) i = Fl.si (flOf (gFl (Rg.F x))) i ∧ Fl.ca (Rg.F x) i = Fl.ca (flOf (gFl (Rg.F x))) i ∧ True,
      Rg.n x = Rg.n x,
      ∀ (i : Nat), i < Rg.n x → Rg.P x i = colOf (gI (Rg.P x)) i ∧ True,
      Rg.n x = Rg.n x,
      ∀ (i : Nat), i < Rg.n x → Rg.B x i = colOf (gU64 (Rg.B x)) i ∧ True,
      (0 : Int) ≤ idx (Fl.id (flOf (gFl (Rg.F x)))) id (Rg.n x),
      idx (Fl.id (flOf (gFl (Rg.F x)))) id (Rg.n x) < (↑(Rg.n x) : Int),
      Int.toNat (idx (Fl.id (flOf (gFl (Rg.F x)))) id (Rg.n x)) < Rg.n x,
      decide (sI (Rg.P { c := { a := Cf.a (Rg.c x), c := Cf.c (Rg.c x), l := Cf.l (Rg.c x), q := Cf.q (Rg.c x), P := Cf.P (Rg.c x), B := Cf.B (Rg.c x), S := Cf.S (Rg.c x), U := Cf.U (Rg.c x), r := Cf.r (Rg.c x), u := Cf.u (Rg.c x) }, n := Rg.n x, F := flOf (gFl (Rg.F x)), P := colOf (gI (Rg.P x)), B := colOf (gU64 (Rg.B x)) }) (Rg.n { c := { a := Cf.a (Rg.c x), c := Cf.c (Rg.c x), l := Cf.l (Rg.c x), q := Cf.q (Rg.c x), P := Cf.P (Rg.c x), B := Cf.B (Rg.c x), S := Cf.S (Rg.c x), U := Cf.U (Rg.c x), r := Cf.r (Rg.c x), u := Cf.u (Rg.c x) }, n := Rg.n x, F := flOf (gFl (Rg.F x)), P := colOf (gI (Rg.P x)), B := colOf (gU64 (Rg.B x)) }) ≥ Cf.P (Rg.c x)) = false,
      decide (k > IntKind.wrap IntKind.u64 (Cf.B (Rg.c x) - sU (Rg.B { c := { a := Cf.a (Rg.c x), c := Cf.c (Rg.c x), l := Cf.l (Rg.c x), q := Cf.q (Rg.c x), P := Cf.P (Rg.c x), B := Cf.B (Rg.c x), S := Cf.S (Rg.c x), U := Cf.U (Rg.c x), r := Cf.r (Rg.c x), u := Cf.u (Rg.c x) }, n := Rg.n x, F := flOf (gFl (Rg.F x)), P := colOf (gI (Rg.P x)), B := colOf (gU64 (Rg.B x)) }) (Rg.n { c := { a := Cf.a (Rg.c x), c := Cf.c (Rg.c x), l := Cf.l (Rg.c x), q := Cf.q (Rg.c x), P := Cf.P (Rg.c x), B := Cf.B (Rg.c x), S := Cf.S (Rg.c x), U := Cf.U (Rg.c x), r := Cf.r (Rg.c x), u := Cf.u (Rg.c x) }, n := Rg.n x, F := flOf (gFl (Rg.F x)), P := colOf (gI (Rg.P x)), B := colOf (gU64 (Rg.B x)) }))) = false,
      (0 : Int) ≤ Rg.B x (Int.toNat (idx (Fl.id (flOf (gFl (Rg.F x)))) id (Rg.n x))),
      Rg.B x (Int.toNat (idx (Fl.id (flOf (gFl (Rg.F x)))) id (Rg.n x))) ≤ (18446744073709551615 : Int),
      (0 : Int) ≤ k,
      k ≤ (18446744073709551615 : Int),
      (0 : Int) ≤ idx (Fl.id (flOf (gFl (Rg.F x)))) id (Rg.n x),
      idx (Fl.id (flOf (gFl (Rg.F x)))) id (Rg.n x) < (↑(Rg.n x) : Int),
      Int.toNat (idx (Fl.id (flOf (gFl (Rg.F x)))) id (Rg.n x)) < Rg.n x,
      decide (capU (Rg.B x (Int.toNat (idx (Fl.id (flOf (gFl (Rg.F x)))) id (Rg.n x))) + k) > Fl.ca (Rg.F x) (Int.toNat (idx (Fl.id (flOf (gFl (Rg.F x)))) id (Rg.n x)))) = true,
      (16 : Int) = (16 : Int)]) (by kernel_rfl) (.cons (by exact beq_eq_false_iff_ne.2 hx) (.cons (by exact decide_eq_false hx2) (.cons (by omega) (.cons (by rfl) (.cons (by rfl) (.cons (by (intro _ _; exact ⟨rfl, rfl, rfl, rfl, rfl, trivial⟩)) (.cons (by exact decide_eq_false hi) (.cons (by assumption) (.cons (by rfl) (.cons (by rfl) (.cons (by assumption) (.cons (by rfl) (.cons (by rfl) (.cons (by rfl) (.cons (by rfl) (.cons (by rfl) (.cons (by rfl) (.cons (by rfl) (.cons (by rfl) (.cons (by rfl) (.cons (by rfl) (.cons (by rfl) (.cons (by rfl) (.cons (by (intro _ _; exact ⟨rfl, rfl, rfl, rfl, rfl, trivial⟩)) (.cons (by rfl) (.cons (by (intro _ _; exact ⟨rfl, trivial⟩)) (.cons (by rfl) (.cons (by (intro _ _; exact ⟨rfl, trivial⟩)) (.cons (by assumption) (.cons (by assumption) (.cons (by assumption) (.cons (by exact decide_eq_false hp) (.cons (by exact decide_eq_false hb) (.cons (by assumption) (.cons (by assumption) (.cons (by assumption) (.cons (by assumption) (.cons (by assumption) (.cons (by assumption) (.cons (by assumption) (.cons (by exact decide_eq_true ho) (.cons (by rfl) .nil)))))))))))))))))))))))))))))))))))))))))) (Nat.le_of_ble_eq_true (by kernel_rfl))

set_option maxHeartbeats 2000000 in
theorem rfit_ok (x : Rg) (id k : Int) (hn : x.n ≤ 100) (hx : k ≠ 0) (hx2 : ¬ x.c.U < k) (hi : ¬ idx x.F.id id x.n < 0) (k0 : 0 ≤ idx x.F.id id x.n) (k1 : idx x.F.id id x.n < (x.n : Int)) (k2 : (idx x.F.id id x.n).toNat < x.n) (hp : ¬ x.c.P ≤ sI x.P x.n) (hb : ¬ IntKind.wrap IntKind.u64 (x.c.B - sU x.B x.n) < k) (b0 : 0 ≤ x.B (idx x.F.id id x.n).toNat) (b1 : x.B (idx x.F.id id x.n).toNat ≤ 18446744073709551615) (q0 : 0 ≤ k) (q1 : k ≤ 18446744073709551615) (ho : ¬ x.F.ca (idx x.F.id id x.n).toNat < capU (x.B (idx x.F.id id x.n).toNat + k)) : FnOk Try.prog 36 ([p0, u32A id, uA k]) (x.R) (iA 0) (gone4) :=
  fn_run Gad9_ok Try.func36 (orc := ⟨[false, false, false, false, false, false], []⟩) (obl := [(k == (0 : Int)) = false,
      decide (k > Cf.U (Rg.c x)) = false,
      Rg.n x ≤ (4611686018427387904 : Nat),
      id = id,
      Rg.n x = Rg.n x,
      ∀ (i : Nat), i < Rg.n x → Fl.id (Rg.F x) i = Fl.id (flOf (gFl (Rg.F x))) i ∧ Fl.co (Rg.F x) i = Fl.co (flOf (gFl (Rg.F x))) i ∧ Fl.bu (Rg.F x) i = Fl.bu (flOf (gFl (Rg.F x))) i ∧ Fl.si (Rg.F x) i = Fl.si (flOf (gFl (Rg.F x))) i ∧ Fl.ca (Rg.F x) i = Fl.ca (flOf (gFl (Rg.F x))) i ∧ True,
      decide (idx (Fl.id (flOf (gFl (Rg.F x)))) id (Rg.n x) < (0 : Int)) = false,
      Rg.n x ≤ (100 : Nat),
      Rg.n x = Rg.n x,
      Rg.n x = Rg.n x,
      Rg.n x ≤ (100 : Nat),
      (0 : Nat) = (0 : Nat),
      Cf.a (Rg.c x) = Cf.a (Rg.c x),
      Cf.c (Rg.c x) = Cf.c (Rg.c x),
      Cf.l (Rg.c x) = Cf.l (Rg.c x),
      Cf.q (Rg.c x) = Cf.q (Rg.c x),
      Cf.P (Rg.c x) = Cf.P (Rg.c x),
      Cf.B (Rg.c x) = Cf.B (Rg.c x),
      Cf.S (Rg.c x) = Cf.S (Rg.c x),
      Cf.U (Rg.c x) = Cf.U (Rg.c x),
      Cf.r (Rg.c x) = Cf.r (Rg.c x),
      Cf.u (Rg.c x) = Cf.u (Rg.c x),
      Rg.n x = Rg.n x,
      ∀ (i : Nat), i < Rg.n x → Fl.id (Rg.F x) i = Fl.id (flOf (gFl (Rg.F x))) i ∧ Fl.co (Rg.F x) i = Fl.co (flOf (gFl (Rg.F x))) i ∧ Fl.bu (Rg.F x) i = Fl.bu (flOf (gFl (Rg.F x))) i ∧ Fl.si (Rg.F x) i = Fl.si (flOf (gFl (Rg.F x))) i ∧ Fl.ca (Rg.F x) i = Fl.ca (flOf (gFl (Rg.F x))) i ∧ True,
      Rg.n x = Rg.n x,
      ∀ (i : Nat), i < Rg.n x → Rg.P x i = colOf (gI (Rg.P x)) i ∧ True,
      Rg.n x = Rg.n x,
      ∀ (i : Nat), i < Rg.n x → Rg.B x i = colOf (gU64 (Rg.B x)) i ∧ True,
      (0 : Int) ≤ idx (Fl.id (flOf (gFl (Rg.F x)))) id (Rg.n x),
      idx (Fl.id (flOf (gFl (Rg.F x)))) id (Rg.n x) < (↑(Rg.n x) : Int),
      Int.toNat (idx (Fl.id (flOf (gFl (Rg.F x)))) id (Rg.n x)) < Rg.n x,
      decide (sI (Rg.P { c := { a := Cf.a (Rg.c x), c := Cf.c (Rg.c x), l := Cf.l (Rg.c x), q := Cf.q (Rg.c x), P := Cf.P (Rg.c x), B := Cf.B (Rg.c x), S := Cf.S (Rg.c x), U := Cf.U (Rg.c x), r := Cf.r (Rg.c x), u := Cf.u (Rg.c x) }, n := Rg.n x, F := flOf (gFl (Rg.F x)), P := colOf (gI (Rg.P x)), B := colOf (gU64 (Rg.B x)) }) (Rg.n { c := { a := Cf.a (Rg.c x), c := Cf.c (Rg.c x), l := Cf.l (Rg.c x), q := Cf.q (Rg.c x), P := Cf.P (Rg.c x), B := Cf.B (Rg.c x), S := Cf.S (Rg.c x), U := Cf.U (Rg.c x), r := Cf.r (Rg.c x), u := Cf.u (Rg.c x) }, n := Rg.n x, F := flOf (gFl (Rg.F x)), P := colOf (gI (Rg.P x)), B := colOf (gU64 (Rg.B x)) }) ≥ Cf.P (Rg.c x)) = false,
      decide (k > IntKind.wrap IntKind.u64 (Cf.B (Rg.c x) - sU (Rg.B { c := { a := Cf.a (Rg.c x), c := Cf.c (Rg.c x), l := Cf.l (Rg.c x), q := Cf.q (Rg.c x), P := Cf.P (Rg.c x), B := Cf.B (Rg.c x), S := Cf.S (Rg.c x), U := Cf.U (Rg.c x), r := Cf.r (Rg.c x), u := Cf.u (Rg.c x) }, n := Rg.n x, F := flOf (gFl (Rg.F x)), P := colOf (gI (Rg.P x)), B := colOf (gU64 (Rg.B x)) }) (Rg.n { c := { a := Cf.a (Rg.c x), c := Cf.c (Rg.c x), l := Cf.l (Rg.c x), q := Cf.q (Rg.c x), P := Cf.P (Rg.c x), B := Cf.B (Rg.c x), S := Cf.S (Rg.c x), U := Cf.U (Rg.c x), r := Cf.r (Rg.c x), u := Cf.u (Rg.c x) }, n := Rg.n x, F := flOf (gFl (Rg.F x)), P := colOf (gI (Rg.P x)), B := colOf (gU64 (Rg.B x)) }))) = false,
      (0 : Int) ≤ Rg.B x (Int.toNat (idx (Fl.id (flOf (gFl (Rg.F x)))) id (Rg.n x))),
      Rg.B x (Int.toNat (idx (Fl.id (flOf (gFl (Rg.F x)))) id (Rg.n x))) ≤ (18446744073709551615 : Int),
      (0 : Int) ≤ k,
      k ≤ (18446744073709551615 : Int),
      (0 : Int) ≤ idx (Fl.id (flOf (gFl (Rg.F x)))) id (Rg.n x),
      idx (Fl.id (flOf (gFl (Rg.F x)))) id (Rg.n x) < (↑(Rg.n x) : Int),
      Int.toNat (idx (Fl.id (flOf (gFl (Rg.F x)))) id (Rg.n x)) < Rg.n x,
      decide (capU (Rg.B x (Int.toNat (idx (Fl.id (flOf (gFl (Rg.F x)))) id (Rg.n x))) + k) > Fl.ca (Rg.F x) (Int.toNat (idx (Fl.id (flOf (gFl (Rg.F x)))) id (Rg.n x)))) = false,
      (0 : Int) = (0 : Int)]) (by kernel_rfl) (.cons (by exact beq_eq_false_iff_ne.2 hx) (.cons (by exact decide_eq_false hx2) (.cons (by omega) (.cons (by rfl) (.cons (by rfl) (.cons (by (intro _ _; exact ⟨rfl, rfl, rfl, rfl, rfl, trivial⟩)) (.cons (by exact decide_eq_false hi) (.cons (by assumption) (.cons (by rfl) (.cons (by rfl) (.cons (by assumption) (.cons (by rfl) (.cons (by rfl) (.cons (by rfl) (.cons (by rfl) (.cons (by rfl) (.cons (by rfl) (.cons (by rfl) (.cons (by rfl) (.cons (by rfl) (.cons (by rfl) (.cons (by rfl) (.cons (by rfl) (.cons (by (intro _ _; exact ⟨rfl, rfl, rfl, rfl, rfl, trivial⟩)) (.cons (by rfl) (.cons (by (intro _ _; exact ⟨rfl, trivial⟩)) (.cons (by rfl) (.cons (by (intro _ _; exact ⟨rfl, trivial⟩)) (.cons (by assumption) (.cons (by assumption) (.cons (by assumption) (.cons (by exact decide_eq_false hp) (.cons (by exact decide_eq_false hb) (.cons (by assumption) (.cons (by assumption) (.cons (by assumption) (.cons (by assumption) (.cons (by assumption) (.cons (by assumption) (.cons (by assumption) (.cons (by exact decide_eq_false ho) (.cons (by rfl) .nil)))))))))))))))))))))))))))))))))))))))))) (Nat.le_of_ble_eq_true (by kernel_rfl))
end Go.Proofs.Ytmhkbepnankopaa

/- admit: the document's Fits, Own as specifications. No condition. -/
namespace Go.Proofs.Ytmhkbepnankopaa
set_option linter.unusedVariables false
set_option linter.unusedSimpArgs false
open Go.RowKit E
/-- Where a number's flow is. -/
def Rg.at' (x : Rg) (id : Int) : Int := idx x.F.id id x.n
def Rg.ownP (x : Rg) (id : Int) : Int := if x.at' id < 0 then 0 else x.P (x.at' id).toNat
def Rg.ownB (x : Rg) (id : Int) : Int := if x.at' id < 0 then 0 else x.B (x.at' id).toNat
def Rg.fit (x : Rg) (id k : Int) : Int :=
  if k = 0 ∨ x.c.U < k then 12 else if x.at' id < 0 then 13 else if x.c.P ≤ sI x.P x.n then 14 else if IntKind.wrap IntKind.u64 (x.c.B - sU x.B x.n) < k then 15
  else if x.F.ca (x.at' id).toNat < capU (x.B (x.at' id).toNat + k) then 16 else 0
def Rg.bd (x : Rg) : Prop := ∀ j, j < x.n → 0 ≤ x.B j ∧ x.B j ≤ 18446744073709551615
theorem idx_bd17 (T : Nat → Int) (y : Int) (n : Nat) : -1 ≤ idx T y n ∧ idx T y n < n := by
  induction n with
  | zero => unfold idx; omega
  | succ n ih => unfold idx; (repeat' split) <;> omega
theorem idx_k {T : Nat → Int} {y : Int} {n : Nat} (h : ¬ idx T y n < 0) : 0 ≤ idx T y n ∧ idx T y n < (n : Int) ∧ (idx T y n).toNat < n := by
  have := idx_bd17 T y n
  omega
theorem fnROwn (x : Rg) (id : Int) (hn : x.n ≤ 100) : FnOk Try.prog 24 [p0, u32A id] x.R (.tup [.one (.val (.int .i64 (x.ownP id))), .one (.val (.int .u64 (x.ownB id)))]) gone4 := by
  unfold Rg.ownP Rg.ownB
  by_cases h : x.at' id < 0
  · rw [if_pos h, if_pos h]; exact rown_n x id hn h
  · rw [if_neg h, if_neg h]
    obtain ⟨k0, k1, k2⟩ := idx_k h
    exact rown_y x id hn h k0 k1 k2
theorem fnRFit (x : Rg) (id k : Int) (hn : x.n ≤ 100) (h2 : x.bd) (q0 : 0 ≤ k) (q1 : k ≤ 18446744073709551615) : FnOk Try.prog 36 [p0, u32A id, uA k] x.R (iA (x.fit id k)) gone4 := by
  unfold Rg.fit
  by_cases a : k = 0
  · rw [if_pos (.inl a)]; exact rfit_0 x id k hn a
  by_cases a2 : x.c.U < k
  · rw [if_pos (.inr a2)]; exact rfit_u x id k hn a a2
  rw [if_neg (by omega)]
  by_cases h : x.at' id < 0
  · rw [if_pos h]; exact rfit_13 x id k hn a a2 h
  rw [if_neg h]
  obtain ⟨k0, k1, k2⟩ := idx_k h
  by_cases a3 : x.c.P ≤ sI x.P x.n
  · rw [if_pos a3]; exact rfit_14 x id k hn a a2 h k0 k1 k2 a3
  rw [if_neg a3]
  by_cases a4 : IntKind.wrap IntKind.u64 (x.c.B - sU x.B x.n) < k
  · rw [if_pos a4]; exact rfit_15 x id k hn a a2 h k0 k1 k2 a3 a4
  rw [if_neg a4]
  obtain ⟨b0, b1⟩ := h2 _ k2
  by_cases a5 : x.F.ca (x.at' id).toNat < capU (x.B (x.at' id).toNat + k)
  · rw [if_pos a5]; exact rfit_16 x id k hn a a2 h k0 k1 k2 a3 a4 b0 b1 q0 q1 a5
  · rw [if_neg a5]; exact rfit_ok x id k hn a a2 h k0 k1 k2 a3 a4 b0 b1 q0 q1 a5
def gROwn : List SV → List Seg → Option (CS × List Prop)
  | [.nv (.one (.ptr h 0)), .nv (.one (.val (.int .u32 id)))], mem => match rgAt mem h with
    | some (x, o) => some (⟨[p0, u32A id], x.R, .tup [.one (.val (.int .i64 (x.ownP id))), .one (.val (.int .u64 (x.ownB id)))], gone4⟩, [x.n ≤ 100] ++ o)
    | none => none
  | _, _ => none
theorem spROwn : SpOk Try.prog 24 (.lift gROwn) := by
  intro args mem cs obl h ho
  unfold gROwn at h
  split at h
  · split at h
    · simp only [Option.some.injEq, Prod.mk.injEq] at h
      obtain ⟨rfl, rfl⟩ := h
      exact fnROwn _ _ ho.1
    · cases h
  · cases h
def gRFit : List SV → List Seg → Option (CS × List Prop)
  | [.nv (.one (.ptr h 0)), .nv (.one (.val (.int .u32 id))), .nv (.one (.val (.int .u64 k)))], mem => match rgAt mem h with
    | some (x, o) => some (⟨[p0, u32A id, uA k], x.R, iA (x.fit id k), gone4⟩, [x.n ≤ 100, x.bd, 0 ≤ k, k ≤ 18446744073709551615] ++ o)
    | none => none
  | _, _ => none
theorem spRFit : SpOk Try.prog 36 (.lift gRFit) := by
  intro args mem cs obl h ho
  unfold gRFit at h
  split at h
  · split at h
    · simp only [Option.some.injEq, Prod.mk.injEq] at h
      obtain ⟨rfl, rfl⟩ := h
      exact fnRFit _ _ _ ho.1 ho.2.1 ho.2.2.1 ho.2.2.2.1
    · cases h
  · cases h
def Gad10 : List (FuncId × Sp) := (24, .lift gROwn) :: (36, .lift gRFit) :: Gad9
theorem Gad10_ok : CtxOk Try.prog Gad10 := ctx_cons (enter_of Try.func24 (by kernel_rfl) (by kernel_rfl)) spROwn <|
  ctx_cons (enter_of Try.func36 (by kernel_rfl) (by kernel_rfl)) spRFit Gad9_ok
end Go.Proofs.Ytmhkbepnankopaa

/- Runs of Go code, as printed by a program: no condition beyond those that each states. -/
namespace Go.Proofs.Ytmhkbepnankopaa
set_option linter.unusedVariables false
set_option linter.unusedSimpArgs false
set_option maxRecDepth 100000
open Go.RowKit E
attribute [local irreducible] fd homeN reT capU gtP gtB gtO gtU setT shU Ga.fit Ga.may chkF chkA mM putT sI sU idx Rg.fit
set_option maxHeartbeats 2000000 in
theorem rmay_e (x : Rg) (id k : Int) (hn : x.n ≤ 100) (h2 : x.bd) (q0 : 0 ≤ k) (q1 : k ≤ 18446744073709551615) (he : x.fit id k ≠ 0) : FnOk Try.prog 22 ([p0, u32A id, uA k]) (x.R) (iA (x.fit id k)) (gone4) :=
  fn_run Gad10_ok Try.func22 (orc := ⟨[true], []⟩) (obl := [Rg.n x ≤ (100 : Nat),
      Rg.bd { c := Rg.c x, n := Rg.n x, F := flOf (gFl (Rg.F x)), P := colOf (gI (Rg.P x)), B := colOf (gU64 (Rg.B x)) },
      (0 : Int) ≤ k,
      k ≤ (18446744073709551615 : Int),
      Rg.n x = Rg.n x,
      Rg.n x = Rg.n x,
      Rg.n x ≤ (100 : Nat),
      (0 : Nat) = (0 : Nat),
      id = id,
      k = k,
      Cf.a (Rg.c x) = Cf.a (Rg.c x),
      Cf.c (Rg.c x) = Cf.c (Rg.c x),
      Cf.l (Rg.c x) = Cf.l (Rg.c x),
      Cf.q (Rg.c x) = Cf.q (Rg.c x),
      Cf.P (Rg.c x) = Cf.P (Rg.c x),
      Cf.B (Rg.c x) = Cf.B (Rg.c x),
      Cf.S (Rg.c x) = Cf.S (Rg.c x),
      Cf.U (Rg.c x) = Cf.U (Rg.c x),
      Cf.r (Rg.c x) = Cf.r (Rg.c x),
      Cf.u (Rg.c x) = Cf.u (Rg.c x),
      Rg.n x = Rg.n x,
      ∀ (i : Nat), i < Rg.n x → Fl.id (Rg.F x) i = Fl.id (flOf (gFl (Rg.F x))) i ∧ Fl.co (Rg.F x) i = Fl.co (flOf (gFl (Rg.F x))) i ∧ Fl.bu (Rg.F x) i = Fl.bu (flOf (gFl (Rg.F x))) i ∧ Fl.si (Rg.F x) i = Fl.si (flOf (gFl (Rg.F x))) i ∧ Fl.ca (Rg.F x) i = Fl.ca (flOf (gFl (Rg.F x))) i ∧ True,
      Rg.n x = Rg.n x,
      ∀ (i : Nat), i < Rg.n x → Rg.P x i = colOf (gI (Rg.P x)) i ∧ True,
      Rg.n x = Rg.n x,
      ∀ (i : Nat), i < Rg.n x → Rg.B x i = colOf (gU64 (Rg.B x)) i ∧ True,
      (Rg.fit { c := { a := Cf.a (Rg.c x), c := Cf.c (Rg.c x), l := Cf.l (Rg.c x), q := Cf.q (Rg.c x), P := Cf.P (Rg.c x), B := Cf.B (Rg.c x), S := Cf.S (Rg.c x), U := Cf.U (Rg.c x), r := Cf.r (Rg.c x), u := Cf.u (Rg.c x) }, n := Rg.n x, F := flOf (gFl (Rg.F x)), P := colOf (gI (Rg.P x)), B := colOf (gU64 (Rg.B x)) } id k != (0 : Int)) = true,
      Rg.fit { c := Rg.c x, n := Rg.n x, F := flOf (gFl (Rg.F x)), P := colOf (gI (Rg.P x)), B := colOf (gU64 (Rg.B x)) } id k = Rg.fit x id k]) (by kernel_rfl) (.cons (by assumption) (.cons (by assumption) (.cons (by assumption) (.cons (by assumption) (.cons (by rfl) (.cons (by rfl) (.cons (by assumption) (.cons (by rfl) (.cons (by rfl) (.cons (by rfl) (.cons (by rfl) (.cons (by rfl) (.cons (by rfl) (.cons (by rfl) (.cons (by rfl) (.cons (by rfl) (.cons (by rfl) (.cons (by rfl) (.cons (by rfl) (.cons (by rfl) (.cons (by rfl) (.cons (by (intro _ _; exact ⟨rfl, rfl, rfl, rfl, rfl, trivial⟩)) (.cons (by rfl) (.cons (by (intro _ _; exact ⟨rfl, trivial⟩)) (.cons (by rfl) (.cons (by (intro _ _; exact ⟨rfl, trivial⟩)) (.cons (by exact bne_iff_ne.2 he) (.cons (by rfl) .nil)))))))))))))))))))))))))))) (Nat.le_of_ble_eq_true (by kernel_rfl))

set_option maxHeartbeats 2000000 in
theorem rmay_s (x : Rg) (id k : Int) (hn : x.n ≤ 100) (h2 : x.bd) (q0 : 0 ≤ k) (q1 : k ≤ 18446744073709551615) (he : x.fit id k = 0) (w0 : 0 ≤ IntKind.wrap IntKind.u64 (x.c.B - sU x.B x.n)) (w1 : IntKind.wrap IntKind.u64 (x.c.B - sU x.B x.n) ≤ 18446744073709551615) (s0 : 0 ≤ x.c.S) (s1 : x.c.S.toNat ≤ 16) (hs : shU (IntKind.wrap IntKind.u64 (x.c.B - sU x.B x.n)) x.c.S.toNat ≤ x.ownB id) : FnOk Try.prog 22 ([p0, u32A id, uA k]) (x.R) (iA 17) (gone4) :=
  fn_run Gad10_ok Try.func22 (orc := ⟨[false, true], []⟩) (obl := [Rg.n x ≤ (100 : Nat),
      Rg.bd { c := Rg.c x, n := Rg.n x, F := flOf (gFl (Rg.F x)), P := colOf (gI (Rg.P x)), B := colOf (gU64 (Rg.B x)) },
      (0 : Int) ≤ k,
      k ≤ (18446744073709551615 : Int),
      Rg.n x = Rg.n x,
      Rg.n x = Rg.n x,
      Rg.n x ≤ (100 : Nat),
      (0 : Nat) = (0 : Nat),
      id = id,
      k = k,
      Cf.a (Rg.c x) = Cf.a (Rg.c x),
      Cf.c (Rg.c x) = Cf.c (Rg.c x),
      Cf.l (Rg.c x) = Cf.l (Rg.c x),
      Cf.q (Rg.c x) = Cf.q (Rg.c x),
      Cf.P (Rg.c x) = Cf.P (Rg.c x),
      Cf.B (Rg.c x) = Cf.B (Rg.c x),
      Cf.S (Rg.c x) = Cf.S (Rg.c x),
      Cf.U (Rg.c x) = Cf.U (Rg.c x),
      Cf.r (Rg.c x) = Cf.r (Rg.c x),
      Cf.u (Rg.c x) = Cf.u (Rg.c x),
      Rg.n x = Rg.n x,
      ∀ (i : Nat), i < Rg.n x → Fl.id (Rg.F x) i = Fl.id (flOf (gFl (Rg.F x))) i ∧ Fl.co (Rg.F x) i = Fl.co (flOf (gFl (Rg.F x))) i ∧ Fl.bu (Rg.F x) i = Fl.bu (flOf (gFl (Rg.F x))) i ∧ Fl.si (Rg.F x) i = Fl.si (flOf (gFl (Rg.F x))) i ∧ Fl.ca (Rg.F x) i = Fl.ca (flOf (gFl (Rg.F x))) i ∧ True,
      Rg.n x = Rg.n x,
      ∀ (i : Nat), i < Rg.n x → Rg.P x i = colOf (gI (Rg.P x)) i ∧ True,
      Rg.n x = Rg.n x,
      ∀ (i : Nat), i < Rg.n x → Rg.B x i = colOf (gU64 (Rg.B x)) i ∧ True,
      (Rg.fit { c := { a := Cf.a (Rg.c x), c := Cf.c (Rg.c x), l := Cf.l (Rg.c x), q := Cf.q (Rg.c x), P := Cf.P (Rg.c x), B := Cf.B (Rg.c x), S := Cf.S (Rg.c x), U := Cf.U (Rg.c x), r := Cf.r (Rg.c x), u := Cf.u (Rg.c x) }, n := Rg.n x, F := flOf (gFl (Rg.F x)), P := colOf (gI (Rg.P x)), B := colOf (gU64 (Rg.B x)) } id k != (0 : Int)) = false,
      Rg.n x ≤ (100 : Nat),
      Rg.n x = Rg.n x,
      Rg.n x = Rg.n x,
      Rg.n x ≤ (100 : Nat),
      (0 : Nat) = (0 : Nat),
      Cf.a (Rg.c x) = Cf.a (Rg.c x),
      Cf.c (Rg.c x) = Cf.c (Rg.c x),
      Cf.l (Rg.c x) = Cf.l (Rg.c x),
      Cf.q (Rg.c x) = Cf.q (Rg.c x),
      Cf.P (Rg.c x) = Cf.P (Rg.c x),
      Cf.B (Rg.c x) = Cf.B (Rg.c x),
      Cf.S (Rg.c x) = Cf.S (Rg.c x),
      Cf.U (Rg.c x) = Cf.U (Rg.c x),
      Cf.r (Rg.c x) = Cf.r (Rg.c x),
      Cf.u (Rg.c x) = Cf.u (Rg.c x),
      Rg.n x = Rg.n x,
      ∀ (i : Nat), i < Rg.n x → Fl.id (Rg.F x) i = Fl.id (flOf (gFl (Rg.F x))) i ∧ Fl.co (Rg.F x) i = Fl.co (flOf (gFl (Rg.F x))) i ∧ Fl.bu (Rg.F x) i = Fl.bu (flOf (gFl (Rg.F x))) i ∧ Fl.si (Rg.F x) i = Fl.si (flOf (gFl (Rg.F x))) i ∧ Fl.ca (Rg.F x) i = Fl.ca (flOf (gFl (Rg.F x))) i ∧ True,
      Rg.n x = Rg.n x,
      ∀ (i : Nat), i < Rg.n x → Rg.P x i = colOf (gI (Rg.P x)) i ∧ True,
      Rg.n x = Rg.n x,
      ∀ (i : Nat), i < Rg.n x → Rg.B x i = colOf (gU64 (Rg.B x)) i ∧ True,
      Rg.n x ≤ (100 : Nat),
      Rg.n x = Rg.n x,
      Rg.n x = Rg.n x,
      Rg.n x ≤ (100 : Nat),
      (0 : Nat) = (0 : Nat),
      id = id,
      Cf.a (Rg.c x) = Cf.a (Rg.c x),
      Cf.c (Rg.c x) = Cf.c (Rg.c x),
      Cf.l (Rg.c x) = Cf.l (Rg.c x),
      Cf.q (Rg.c x) = Cf.q (Rg.c x),
      Cf.P (Rg.c x) = Cf.P (Rg.c x),
      Cf.B (Rg.c x) = Cf.B (Rg.c x),
      Cf.S (Rg.c x) = Cf.S (Rg.c x),
      Cf.U (Rg.c x) = Cf.U (Rg.c x),
      Cf.r (Rg.c x) = Cf.r (Rg.c x),
      Cf.u (Rg.c x) = Cf.u (Rg.c x),
      Rg.n x = Rg.n x,
      ∀ (i : Nat), i < Rg.n x → Fl.id (Rg.F x) i = Fl.id (flOf (gFl (Rg.F x))) i ∧ Fl.co (Rg.F x) i = Fl.co (flOf (gFl (Rg.F x))) i ∧ Fl.bu (Rg.F x) i = Fl.bu (flOf (gFl (Rg.F x))) i ∧ Fl.si (Rg.F x) i = Fl.si (flOf (gFl (Rg.F x))) i ∧ Fl.ca (Rg.F x) i = Fl.ca (flOf (gFl (Rg.F x))) i ∧ True,
      Rg.n x = Rg.n x,
      ∀ (i : Nat), i < Rg.n x → Rg.P x i = colOf (gI (Rg.P x)) i ∧ True,
      Rg.n x = Rg.n x,
      ∀ (i : Nat), i < Rg.n x → Rg.B x i = colOf (gU64 (Rg.B x)) i ∧ True,
      (0 : Int) ≤ IntKind.wrap IntKind.u64 (Cf.B (Rg.c x) - sU (colOf (gU64 (Rg.B x))) (Rg.n x)),
      IntKind.wrap IntKind.u64 (Cf.B (Rg.c x) - sU (colOf (gU64 (Rg.B x))) (Rg.n x)) ≤ (18446744073709551615 : Int),
      Int.toNat (Cf.S (Rg.c x)) ≤ (16 : Nat),
      IntKind.wrap IntKind.u64 (Cf.B (Rg.c x) - sU (colOf (gU64 (Rg.B x))) (Rg.n x)) = IntKind.wrap IntKind.u64 (Cf.B (Rg.c x) - sU (colOf (gU64 (Rg.B x))) (Rg.n x)),
      Cf.S (Rg.c x) = (↑(Int.toNat (Cf.S (Rg.c x))) : Int),
      decide (Rg.ownB { c := { a := Cf.a (Rg.c x), c := Cf.c (Rg.c x), l := Cf.l (Rg.c x), q := Cf.q (Rg.c x), P := Cf.P (Rg.c x), B := Cf.B (Rg.c x), S := Cf.S (Rg.c x), U := Cf.U (Rg.c x), r := Cf.r (Rg.c x), u := Cf.u (Rg.c x) }, n := Rg.n x, F := flOf (gFl (Rg.F x)), P := colOf (gI (Rg.P x)), B := colOf (gU64 (Rg.B x)) } id ≥ shU (IntKind.wrap IntKind.u64 (Cf.B (Rg.c x) - sU (Rg.B { c := { a := Cf.a (Rg.c x), c := Cf.c (Rg.c x), l := Cf.l (Rg.c x), q := Cf.q (Rg.c x), P := Cf.P (Rg.c x), B := Cf.B (Rg.c x), S := Cf.S (Rg.c x), U := Cf.U (Rg.c x), r := Cf.r (Rg.c x), u := Cf.u (Rg.c x) }, n := Rg.n x, F := flOf (gFl (Rg.F x)), P := colOf (gI (Rg.P x)), B := colOf (gU64 (Rg.B x)) }) (Rg.n { c := { a := Cf.a (Rg.c x), c := Cf.c (Rg.c x), l := Cf.l (Rg.c x), q := Cf.q (Rg.c x), P := Cf.P (Rg.c x), B := Cf.B (Rg.c x), S := Cf.S (Rg.c x), U := Cf.U (Rg.c x), r := Cf.r (Rg.c x), u := Cf.u (Rg.c x) }, n := Rg.n x, F := flOf (gFl (Rg.F x)), P := colOf (gI (Rg.P x)), B := colOf (gU64 (Rg.B x)) }))) (Int.toNat (Cf.S (Rg.c x)))) = true,
      (17 : Int) = (17 : Int)]) (by kernel_rfl) (.cons (by assumption) (.cons (by assumption) (.cons (by assumption) (.cons (by assumption) (.cons (by rfl) (.cons (by rfl) (.cons (by assumption) (.cons (by rfl) (.cons (by rfl) (.cons (by rfl) (.cons (by rfl) (.cons (by rfl) (.cons (by rfl) (.cons (by rfl) (.cons (by rfl) (.cons (by rfl) (.cons (by rfl) (.cons (by rfl) (.cons (by rfl) (.cons (by rfl) (.cons (by rfl) (.cons (by (intro _ _; exact ⟨rfl, rfl, rfl, rfl, rfl, trivial⟩)) (.cons (by rfl) (.cons (by (intro _ _; exact ⟨rfl, trivial⟩)) (.cons (by rfl) (.cons (by (intro _ _; exact ⟨rfl, trivial⟩)) (.cons (by exact bne_eq_false_iff_eq.2 he) (.cons (by assumption) (.cons (by rfl) (.cons (by rfl) (.cons (by assumption) (.cons (by rfl) (.cons (by rfl) (.cons (by rfl) (.cons (by rfl) (.cons (by rfl) (.cons (by rfl) (.cons (by rfl) (.cons (by rfl) (.cons (by rfl) (.cons (by rfl) (.cons (by rfl) (.cons (by rfl) (.cons (by (intro _ _; exact ⟨rfl, rfl, rfl, rfl, rfl, trivial⟩)) (.cons (by rfl) (.cons (by (intro _ _; exact ⟨rfl, trivial⟩)) (.cons (by rfl) (.cons (by (intro _ _; exact ⟨rfl, trivial⟩)) (.cons (by assumption) (.cons (by rfl) (.cons (by rfl) (.cons (by assumption) (.cons (by rfl) (.cons (by rfl) (.cons (by rfl) (.cons (by rfl) (.cons (by rfl) (.cons (by rfl) (.cons (by rfl) (.cons (by rfl) (.cons (by rfl) (.cons (by rfl) (.cons (by rfl) (.cons (by rfl) (.cons (by rfl) (.cons (by (intro _ _; exact ⟨rfl, rfl, rfl, rfl, rfl, trivial⟩)) (.cons (by rfl) (.cons (by (intro _ _; exact ⟨rfl, trivial⟩)) (.cons (by rfl) (.cons (by (intro _ _; exact ⟨rfl, trivial⟩)) (.cons (by assumption) (.cons (by assumption) (.cons (by assumption) (.cons (by rfl) (.cons (by omega) (.cons (by exact decide_eq_true hs) (.cons (by rfl) .nil))))))))))))))))))))))))))))))))))))))))))))))))))))))))))))))))))))))))))))) (Nat.le_of_ble_eq_true (by kernel_rfl))

set_option maxHeartbeats 2000000 in
theorem rmay_o (x : Rg) (id k : Int) (hn : x.n ≤ 100) (h2 : x.bd) (q0 : 0 ≤ k) (q1 : k ≤ 18446744073709551615) (he : x.fit id k = 0) (w0 : 0 ≤ IntKind.wrap IntKind.u64 (x.c.B - sU x.B x.n)) (w1 : IntKind.wrap IntKind.u64 (x.c.B - sU x.B x.n) ≤ 18446744073709551615) (s0 : 0 ≤ x.c.S) (s1 : x.c.S.toNat ≤ 16) (hs : ¬ shU (IntKind.wrap IntKind.u64 (x.c.B - sU x.B x.n)) x.c.S.toNat ≤ x.ownB id) : FnOk Try.prog 22 ([p0, u32A id, uA k]) (x.R) (iA 0) (gone4) :=
  fn_run Gad10_ok Try.func22 (orc := ⟨[false, false], []⟩) (obl := [Rg.n x ≤ (100 : Nat),
      Rg.bd { c := Rg.c x, n := Rg.n x, F := flOf (gFl (Rg.F x)), P := colOf (gI (Rg.P x)), B := colOf (gU64 (Rg.B x)) },
      (0 : Int) ≤ k,
      k ≤ (18446744073709551615 : Int),
      Rg.n x = Rg.n x,
      Rg.n x = Rg.n x,
      Rg.n x ≤ (100 : Nat),
      (0 : Nat) = (0 : Nat),
      id = id,
      k = k,
      Cf.a (Rg.c x) = Cf.a (Rg.c x),
      Cf.c (Rg.c x) = Cf.c (Rg.c x),
      Cf.l (Rg.c x) = Cf.l (Rg.c x),
      Cf.q (Rg.c x) = Cf.q (Rg.c x),
      Cf.P (Rg.c x) = Cf.P (Rg.c x),
      Cf.B (Rg.c x) = Cf.B (Rg.c x),
      Cf.S (Rg.c x) = Cf.S (Rg.c x),
      Cf.U (Rg.c x) = Cf.U (Rg.c x),
      Cf.r (Rg.c x) = Cf.r (Rg.c x),
      Cf.u (Rg.c x) = Cf.u (Rg.c x),
      Rg.n x = Rg.n x,
      ∀ (i : Nat), i < Rg.n x → Fl.id (Rg.F x) i = Fl.id (flOf (gFl (Rg.F x))) i ∧ Fl.co (Rg.F x) i = Fl.co (flOf (gFl (Rg.F x))) i ∧ Fl.bu (Rg.F x) i = Fl.bu (flOf (gFl (Rg.F x))) i ∧ Fl.si (Rg.F x) i = Fl.si (flOf (gFl (Rg.F x))) i ∧ Fl.ca (Rg.F x) i = Fl.ca (flOf (gFl (Rg.F x))) i ∧ True,
      Rg.n x = Rg.n x,
      ∀ (i : Nat), i < Rg.n x → Rg.P x i = colOf (gI (Rg.P x)) i ∧ True,
      Rg.n x = Rg.n x,
      ∀ (i : Nat), i < Rg.n x → Rg.B x i = colOf (gU64 (Rg.B x)) i ∧ True,
      (Rg.fit { c := { a := Cf.a (Rg.c x), c := Cf.c (Rg.c x), l := Cf.l (Rg.c x), q := Cf.q (Rg.c x), P := Cf.P (Rg.c x), B := Cf.B (Rg.c x), S := Cf.S (Rg.c x), U := Cf.U (Rg.c x), r := Cf.r (Rg.c x), u := Cf.u (Rg.c x) }, n := Rg.n x, F := flOf (gFl (Rg.F x)), P := colOf (gI (Rg.P x)), B := colOf (gU64 (Rg.B x)) } id k != (0 : Int)) = false,
      Rg.n x ≤ (100 : Nat),
      Rg.n x = Rg.n x,
      Rg.n x = Rg.n x,
      Rg.n x ≤ (100 : Nat),
      (0 : Nat) = (0 : Nat),
      Cf.a (Rg.c x) = Cf.a (Rg.c x),
      Cf.c (Rg.c x) = Cf.c (Rg.c x),
      Cf.l (Rg.c x) = Cf.l (Rg.c x),
      Cf.q (Rg.c x) = Cf.q (Rg.c x),
      Cf.P (Rg.c x) = Cf.P (Rg.c x),
      Cf.B (Rg.c x) = Cf.B (Rg.c x),
      Cf.S (Rg.c x) = Cf.S (Rg.c x),
      Cf.U (Rg.c x) = Cf.U (Rg.c x),
      Cf.r (Rg.c x) = Cf.r (Rg.c x),
      Cf.u (Rg.c x) = Cf.u (Rg.c x),
      Rg.n x = Rg.n x,
      ∀ (i : Nat), i < Rg.n x → Fl.id (Rg.F x) i = Fl.id (flOf (gFl (Rg.F x))) i ∧ Fl.co (Rg.F x) i = Fl.co (flOf (gFl (Rg.F x))) i ∧ Fl.bu (Rg.F x) i = Fl.bu (flOf (gFl (Rg.F x))) i ∧ Fl.si (Rg.F x) i = Fl.si (flOf (gFl (Rg.F x))) i ∧ Fl.ca (Rg.F x) i = Fl.ca (flOf (gFl (Rg.F x))) i ∧ True,
      Rg.n x = Rg.n x,
      ∀ (i : Nat), i < Rg.n x → Rg.P x i = colOf (gI (Rg.P x)) i ∧ True,
      Rg.n x = Rg.n x,
      ∀ (i : Nat), i < Rg.n x → Rg.B x i = colOf (gU64 (Rg.B x)) i ∧ True,
      Rg.n x ≤ (100 : Nat),
      Rg.n x = Rg.n x,
      Rg.n x = Rg.n x,
      Rg.n x ≤ (100 : Nat),
      (0 : Nat) = (0 : Nat),
      id = id,
      Cf.a (Rg.c x) = Cf.a (Rg.c x),
      Cf.c (Rg.c x) = Cf.c (Rg.c x),
      Cf.l (Rg.c x) = Cf.l (Rg.c x),
      Cf.q (Rg.c x) = Cf.q (Rg.c x),
      Cf.P (Rg.c x) = Cf.P (Rg.c x),
      Cf.B (Rg.c x) = Cf.B (Rg.c x),
      Cf.S (Rg.c x) = Cf.S (Rg.c x),
      Cf.U (Rg.c x) = Cf.U (Rg.c x),
      Cf.r (Rg.c x) = Cf.r (Rg.c x),
      Cf.u (Rg.c x) = Cf.u (Rg.c x),
      Rg.n x = Rg.n x,
      ∀ (i : Nat), i < Rg.n x → Fl.id (Rg.F x) i = Fl.id (flOf (gFl (Rg.F x))) i ∧ Fl.co (Rg.F x) i = Fl.co (flOf (gFl (Rg.F x))) i ∧ Fl.bu (Rg.F x) i = Fl.bu (flOf (gFl (Rg.F x))) i ∧ Fl.si (Rg.F x) i = Fl.si (flOf (gFl (Rg.F x))) i ∧ Fl.ca (Rg.F x) i = Fl.ca (flOf (gFl (Rg.F x))) i ∧ True,
      Rg.n x = Rg.n x,
      ∀ (i : Nat), i < Rg.n x → Rg.P x i = colOf (gI (Rg.P x)) i ∧ True,
      Rg.n x = Rg.n x,
      ∀ (i : Nat), i < Rg.n x → Rg.B x i = colOf (gU64 (Rg.B x)) i ∧ True,
      (0 : Int) ≤ IntKind.wrap IntKind.u64 (Cf.B (Rg.c x) - sU (colOf (gU64 (Rg.B x))) (Rg.n x)),
      IntKind.wrap IntKind.u64 (Cf.B (Rg.c x) - sU (colOf (gU64 (Rg.B x))) (Rg.n x)) ≤ (18446744073709551615 : Int),
      Int.toNat (Cf.S (Rg.c x)) ≤ (16 : Nat),
      IntKind.wrap IntKind.u64 (Cf.B (Rg.c x) - sU (colOf (gU64 (Rg.B x))) (Rg.n x)) = IntKind.wrap IntKind.u64 (Cf.B (Rg.c x) - sU (colOf (gU64 (Rg.B x))) (Rg.n x)),
      Cf.S (Rg.c x) = (↑(Int.toNat (Cf.S (Rg.c x))) : Int),
      decide (Rg.ownB { c := { a := Cf.a (Rg.c x), c := Cf.c (Rg.c x), l := Cf.l (Rg.c x), q := Cf.q (Rg.c x), P := Cf.P (Rg.c x), B := Cf.B (Rg.c x), S := Cf.S (Rg.c x), U := Cf.U (Rg.c x), r := Cf.r (Rg.c x), u := Cf.u (Rg.c x) }, n := Rg.n x, F := flOf (gFl (Rg.F x)), P := colOf (gI (Rg.P x)), B := colOf (gU64 (Rg.B x)) } id ≥ shU (IntKind.wrap IntKind.u64 (Cf.B (Rg.c x) - sU (Rg.B { c := { a := Cf.a (Rg.c x), c := Cf.c (Rg.c x), l := Cf.l (Rg.c x), q := Cf.q (Rg.c x), P := Cf.P (Rg.c x), B := Cf.B (Rg.c x), S := Cf.S (Rg.c x), U := Cf.U (Rg.c x), r := Cf.r (Rg.c x), u := Cf.u (Rg.c x) }, n := Rg.n x, F := flOf (gFl (Rg.F x)), P := colOf (gI (Rg.P x)), B := colOf (gU64 (Rg.B x)) }) (Rg.n { c := { a := Cf.a (Rg.c x), c := Cf.c (Rg.c x), l := Cf.l (Rg.c x), q := Cf.q (Rg.c x), P := Cf.P (Rg.c x), B := Cf.B (Rg.c x), S := Cf.S (Rg.c x), U := Cf.U (Rg.c x), r := Cf.r (Rg.c x), u := Cf.u (Rg.c x) }, n := Rg.n x, F := flOf (gFl (Rg.F x)), P := colOf (gI (Rg.P x)), B := colOf (gU64 (Rg.B x)) }))) (Int.toNat (Cf.S (Rg.c x)))) = false,
      (0 : Int) = (0 : Int)]) (by kernel_rfl) (.cons (by assumption) (.cons (by assumption) (.cons (by assumption) (.cons (by assumption) (.cons (by rfl) (.cons (by rfl) (.cons (by assumption) (.cons (by rfl) (.cons (by rfl) (.cons (by rfl) (.cons (by rfl) (.cons (by rfl) (.cons (by rfl) (.cons (by rfl) (.cons (by rfl) (.cons (by rfl) (.cons (by rfl) (.cons (by rfl) (.cons (by rfl) (.cons (by rfl) (.cons (by rfl) (.cons (by (intro _ _; exact ⟨rfl, rfl, rfl, rfl, rfl, trivial⟩)) (.cons (by rfl) (.cons (by (intro _ _; exact ⟨rfl, trivial⟩)) (.cons (by rfl) (.cons (by (intro _ _; exact ⟨rfl, trivial⟩)) (.cons (by exact bne_eq_false_iff_eq.2 he) (.cons (by assumption) (.cons (by rfl) (.cons (by rfl) (.cons (by assumption) (.cons (by rfl) (.cons (by rfl) (.cons (by rfl) (.cons (by rfl) (.cons (by rfl) (.cons (by rfl) (.cons (by rfl) (.cons (by rfl) (.cons (by rfl) (.cons (by rfl) (.cons (by rfl) (.cons (by rfl) (.cons (by (intro _ _; exact ⟨rfl, rfl, rfl, rfl, rfl, trivial⟩)) (.cons (by rfl) (.cons (by (intro _ _; exact ⟨rfl, trivial⟩)) (.cons (by rfl) (.cons (by (intro _ _; exact ⟨rfl, trivial⟩)) (.cons (by assumption) (.cons (by rfl) (.cons (by rfl) (.cons (by assumption) (.cons (by rfl) (.cons (by rfl) (.cons (by rfl) (.cons (by rfl) (.cons (by rfl) (.cons (by rfl) (.cons (by rfl) (.cons (by rfl) (.cons (by rfl) (.cons (by rfl) (.cons (by rfl) (.cons (by rfl) (.cons (by rfl) (.cons (by (intro _ _; exact ⟨rfl, rfl, rfl, rfl, rfl, trivial⟩)) (.cons (by rfl) (.cons (by (intro _ _; exact ⟨rfl, trivial⟩)) (.cons (by rfl) (.cons (by (intro _ _; exact ⟨rfl, trivial⟩)) (.cons (by assumption) (.cons (by assumption) (.cons (by assumption) (.cons (by rfl) (.cons (by omega) (.cons (by exact decide_eq_false hs) (.cons (by rfl) .nil))))))))))))))))))))))))))))))))))))))))))))))))))))))))))))))))))))))))))))) (Nat.le_of_ble_eq_true (by kernel_rfl))
end Go.Proofs.Ytmhkbepnankopaa

/- admit: the document's May as specifications. No condition. -/
namespace Go.Proofs.Ytmhkbepnankopaa
set_option linter.unusedVariables false
set_option linter.unusedSimpArgs false
open Go.RowKit E
def Rg.may (x : Rg) (id k : Int) : Int := if x.fit id k ≠ 0 then x.fit id k else if shU (IntKind.wrap IntKind.u64 (x.c.B - sU x.B x.n)) x.c.S.toNat ≤ x.ownB id then 17 else 0
theorem fnRMay (x : Rg) (id k : Int) (hn : x.n ≤ 100) (h2 : x.bd) (q0 : 0 ≤ k) (q1 : k ≤ 18446744073709551615) (s0 : 0 ≤ x.c.S) (s1 : x.c.S.toNat ≤ 16) : FnOk Try.prog 22 [p0, u32A id, uA k] x.R (iA (x.may id k)) gone4 := by
  obtain ⟨w0, w1⟩ := u64_bd (x.c.B - sU x.B x.n)
  unfold Rg.may
  by_cases e : x.fit id k ≠ 0
  · rw [if_pos e]; exact rmay_e x id k hn h2 q0 q1 e
  rw [if_neg e]
  have e := Classical.not_not.1 e
  by_cases a : shU (IntKind.wrap IntKind.u64 (x.c.B - sU x.B x.n)) x.c.S.toNat ≤ x.ownB id
  · rw [if_pos a]; exact rmay_s x id k hn h2 q0 q1 e w0 w1 s0 s1 a
  · rw [if_neg a]; exact rmay_o x id k hn h2 q0 q1 e w0 w1 s0 s1 a
def gRMay : List SV → List Seg → Option (CS × List Prop)
  | [.nv (.one (.ptr h 0)), .nv (.one (.val (.int .u32 id))), .nv (.one (.val (.int .u64 k)))], mem => match rgAt mem h with
    | some (x, o) => some (⟨[p0, u32A id, uA k], x.R, iA (x.may id k), gone4⟩, [x.n ≤ 100, x.bd, 0 ≤ k, k ≤ 18446744073709551615, 0 ≤ x.c.S, x.c.S.toNat ≤ 16] ++ o)
    | none => none
  | _, _ => none
theorem spRMay : SpOk Try.prog 22 (.lift gRMay) := by
  intro args mem cs obl h ho
  unfold gRMay at h
  split at h
  · split at h
    · simp only [Option.some.injEq, Prod.mk.injEq] at h
      obtain ⟨rfl, rfl⟩ := h
      exact fnRMay _ _ _ ho.1 ho.2.1 ho.2.2.1 ho.2.2.2.1 ho.2.2.2.2.1 ho.2.2.2.2.2.1
    · cases h
  · cases h
def Gad11 : List (FuncId × Sp) := (22, .lift gRMay) :: Gad10
theorem Gad11_ok : CtxOk Try.prog Gad11 := ctx_cons (enter_of Try.func22 (by kernel_rfl) (by kernel_rfl)) spRMay Gad10_ok
end Go.Proofs.Ytmhkbepnankopaa

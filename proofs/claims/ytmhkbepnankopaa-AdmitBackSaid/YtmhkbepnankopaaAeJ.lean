/- Runs of Go code, as printed by a program: no condition beyond those that each states. -/
import Derived.Test.YtmhkbepnankopaaAeH
import Derived.Test.YtmhkbepnankopaaChecked
import Derived.KernelRfl
namespace Go.Proofs.Ytmhkbepnankopaa
set_option linter.unusedVariables false
set_option linter.unusedSimpArgs false
set_option maxRecDepth 100000
open Go.RowKit E
attribute [local irreducible] fd homeN reT capU gtP gtB gtO gtU setT shU Ga.fit Ga.may chkF chkA mM putT sI sU idx Rg.fit Rg.may
set_option maxHeartbeats 2000000 in
theorem rout_13 (c : Cf) (n : Nat) (F : Fl) (P B : Nat → Int) (id k : Int) (hn : n ≤ 100) (hi : idx F.id id n < 0) : FnOk Try.prog 19 ([p0, u32A id, uA k]) ((Rg.mk c n F P B).W) (iA 13) ((Rg.mk c n F P B).V) :=
  fn_run Gad11_ok Try.func19 (orc := ⟨[true], []⟩) (obl := [n ≤ (4611686018427387904 : Nat),
      id = id,
      n = n,
      ∀ (i : Nat), i < n → Fl.id F i = Fl.id (flOf (gFl F)) i ∧ Fl.co F i = Fl.co (flOf (gFl F)) i ∧ Fl.bu F i = Fl.bu (flOf (gFl F)) i ∧ Fl.si F i = Fl.si (flOf (gFl F)) i ∧ Fl.ca F i = Fl.ca (flOf (gFl F)) i ∧ True,
      decide (idx (Fl.id (flOf (gFl (Rg.F { c := c, n := n, F := F, P := P, B := B })))) id (Rg.n { c := c, n := n, F := F, P := P, B := B }) < (0 : Int)) = true,
      (13 : Int) = (13 : Int),
      Cf.a c = Cf.a c,
      Cf.c c = Cf.c c,
      Cf.l c = Cf.l c,
      Cf.q c = Cf.q c,
      Cf.P c = Cf.P c,
      Cf.B c = Cf.B c,
      Cf.S c = Cf.S c,
      Cf.U c = Cf.U c,
      Cf.r c = Cf.r c,
      Cf.u c = Cf.u c,
      n = n,
      ∀ (i : Nat), i < n → Fl.id F i = Fl.id F i ∧ Fl.co F i = Fl.co F i ∧ Fl.bu F i = Fl.bu F i ∧ Fl.si F i = Fl.si F i ∧ Fl.ca F i = Fl.ca F i ∧ True,
      n = n,
      ∀ (i : Nat), i < n → P i = P i ∧ True,
      n = n,
      ∀ (i : Nat), i < n → B i = B i ∧ True]) (by kernel_rfl) (.cons (by omega) (.cons (by rfl) (.cons (by rfl) (.cons (by (intro _ _; exact ⟨rfl, rfl, rfl, rfl, rfl, trivial⟩)) (.cons (by exact decide_eq_true hi) (.cons (by rfl) (.cons (by rfl) (.cons (by rfl) (.cons (by rfl) (.cons (by rfl) (.cons (by rfl) (.cons (by rfl) (.cons (by rfl) (.cons (by rfl) (.cons (by rfl) (.cons (by rfl) (.cons (by rfl) (.cons (by (simp; done)) (.cons (by rfl) (.cons (by (intro _ _; exact ⟨rfl, trivial⟩)) (.cons (by rfl) (.cons (by (intro _ _; exact ⟨rfl, trivial⟩)) .nil)))))))))))))))))))))) (Nat.le_of_ble_eq_true (by kernel_rfl))

set_option maxHeartbeats 2000000 in
theorem rout_9 (c : Cf) (n : Nat) (F : Fl) (P B : Nat → Int) (id k : Int) (hn : n ≤ 100) (hi : ¬ idx F.id id n < 0) (k0 : 0 ≤ idx F.id id n) (k1 : idx F.id id n < (n : Int)) (k2 : (idx F.id id n).toNat < n) (he : P (idx F.id id n).toNat = 0) : FnOk Try.prog 19 ([p0, u32A id, uA k]) ((Rg.mk c n F P B).W) (iA 9) ((Rg.mk c n F P B).V) :=
  fn_run Gad11_ok Try.func19 (orc := ⟨[false, true, true], []⟩) (obl := [n ≤ (4611686018427387904 : Nat),
      id = id,
      n = n,
      ∀ (i : Nat), i < n → Fl.id F i = Fl.id (flOf (gFl F)) i ∧ Fl.co F i = Fl.co (flOf (gFl F)) i ∧ Fl.bu F i = Fl.bu (flOf (gFl F)) i ∧ Fl.si F i = Fl.si (flOf (gFl F)) i ∧ Fl.ca F i = Fl.ca (flOf (gFl F)) i ∧ True,
      decide (idx (Fl.id (flOf (gFl (Rg.F { c := c, n := n, F := F, P := P, B := B })))) id (Rg.n { c := c, n := n, F := F, P := P, B := B }) < (0 : Int)) = false,
      (0 : Int) ≤ idx (Fl.id (flOf (gFl F))) id n,
      idx (Fl.id (flOf (gFl F))) id n < (↑n : Int),
      Int.toNat (idx (Fl.id (flOf (gFl F))) id n) < n,
      (Rg.P { c := c, n := n, F := F, P := P, B := B } (Int.toNat (idx (Fl.id (flOf (gFl (Rg.F { c := c, n := n, F := F, P := P, B := B })))) id (Rg.n { c := c, n := n, F := F, P := P, B := B }))) == (0 : Int)) = true,
      true = true,
      (9 : Int) = (9 : Int),
      Cf.a c = Cf.a c,
      Cf.c c = Cf.c c,
      Cf.l c = Cf.l c,
      Cf.q c = Cf.q c,
      Cf.P c = Cf.P c,
      Cf.B c = Cf.B c,
      Cf.S c = Cf.S c,
      Cf.U c = Cf.U c,
      Cf.r c = Cf.r c,
      Cf.u c = Cf.u c,
      n = n,
      ∀ (i : Nat), i < n → Fl.id F i = Fl.id F i ∧ Fl.co F i = Fl.co F i ∧ Fl.bu F i = Fl.bu F i ∧ Fl.si F i = Fl.si F i ∧ Fl.ca F i = Fl.ca F i ∧ True,
      n = n,
      ∀ (i : Nat), i < n → P i = P i ∧ True,
      n = n,
      ∀ (i : Nat), i < n → B i = B i ∧ True]) (by kernel_rfl) (.cons (by omega) (.cons (by rfl) (.cons (by rfl) (.cons (by (intro _ _; exact ⟨rfl, rfl, rfl, rfl, rfl, trivial⟩)) (.cons (by exact decide_eq_false hi) (.cons (by assumption) (.cons (by assumption) (.cons (by assumption) (.cons (by exact beq_iff_eq.2 he) (.cons (by rfl) (.cons (by rfl) (.cons (by rfl) (.cons (by rfl) (.cons (by rfl) (.cons (by rfl) (.cons (by rfl) (.cons (by rfl) (.cons (by rfl) (.cons (by rfl) (.cons (by rfl) (.cons (by rfl) (.cons (by rfl) (.cons (by (simp; done)) (.cons (by rfl) (.cons (by (intro _ _; exact ⟨rfl, trivial⟩)) (.cons (by rfl) (.cons (by (intro _ _; exact ⟨rfl, trivial⟩)) .nil))))))))))))))))))))))))))) (Nat.le_of_ble_eq_true (by kernel_rfl))

set_option maxHeartbeats 2000000 in
theorem rout_9b (c : Cf) (n : Nat) (F : Fl) (P B : Nat → Int) (id k : Int) (hn : n ≤ 100) (hi : ¬ idx F.id id n < 0) (k0 : 0 ≤ idx F.id id n) (k1 : idx F.id id n < (n : Int)) (k2 : (idx F.id id n).toNat < n) (he : P (idx F.id id n).toNat ≠ 0) (hb : B (idx F.id id n).toNat < k) : FnOk Try.prog 19 ([p0, u32A id, uA k]) ((Rg.mk c n F P B).W) (iA 9) ((Rg.mk c n F P B).V) :=
  fn_run Gad11_ok Try.func19 (orc := ⟨[false, false, true], []⟩) (obl := [n ≤ (4611686018427387904 : Nat),
      id = id,
      n = n,
      ∀ (i : Nat), i < n → Fl.id F i = Fl.id (flOf (gFl F)) i ∧ Fl.co F i = Fl.co (flOf (gFl F)) i ∧ Fl.bu F i = Fl.bu (flOf (gFl F)) i ∧ Fl.si F i = Fl.si (flOf (gFl F)) i ∧ Fl.ca F i = Fl.ca (flOf (gFl F)) i ∧ True,
      decide (idx (Fl.id (flOf (gFl (Rg.F { c := c, n := n, F := F, P := P, B := B })))) id (Rg.n { c := c, n := n, F := F, P := P, B := B }) < (0 : Int)) = false,
      (0 : Int) ≤ idx (Fl.id (flOf (gFl F))) id n,
      idx (Fl.id (flOf (gFl F))) id n < (↑n : Int),
      Int.toNat (idx (Fl.id (flOf (gFl F))) id n) < n,
      (Rg.P { c := c, n := n, F := F, P := P, B := B } (Int.toNat (idx (Fl.id (flOf (gFl (Rg.F { c := c, n := n, F := F, P := P, B := B })))) id (Rg.n { c := c, n := n, F := F, P := P, B := B }))) == (0 : Int)) = false,
      (0 : Int) ≤ idx (Fl.id (flOf (gFl F))) id n,
      idx (Fl.id (flOf (gFl F))) id n < (↑n : Int),
      Int.toNat (idx (Fl.id (flOf (gFl F))) id n) < n,
      decide (Rg.B { c := c, n := n, F := F, P := P, B := B } (Int.toNat (idx (Fl.id (flOf (gFl (Rg.F { c := c, n := n, F := F, P := P, B := B })))) id (Rg.n { c := c, n := n, F := F, P := P, B := B }))) < k) = true,
      (9 : Int) = (9 : Int),
      Cf.a c = Cf.a c,
      Cf.c c = Cf.c c,
      Cf.l c = Cf.l c,
      Cf.q c = Cf.q c,
      Cf.P c = Cf.P c,
      Cf.B c = Cf.B c,
      Cf.S c = Cf.S c,
      Cf.U c = Cf.U c,
      Cf.r c = Cf.r c,
      Cf.u c = Cf.u c,
      n = n,
      ∀ (i : Nat), i < n → Fl.id F i = Fl.id F i ∧ Fl.co F i = Fl.co F i ∧ Fl.bu F i = Fl.bu F i ∧ Fl.si F i = Fl.si F i ∧ Fl.ca F i = Fl.ca F i ∧ True,
      n = n,
      ∀ (i : Nat), i < n → P i = P i ∧ True,
      n = n,
      ∀ (i : Nat), i < n → B i = B i ∧ True]) (by kernel_rfl) (.cons (by omega) (.cons (by rfl) (.cons (by rfl) (.cons (by (intro _ _; exact ⟨rfl, rfl, rfl, rfl, rfl, trivial⟩)) (.cons (by exact decide_eq_false hi) (.cons (by assumption) (.cons (by assumption) (.cons (by assumption) (.cons (by exact beq_eq_false_iff_ne.2 he) (.cons (by assumption) (.cons (by assumption) (.cons (by assumption) (.cons (by exact decide_eq_true hb) (.cons (by rfl) (.cons (by rfl) (.cons (by rfl) (.cons (by rfl) (.cons (by rfl) (.cons (by rfl) (.cons (by rfl) (.cons (by rfl) (.cons (by rfl) (.cons (by rfl) (.cons (by rfl) (.cons (by rfl) (.cons (by (simp; done)) (.cons (by rfl) (.cons (by (intro _ _; exact ⟨rfl, trivial⟩)) (.cons (by rfl) (.cons (by (intro _ _; exact ⟨rfl, trivial⟩)) .nil)))))))))))))))))))))))))))))) (Nat.le_of_ble_eq_true (by kernel_rfl))

set_option maxHeartbeats 2000000 in
theorem rout_ok (c : Cf) (n : Nat) (F : Fl) (P B : Nat → Int) (id k : Int) (hn : n ≤ 100) (hi : ¬ idx F.id id n < 0) (k0 : 0 ≤ idx F.id id n) (k1 : idx F.id id n < (n : Int)) (k2 : (idx F.id id n).toNat < n) (he : P (idx F.id id n).toNat ≠ 0) (hb : ¬ B (idx F.id id n).toNat < k) : FnOk Try.prog 19 ([p0, u32A id, uA k]) ((Rg.mk c n F P B).W) (iA 0) (((Rg.mk c n F P B).chg (idx F.id id n).toNat (IntKind.wrap .i64 (P (idx F.id id n).toNat - 1)) (IntKind.wrap .u64 (B (idx F.id id n).toNat - k))).V) :=
  fn_run Gad11_ok Try.func19 (orc := ⟨[false, false, false], []⟩) (obl := [n ≤ (4611686018427387904 : Nat),
      id = id,
      n = n,
      ∀ (i : Nat), i < n → Fl.id F i = Fl.id (flOf (gFl F)) i ∧ Fl.co F i = Fl.co (flOf (gFl F)) i ∧ Fl.bu F i = Fl.bu (flOf (gFl F)) i ∧ Fl.si F i = Fl.si (flOf (gFl F)) i ∧ Fl.ca F i = Fl.ca (flOf (gFl F)) i ∧ True,
      decide (idx (Fl.id (flOf (gFl (Rg.F { c := c, n := n, F := F, P := P, B := B })))) id (Rg.n { c := c, n := n, F := F, P := P, B := B }) < (0 : Int)) = false,
      (0 : Int) ≤ idx (Fl.id (flOf (gFl F))) id n,
      idx (Fl.id (flOf (gFl F))) id n < (↑n : Int),
      Int.toNat (idx (Fl.id (flOf (gFl F))) id n) < n,
      (Rg.P { c := c, n := n, F := F, P := P, B := B } (Int.toNat (idx (Fl.id (flOf (gFl (Rg.F { c := c, n := n, F := F, P := P, B := B })))) id (Rg.n { c := c, n := n, F := F, P := P, B := B }))) == (0 : Int)) = false,
      (0 : Int) ≤ idx (Fl.id (flOf (gFl F))) id n,
      idx (Fl.id (flOf (gFl F))) id n < (↑n : Int),
      Int.toNat (idx (Fl.id (flOf (gFl F))) id n) < n,
      decide (Rg.B { c := c, n := n, F := F, P := P, B := B } (Int.toNat (idx (Fl.id (flOf (gFl (Rg.F { c := c, n := n, F := F, P := P, B := B })))) id (Rg.n { c := c, n := n, F := F, P := P, B := B }))) < k) = false,
      (0 : Int) ≤ idx (Fl.id (flOf (gFl F))) id n,
      idx (Fl.id (flOf (gFl F))) id n < (↑n : Int),
      Int.toNat (idx (Fl.id (flOf (gFl F))) id n) < n,
      (0 : Int) ≤ idx (Fl.id (flOf (gFl F))) id n,
      idx (Fl.id (flOf (gFl F))) id n < (↑n : Int),
      Int.toNat (idx (Fl.id (flOf (gFl F))) id n) < n,
      n ≤ (100 : Nat),
      Int.toNat (idx (Fl.id (flOf (gFl F))) id n) < n,
      n = n,
      n = n,
      n ≤ (100 : Nat),
      (0 : Nat) = (0 : Nat),
      idx (Fl.id (flOf (gFl F))) id n = (↑(Int.toNat (idx (Fl.id (flOf (gFl F))) id n)) : Int),
      IntKind.wrap IntKind.i64 (P (Int.toNat (idx (Fl.id (flOf (gFl F))) id n)) - (1 : Int)) = IntKind.wrap IntKind.i64 (P (Int.toNat (idx (Fl.id (flOf (gFl F))) id n)) - (1 : Int)),
      IntKind.wrap IntKind.u64 (B (Int.toNat (idx (Fl.id (flOf (gFl F))) id n)) - k) = IntKind.wrap IntKind.u64 (B (Int.toNat (idx (Fl.id (flOf (gFl F))) id n)) - k),
      Cf.a c = Cf.a c,
      Cf.c c = Cf.c c,
      Cf.l c = Cf.l c,
      Cf.q c = Cf.q c,
      Cf.P c = Cf.P c,
      Cf.B c = Cf.B c,
      Cf.S c = Cf.S c,
      Cf.U c = Cf.U c,
      Cf.r c = Cf.r c,
      Cf.u c = Cf.u c,
      n = n,
      ∀ (i : Nat), i < n → Fl.id F i = Fl.id (flOf (gFl F)) i ∧ Fl.co F i = Fl.co (flOf (gFl F)) i ∧ Fl.bu F i = Fl.bu (flOf (gFl F)) i ∧ Fl.si F i = Fl.si (flOf (gFl F)) i ∧ Fl.ca F i = Fl.ca (flOf (gFl F)) i ∧ True,
      n = n,
      ∀ (i : Nat), i < n → P i = colOf (gI P) i ∧ True,
      n = n,
      ∀ (i : Nat), i < n → B i = colOf (gU64 B) i ∧ True,
      ∀ (i : Nat), i < Rg.n (Rg.chg { c := c, n := n, F := flOf (gFl F), P := colOf (gI P), B := colOf (gU64 B) } (Int.toNat (idx (Fl.id (flOf (gFl F))) id n)) (IntKind.wrap IntKind.i64 (P (Int.toNat (idx (Fl.id (flOf (gFl F))) id n)) - (1 : Int))) (IntKind.wrap IntKind.u64 (B (Int.toNat (idx (Fl.id (flOf (gFl F))) id n)) - k))) → (true && true) = true,
      ∀ (i : Nat), i < Rg.n (Rg.chg { c := c, n := n, F := flOf (gFl F), P := colOf (gI P), B := colOf (gU64 B) } (Int.toNat (idx (Fl.id (flOf (gFl F))) id n)) (IntKind.wrap IntKind.i64 (P (Int.toNat (idx (Fl.id (flOf (gFl F))) id n)) - (1 : Int))) (IntKind.wrap IntKind.u64 (B (Int.toNat (idx (Fl.id (flOf (gFl F))) id n)) - k))) → (true && true) = true,
      (0 : Int) = (0 : Int),
      Cf.a (Rg.c (Rg.chg { c := c, n := n, F := flOf (gFl F), P := colOf (gI P), B := colOf (gU64 B) } (Int.toNat (idx (Fl.id (flOf (gFl F))) id n)) (IntKind.wrap IntKind.i64 (P (Int.toNat (idx (Fl.id (flOf (gFl F))) id n)) - (1 : Int))) (IntKind.wrap IntKind.u64 (B (Int.toNat (idx (Fl.id (flOf (gFl F))) id n)) - k)))) = Cf.a (Rg.c (Rg.chg { c := c, n := n, F := F, P := P, B := B } (Int.toNat (idx (Fl.id F) id n)) (IntKind.wrap IntKind.i64 (P (Int.toNat (idx (Fl.id F) id n)) - (1 : Int))) (IntKind.wrap IntKind.u64 (B (Int.toNat (idx (Fl.id F) id n)) - k)))),
      Cf.c (Rg.c (Rg.chg { c := c, n := n, F := flOf (gFl F), P := colOf (gI P), B := colOf (gU64 B) } (Int.toNat (idx (Fl.id (flOf (gFl F))) id n)) (IntKind.wrap IntKind.i64 (P (Int.toNat (idx (Fl.id (flOf (gFl F))) id n)) - (1 : Int))) (IntKind.wrap IntKind.u64 (B (Int.toNat (idx (Fl.id (flOf (gFl F))) id n)) - k)))) = Cf.c (Rg.c (Rg.chg { c := c, n := n, F := F, P := P, B := B } (Int.toNat (idx (Fl.id F) id n)) (IntKind.wrap IntKind.i64 (P (Int.toNat (idx (Fl.id F) id n)) - (1 : Int))) (IntKind.wrap IntKind.u64 (B (Int.toNat (idx (Fl.id F) id n)) - k)))),
      Cf.l (Rg.c (Rg.chg { c := c, n := n, F := flOf (gFl F), P := colOf (gI P), B := colOf (gU64 B) } (Int.toNat (idx (Fl.id (flOf (gFl F))) id n)) (IntKind.wrap IntKind.i64 (P (Int.toNat (idx (Fl.id (flOf (gFl F))) id n)) - (1 : Int))) (IntKind.wrap IntKind.u64 (B (Int.toNat (idx (Fl.id (flOf (gFl F))) id n)) - k)))) = Cf.l (Rg.c (Rg.chg { c := c, n := n, F := F, P := P, B := B } (Int.toNat (idx (Fl.id F) id n)) (IntKind.wrap IntKind.i64 (P (Int.toNat (idx (Fl.id F) id n)) - (1 : Int))) (IntKind.wrap IntKind.u64 (B (Int.toNat (idx (Fl.id F) id n)) - k)))),
      Cf.q (Rg.c (Rg.chg { c := c, n := n, F := flOf (gFl F), P := colOf (gI P), B := colOf (gU64 B) } (Int.toNat (idx (Fl.id (flOf (gFl F))) id n)) (IntKind.wrap IntKind.i64 (P (Int.toNat (idx (Fl.id (flOf (gFl F))) id n)) - (1 : Int))) (IntKind.wrap IntKind.u64 (B (Int.toNat (idx (Fl.id (flOf (gFl F))) id n)) - k)))) = Cf.q (Rg.c (Rg.chg { c := c, n := n, F := F, P := P, B := B } (Int.toNat (idx (Fl.id F) id n)) (IntKind.wrap IntKind.i64 (P (Int.toNat (idx (Fl.id F) id n)) - (1 : Int))) (IntKind.wrap IntKind.u64 (B (Int.toNat (idx (Fl.id F) id n)) - k)))),
      Cf.P (Rg.c (Rg.chg { c := c, n := n, F := flOf (gFl F), P := colOf (gI P), B := colOf (gU64 B) } (Int.toNat (idx (Fl.id (flOf (gFl F))) id n)) (IntKind.wrap IntKind.i64 (P (Int.toNat (idx (Fl.id (flOf (gFl F))) id n)) - (1 : Int))) (IntKind.wrap IntKind.u64 (B (Int.toNat (idx (Fl.id (flOf (gFl F))) id n)) - k)))) = Cf.P (Rg.c (Rg.chg { c := c, n := n, F := F, P := P, B := B } (Int.toNat (idx (Fl.id F) id n)) (IntKind.wrap IntKind.i64 (P (Int.toNat (idx (Fl.id F) id n)) - (1 : Int))) (IntKind.wrap IntKind.u64 (B (Int.toNat (idx (Fl.id F) id n)) - k)))),
      Cf.B (Rg.c (Rg.chg { c := c, n := n, F := flOf (gFl F), P := colOf (gI P), B := colOf (gU64 B) } (Int.toNat (idx (Fl.id (flOf (gFl F))) id n)) (IntKind.wrap IntKind.i64 (P (Int.toNat (idx (Fl.id (flOf (gFl F))) id n)) - (1 : Int))) (IntKind.wrap IntKind.u64 (B (Int.toNat (idx (Fl.id (flOf (gFl F))) id n)) - k)))) = Cf.B (Rg.c (Rg.chg { c := c, n := n, F := F, P := P, B := B } (Int.toNat (idx (Fl.id F) id n)) (IntKind.wrap IntKind.i64 (P (Int.toNat (idx (Fl.id F) id n)) - (1 : Int))) (IntKind.wrap IntKind.u64 (B (Int.toNat (idx (Fl.id F) id n)) - k)))),
      Cf.S (Rg.c (Rg.chg { c := c, n := n, F := flOf (gFl F), P := colOf (gI P), B := colOf (gU64 B) } (Int.toNat (idx (Fl.id (flOf (gFl F))) id n)) (IntKind.wrap IntKind.i64 (P (Int.toNat (idx (Fl.id (flOf (gFl F))) id n)) - (1 : Int))) (IntKind.wrap IntKind.u64 (B (Int.toNat (idx (Fl.id (flOf (gFl F))) id n)) - k)))) = Cf.S (Rg.c (Rg.chg { c := c, n := n, F := F, P := P, B := B } (Int.toNat (idx (Fl.id F) id n)) (IntKind.wrap IntKind.i64 (P (Int.toNat (idx (Fl.id F) id n)) - (1 : Int))) (IntKind.wrap IntKind.u64 (B (Int.toNat (idx (Fl.id F) id n)) - k)))),
      Cf.U (Rg.c (Rg.chg { c := c, n := n, F := flOf (gFl F), P := colOf (gI P), B := colOf (gU64 B) } (Int.toNat (idx (Fl.id (flOf (gFl F))) id n)) (IntKind.wrap IntKind.i64 (P (Int.toNat (idx (Fl.id (flOf (gFl F))) id n)) - (1 : Int))) (IntKind.wrap IntKind.u64 (B (Int.toNat (idx (Fl.id (flOf (gFl F))) id n)) - k)))) = Cf.U (Rg.c (Rg.chg { c := c, n := n, F := F, P := P, B := B } (Int.toNat (idx (Fl.id F) id n)) (IntKind.wrap IntKind.i64 (P (Int.toNat (idx (Fl.id F) id n)) - (1 : Int))) (IntKind.wrap IntKind.u64 (B (Int.toNat (idx (Fl.id F) id n)) - k)))),
      Cf.r (Rg.c (Rg.chg { c := c, n := n, F := flOf (gFl F), P := colOf (gI P), B := colOf (gU64 B) } (Int.toNat (idx (Fl.id (flOf (gFl F))) id n)) (IntKind.wrap IntKind.i64 (P (Int.toNat (idx (Fl.id (flOf (gFl F))) id n)) - (1 : Int))) (IntKind.wrap IntKind.u64 (B (Int.toNat (idx (Fl.id (flOf (gFl F))) id n)) - k)))) = Cf.r (Rg.c (Rg.chg { c := c, n := n, F := F, P := P, B := B } (Int.toNat (idx (Fl.id F) id n)) (IntKind.wrap IntKind.i64 (P (Int.toNat (idx (Fl.id F) id n)) - (1 : Int))) (IntKind.wrap IntKind.u64 (B (Int.toNat (idx (Fl.id F) id n)) - k)))),
      Cf.u (Rg.c (Rg.chg { c := c, n := n, F := flOf (gFl F), P := colOf (gI P), B := colOf (gU64 B) } (Int.toNat (idx (Fl.id (flOf (gFl F))) id n)) (IntKind.wrap IntKind.i64 (P (Int.toNat (idx (Fl.id (flOf (gFl F))) id n)) - (1 : Int))) (IntKind.wrap IntKind.u64 (B (Int.toNat (idx (Fl.id (flOf (gFl F))) id n)) - k)))) = Cf.u (Rg.c (Rg.chg { c := c, n := n, F := F, P := P, B := B } (Int.toNat (idx (Fl.id F) id n)) (IntKind.wrap IntKind.i64 (P (Int.toNat (idx (Fl.id F) id n)) - (1 : Int))) (IntKind.wrap IntKind.u64 (B (Int.toNat (idx (Fl.id F) id n)) - k)))),
      n = Rg.n (Rg.chg { c := c, n := n, F := F, P := P, B := B } (Int.toNat (idx (Fl.id F) id n)) (IntKind.wrap IntKind.i64 (P (Int.toNat (idx (Fl.id F) id n)) - (1 : Int))) (IntKind.wrap IntKind.u64 (B (Int.toNat (idx (Fl.id F) id n)) - k))),
      ∀ (i : Nat), i < n → Fl.id F i = Fl.id (Rg.F (Rg.chg { c := c, n := n, F := F, P := P, B := B } (Int.toNat (idx (Fl.id F) id n)) (IntKind.wrap IntKind.i64 (P (Int.toNat (idx (Fl.id F) id n)) - (1 : Int))) (IntKind.wrap IntKind.u64 (B (Int.toNat (idx (Fl.id F) id n)) - k)))) i ∧ Fl.co F i = Fl.co (Rg.F (Rg.chg { c := c, n := n, F := F, P := P, B := B } (Int.toNat (idx (Fl.id F) id n)) (IntKind.wrap IntKind.i64 (P (Int.toNat (idx (Fl.id F) id n)) - (1 : Int))) (IntKind.wrap IntKind.u64 (B (Int.toNat (idx (Fl.id F) id n)) - k)))) i ∧ Fl.bu F i = Fl.bu (Rg.F (Rg.chg { c := c, n := n, F := F, P := P, B := B } (Int.toNat (idx (Fl.id F) id n)) (IntKind.wrap IntKind.i64 (P (Int.toNat (idx (Fl.id F) id n)) - (1 : Int))) (IntKind.wrap IntKind.u64 (B (Int.toNat (idx (Fl.id F) id n)) - k)))) i ∧ Fl.si F i = Fl.si (Rg.F (Rg.chg { c := c, n := n, F := F, P := P, B := B } (Int.toNat (idx (Fl.id F) id n)) (IntKind.wrap IntKind.i64 (P (Int.toNat (idx (Fl.id F) id n)) - (1 : Int))) (IntKind.wrap IntKind.u64 (B (Int.toNat (idx (Fl.id F) id n)) - k)))) i ∧ Fl.ca F i = Fl.ca (Rg.F (Rg.chg { c := c, n := n, F := F, P := P, B := B } (Int.toNat (idx (Fl.id F) id n)) (IntKind.wrap IntKind.i64 (P (Int.toNat (idx (Fl.id F) id n)) - (1 : Int))) (IntKind.wrap IntKind.u64 (B (Int.toNat (idx (Fl.id F) id n)) - k)))) i ∧ True,
      Rg.n (Rg.chg { c := c, n := n, F := flOf (gFl F), P := colOf (gI P), B := colOf (gU64 B) } (Int.toNat (idx (Fl.id (flOf (gFl F))) id n)) (IntKind.wrap IntKind.i64 (P (Int.toNat (idx (Fl.id (flOf (gFl F))) id n)) - (1 : Int))) (IntKind.wrap IntKind.u64 (B (Int.toNat (idx (Fl.id (flOf (gFl F))) id n)) - k))) = Rg.n (Rg.chg { c := c, n := n, F := F, P := P, B := B } (Int.toNat (idx (Fl.id F) id n)) (IntKind.wrap IntKind.i64 (P (Int.toNat (idx (Fl.id F) id n)) - (1 : Int))) (IntKind.wrap IntKind.u64 (B (Int.toNat (idx (Fl.id F) id n)) - k))),
      ∀ (i : Nat), i < Rg.n (Rg.chg { c := c, n := n, F := flOf (gFl F), P := colOf (gI P), B := colOf (gU64 B) } (Int.toNat (idx (Fl.id (flOf (gFl F))) id n)) (IntKind.wrap IntKind.i64 (P (Int.toNat (idx (Fl.id (flOf (gFl F))) id n)) - (1 : Int))) (IntKind.wrap IntKind.u64 (B (Int.toNat (idx (Fl.id (flOf (gFl F))) id n)) - k))) → Rg.P (Rg.chg { c := c, n := n, F := flOf (gFl F), P := colOf (gI P), B := colOf (gU64 B) } (Int.toNat (idx (Fl.id (flOf (gFl F))) id n)) (IntKind.wrap IntKind.i64 (P (Int.toNat (idx (Fl.id (flOf (gFl F))) id n)) - (1 : Int))) (IntKind.wrap IntKind.u64 (B (Int.toNat (idx (Fl.id (flOf (gFl F))) id n)) - k))) i = Rg.P (Rg.chg { c := c, n := n, F := F, P := P, B := B } (Int.toNat (idx (Fl.id F) id n)) (IntKind.wrap IntKind.i64 (P (Int.toNat (idx (Fl.id F) id n)) - (1 : Int))) (IntKind.wrap IntKind.u64 (B (Int.toNat (idx (Fl.id F) id n)) - k))) i ∧ True,
      Rg.n (Rg.chg { c := c, n := n, F := flOf (gFl F), P := colOf (gI P), B := colOf (gU64 B) } (Int.toNat (idx (Fl.id (flOf (gFl F))) id n)) (IntKind.wrap IntKind.i64 (P (Int.toNat (idx (Fl.id (flOf (gFl F))) id n)) - (1 : Int))) (IntKind.wrap IntKind.u64 (B (Int.toNat (idx (Fl.id (flOf (gFl F))) id n)) - k))) = Rg.n (Rg.chg { c := c, n := n, F := F, P := P, B := B } (Int.toNat (idx (Fl.id F) id n)) (IntKind.wrap IntKind.i64 (P (Int.toNat (idx (Fl.id F) id n)) - (1 : Int))) (IntKind.wrap IntKind.u64 (B (Int.toNat (idx (Fl.id F) id n)) - k))),
      ∀ (i : Nat), i < Rg.n (Rg.chg { c := c, n := n, F := flOf (gFl F), P := colOf (gI P), B := colOf (gU64 B) } (Int.toNat (idx (Fl.id (flOf (gFl F))) id n)) (IntKind.wrap IntKind.i64 (P (Int.toNat (idx (Fl.id (flOf (gFl F))) id n)) - (1 : Int))) (IntKind.wrap IntKind.u64 (B (Int.toNat (idx (Fl.id (flOf (gFl F))) id n)) - k))) → Rg.B (Rg.chg { c := c, n := n, F := flOf (gFl F), P := colOf (gI P), B := colOf (gU64 B) } (Int.toNat (idx (Fl.id (flOf (gFl F))) id n)) (IntKind.wrap IntKind.i64 (P (Int.toNat (idx (Fl.id (flOf (gFl F))) id n)) - (1 : Int))) (IntKind.wrap IntKind.u64 (B (Int.toNat (idx (Fl.id (flOf (gFl F))) id n)) - k))) i = Rg.B (Rg.chg { c := c, n := n, F := F, P := P, B := B } (Int.toNat (idx (Fl.id F) id n)) (IntKind.wrap IntKind.i64 (P (Int.toNat (idx (Fl.id F) id n)) - (1 : Int))) (IntKind.wrap IntKind.u64 (B (Int.toNat (idx (Fl.id F) id n)) - k))) i ∧ True]) (by kernel_rfl) (.cons (by omega) (.cons (by rfl) (.cons (by rfl) (.cons (by (intro _ _; exact ⟨rfl, rfl, rfl, rfl, rfl, trivial⟩)) (.cons (by exact decide_eq_false hi) (.cons (by assumption) (.cons (by assumption) (.cons (by assumption) (.cons (by exact beq_eq_false_iff_ne.2 he) (.cons (by assumption) (.cons (by assumption) (.cons (by assumption) (.cons (by exact decide_eq_false hb) (.cons (by assumption) (.cons (by assumption) (.cons (by assumption) (.cons (by assumption) (.cons (by assumption) (.cons (by assumption) (.cons (by assumption) (.cons (by assumption) (.cons (by rfl) (.cons (by rfl) (.cons (by assumption) (.cons (by rfl) (.cons (by exact (Int.toNat_of_nonneg k0).symm) (.cons (by rfl) (.cons (by rfl) (.cons (by rfl) (.cons (by rfl) (.cons (by rfl) (.cons (by rfl) (.cons (by rfl) (.cons (by rfl) (.cons (by rfl) (.cons (by rfl) (.cons (by rfl) (.cons (by rfl) (.cons (by rfl) (.cons (by (intro _ _; exact ⟨rfl, rfl, rfl, rfl, rfl, trivial⟩)) (.cons (by rfl) (.cons (by (intro _ _; exact ⟨rfl, trivial⟩)) (.cons (by rfl) (.cons (by (intro _ _; exact ⟨rfl, trivial⟩)) (.cons (by (intro _ _; rfl)) (.cons (by (intro _ _; rfl)) (.cons (by rfl) (.cons (by rfl) (.cons (by rfl) (.cons (by rfl) (.cons (by rfl) (.cons (by rfl) (.cons (by rfl) (.cons (by rfl) (.cons (by rfl) (.cons (by rfl) (.cons (by rfl) (.cons (by rfl) (.cons (by (intro _ _; exact ⟨rfl, rfl, rfl, rfl, rfl, trivial⟩)) (.cons (by rfl) (.cons (by (intro _ _; exact ⟨rfl, trivial⟩)) (.cons (by rfl) (.cons (by (intro _ _; exact ⟨rfl, trivial⟩)) .nil))))))))))))))))))))))))))))))))))))))))))))))))))))))))))))))) (Nat.le_of_ble_eq_true (by kernel_rfl))

set_option maxHeartbeats 2000000 in
theorem rinn_e (c : Cf) (n : Nat) (F : Fl) (P B : Nat → Int) (id k : Int) (hn : n ≤ 100) (h2 : (Rg.mk c n F P B).bd) (q0 : 0 ≤ k) (q1 : k ≤ 18446744073709551615) (s0 : 0 ≤ c.S) (s1 : c.S.toNat ≤ 16) (he : (Rg.mk c n F P B).may id k ≠ 0) : FnOk Try.prog 18 ([p0, u32A id, uA k]) ((Rg.mk c n F P B).W) (iA ((Rg.mk c n F P B).may id k)) ((Rg.mk c n F P B).V) :=
  fn_run Gad11_ok Try.func18 (orc := ⟨[false], []⟩) (obl := [n ≤ (100 : Nat),
      Rg.bd { c := c, n := n, F := flOf (gFl F), P := colOf (gI P), B := colOf (gU64 B) },
      (0 : Int) ≤ k,
      k ≤ (18446744073709551615 : Int),
      (0 : Int) ≤ Cf.S c,
      Int.toNat (Cf.S c) ≤ (16 : Nat),
      n = n,
      n = n,
      n ≤ (100 : Nat),
      (0 : Nat) = (0 : Nat),
      id = id,
      k = k,
      Cf.a c = Cf.a c,
      Cf.c c = Cf.c c,
      Cf.l c = Cf.l c,
      Cf.q c = Cf.q c,
      Cf.P c = Cf.P c,
      Cf.B c = Cf.B c,
      Cf.S c = Cf.S c,
      Cf.U c = Cf.U c,
      Cf.r c = Cf.r c,
      Cf.u c = Cf.u c,
      n = n,
      ∀ (i : Nat), i < n → Fl.id F i = Fl.id (flOf (gFl F)) i ∧ Fl.co F i = Fl.co (flOf (gFl F)) i ∧ Fl.bu F i = Fl.bu (flOf (gFl F)) i ∧ Fl.si F i = Fl.si (flOf (gFl F)) i ∧ Fl.ca F i = Fl.ca (flOf (gFl F)) i ∧ True,
      n = n,
      ∀ (i : Nat), i < n → P i = colOf (gI P) i ∧ True,
      n = n,
      ∀ (i : Nat), i < n → B i = colOf (gU64 B) i ∧ True,
      (Rg.may { c := { a := Cf.a (Rg.c { c := c, n := n, F := F, P := P, B := B }), c := Cf.c (Rg.c { c := c, n := n, F := F, P := P, B := B }), l := Cf.l (Rg.c { c := c, n := n, F := F, P := P, B := B }), q := Cf.q (Rg.c { c := c, n := n, F := F, P := P, B := B }), P := Cf.P (Rg.c { c := c, n := n, F := F, P := P, B := B }), B := Cf.B (Rg.c { c := c, n := n, F := F, P := P, B := B }), S := Cf.S (Rg.c { c := c, n := n, F := F, P := P, B := B }), U := Cf.U (Rg.c { c := c, n := n, F := F, P := P, B := B }), r := Cf.r (Rg.c { c := c, n := n, F := F, P := P, B := B }), u := Cf.u (Rg.c { c := c, n := n, F := F, P := P, B := B }) }, n := Rg.n { c := c, n := n, F := F, P := P, B := B }, F := flOf (gFl (Rg.F { c := c, n := n, F := F, P := P, B := B })), P := colOf (gI (Rg.P { c := c, n := n, F := F, P := P, B := B })), B := colOf (gU64 (Rg.B { c := c, n := n, F := F, P := P, B := B })) } id k == (0 : Int)) = false,
      Rg.may { c := c, n := n, F := flOf (gFl F), P := colOf (gI P), B := colOf (gU64 B) } id k = Rg.may { c := c, n := n, F := F, P := P, B := B } id k,
      Cf.a c = Cf.a c,
      Cf.c c = Cf.c c,
      Cf.l c = Cf.l c,
      Cf.q c = Cf.q c,
      Cf.P c = Cf.P c,
      Cf.B c = Cf.B c,
      Cf.S c = Cf.S c,
      Cf.U c = Cf.U c,
      Cf.r c = Cf.r c,
      Cf.u c = Cf.u c,
      n = n,
      ∀ (i : Nat), i < n → Fl.id F i = Fl.id F i ∧ Fl.co F i = Fl.co F i ∧ Fl.bu F i = Fl.bu F i ∧ Fl.si F i = Fl.si F i ∧ Fl.ca F i = Fl.ca F i ∧ True,
      n = n,
      ∀ (i : Nat), i < n → P i = P i ∧ True,
      n = n,
      ∀ (i : Nat), i < n → B i = B i ∧ True]) (by kernel_rfl) (.cons (by assumption) (.cons (by assumption) (.cons (by assumption) (.cons (by assumption) (.cons (by assumption) (.cons (by assumption) (.cons (by rfl) (.cons (by rfl) (.cons (by assumption) (.cons (by rfl) (.cons (by rfl) (.cons (by rfl) (.cons (by rfl) (.cons (by rfl) (.cons (by rfl) (.cons (by rfl) (.cons (by rfl) (.cons (by rfl) (.cons (by rfl) (.cons (by rfl) (.cons (by rfl) (.cons (by rfl) (.cons (by rfl) (.cons (by (intro _ _; exact ⟨rfl, rfl, rfl, rfl, rfl, trivial⟩)) (.cons (by rfl) (.cons (by (intro _ _; exact ⟨rfl, trivial⟩)) (.cons (by rfl) (.cons (by (intro _ _; exact ⟨rfl, trivial⟩)) (.cons (by exact beq_eq_false_iff_ne.2 he) (.cons (by rfl) (.cons (by rfl) (.cons (by rfl) (.cons (by rfl) (.cons (by rfl) (.cons (by rfl) (.cons (by rfl) (.cons (by rfl) (.cons (by rfl) (.cons (by rfl) (.cons (by rfl) (.cons (by rfl) (.cons (by (simp; done)) (.cons (by rfl) (.cons (by (intro _ _; exact ⟨rfl, trivial⟩)) (.cons (by rfl) (.cons (by (intro _ _; exact ⟨rfl, trivial⟩)) .nil)))))))))))))))))))))))))))))))))))))))))))))) (Nat.le_of_ble_eq_true (by kernel_rfl))

set_option maxHeartbeats 2000000 in
theorem rinn_y (c : Cf) (n : Nat) (F : Fl) (P B : Nat → Int) (id k : Int) (hn : n ≤ 100) (h2 : (Rg.mk c n F P B).bd) (q0 : 0 ≤ k) (q1 : k ≤ 18446744073709551615) (s0 : 0 ≤ c.S) (s1 : c.S.toNat ≤ 16) (he : (Rg.mk c n F P B).may id k = 0) (hi : ¬ idx F.id id n < 0) (k0 : 0 ≤ idx F.id id n) (k1 : idx F.id id n < (n : Int)) (k2 : (idx F.id id n).toNat < n) : FnOk Try.prog 18 ([p0, u32A id, uA k]) ((Rg.mk c n F P B).W) (iA ((Rg.mk c n F P B).may id k)) (((Rg.mk c n F P B).chg (idx F.id id n).toNat (IntKind.wrap .i64 (P (idx F.id id n).toNat + 1)) (IntKind.wrap .u64 (B (idx F.id id n).toNat + k))).V) :=
  fn_run Gad11_ok Try.func18 (orc := ⟨[true], []⟩) (obl := [n ≤ (100 : Nat),
      Rg.bd { c := c, n := n, F := flOf (gFl F), P := colOf (gI P), B := colOf (gU64 B) },
      (0 : Int) ≤ k,
      k ≤ (18446744073709551615 : Int),
      (0 : Int) ≤ Cf.S c,
      Int.toNat (Cf.S c) ≤ (16 : Nat),
      n = n,
      n = n,
      n ≤ (100 : Nat),
      (0 : Nat) = (0 : Nat),
      id = id,
      k = k,
      Cf.a c = Cf.a c,
      Cf.c c = Cf.c c,
      Cf.l c = Cf.l c,
      Cf.q c = Cf.q c,
      Cf.P c = Cf.P c,
      Cf.B c = Cf.B c,
      Cf.S c = Cf.S c,
      Cf.U c = Cf.U c,
      Cf.r c = Cf.r c,
      Cf.u c = Cf.u c,
      n = n,
      ∀ (i : Nat), i < n → Fl.id F i = Fl.id (flOf (gFl F)) i ∧ Fl.co F i = Fl.co (flOf (gFl F)) i ∧ Fl.bu F i = Fl.bu (flOf (gFl F)) i ∧ Fl.si F i = Fl.si (flOf (gFl F)) i ∧ Fl.ca F i = Fl.ca (flOf (gFl F)) i ∧ True,
      n = n,
      ∀ (i : Nat), i < n → P i = colOf (gI P) i ∧ True,
      n = n,
      ∀ (i : Nat), i < n → B i = colOf (gU64 B) i ∧ True,
      (Rg.may { c := { a := Cf.a (Rg.c { c := c, n := n, F := F, P := P, B := B }), c := Cf.c (Rg.c { c := c, n := n, F := F, P := P, B := B }), l := Cf.l (Rg.c { c := c, n := n, F := F, P := P, B := B }), q := Cf.q (Rg.c { c := c, n := n, F := F, P := P, B := B }), P := Cf.P (Rg.c { c := c, n := n, F := F, P := P, B := B }), B := Cf.B (Rg.c { c := c, n := n, F := F, P := P, B := B }), S := Cf.S (Rg.c { c := c, n := n, F := F, P := P, B := B }), U := Cf.U (Rg.c { c := c, n := n, F := F, P := P, B := B }), r := Cf.r (Rg.c { c := c, n := n, F := F, P := P, B := B }), u := Cf.u (Rg.c { c := c, n := n, F := F, P := P, B := B }) }, n := Rg.n { c := c, n := n, F := F, P := P, B := B }, F := flOf (gFl (Rg.F { c := c, n := n, F := F, P := P, B := B })), P := colOf (gI (Rg.P { c := c, n := n, F := F, P := P, B := B })), B := colOf (gU64 (Rg.B { c := c, n := n, F := F, P := P, B := B })) } id k == (0 : Int)) = true,
      n ≤ (4611686018427387904 : Nat),
      id = id,
      n = n,
      ∀ (i : Nat), i < n → Fl.id F i = Fl.id (flOf (gFl F)) i ∧ Fl.co F i = Fl.co (flOf (gFl F)) i ∧ Fl.bu F i = Fl.bu (flOf (gFl F)) i ∧ Fl.si F i = Fl.si (flOf (gFl F)) i ∧ Fl.ca F i = Fl.ca (flOf (gFl F)) i ∧ True,
      (0 : Int) ≤ idx (Fl.id (flOf (gFl F))) id n,
      idx (Fl.id (flOf (gFl F))) id n < (↑n : Int),
      Int.toNat (idx (Fl.id (flOf (gFl F))) id n) < n,
      (0 : Int) ≤ idx (Fl.id (flOf (gFl F))) id n,
      idx (Fl.id (flOf (gFl F))) id n < (↑n : Int),
      Int.toNat (idx (Fl.id (flOf (gFl F))) id n) < n,
      n ≤ (100 : Nat),
      Int.toNat (idx (Fl.id (flOf (gFl F))) id n) < n,
      n = n,
      n = n,
      n ≤ (100 : Nat),
      (0 : Nat) = (0 : Nat),
      idx (Fl.id (flOf (gFl F))) id n = (↑(Int.toNat (idx (Fl.id (flOf (gFl F))) id n)) : Int),
      IntKind.wrap IntKind.i64 (P (Int.toNat (idx (Fl.id (flOf (gFl F))) id n)) + (1 : Int)) = IntKind.wrap IntKind.i64 (P (Int.toNat (idx (Fl.id (flOf (gFl F))) id n)) + (1 : Int)),
      IntKind.wrap IntKind.u64 (B (Int.toNat (idx (Fl.id (flOf (gFl F))) id n)) + k) = IntKind.wrap IntKind.u64 (B (Int.toNat (idx (Fl.id (flOf (gFl F))) id n)) + k),
      Cf.a c = Cf.a c,
      Cf.c c = Cf.c c,
      Cf.l c = Cf.l c,
      Cf.q c = Cf.q c,
      Cf.P c = Cf.P c,
      Cf.B c = Cf.B c,
      Cf.S c = Cf.S c,
      Cf.U c = Cf.U c,
      Cf.r c = Cf.r c,
      Cf.u c = Cf.u c,
      n = n,
      ∀ (i : Nat), i < n → Fl.id F i = Fl.id (flOf (gFl F)) i ∧ Fl.co F i = Fl.co (flOf (gFl F)) i ∧ Fl.bu F i = Fl.bu (flOf (gFl F)) i ∧ Fl.si F i = Fl.si (flOf (gFl F)) i ∧ Fl.ca F i = Fl.ca (flOf (gFl F)) i ∧ True,
      n = n,
      ∀ (i : Nat), i < n → P i = colOf (gI P) i ∧ True,
      n = n,
      ∀ (i : Nat), i < n → B i = colOf (gU64 B) i ∧ True,
      ∀ (i : Nat), i < Rg.n (Rg.chg { c := c, n := n, F := flOf (gFl F), P := colOf (gI P), B := colOf (gU64 B) } (Int.toNat (idx (Fl.id (flOf (gFl F))) id n)) (IntKind.wrap IntKind.i64 (P (Int.toNat (idx (Fl.id (flOf (gFl F))) id n)) + (1 : Int))) (IntKind.wrap IntKind.u64 (B (Int.toNat (idx (Fl.id (flOf (gFl F))) id n)) + k))) → (true && true) = true,
      ∀ (i : Nat), i < Rg.n (Rg.chg { c := c, n := n, F := flOf (gFl F), P := colOf (gI P), B := colOf (gU64 B) } (Int.toNat (idx (Fl.id (flOf (gFl F))) id n)) (IntKind.wrap IntKind.i64 (P (Int.toNat (idx (Fl.id (flOf (gFl F))) id n)) + (1 : Int))) (IntKind.wrap IntKind.u64 (B (Int.toNat (idx (Fl.id (flOf (gFl F))) id n)) + k))) → (true && true) = true,
      Rg.may { c := c, n := n, F := flOf (gFl F), P := colOf (gI P), B := colOf (gU64 B) } id k = Rg.may { c := c, n := n, F := F, P := P, B := B } id k,
      Cf.a (Rg.c (Rg.chg { c := c, n := n, F := flOf (gFl F), P := colOf (gI P), B := colOf (gU64 B) } (Int.toNat (idx (Fl.id (flOf (gFl F))) id n)) (IntKind.wrap IntKind.i64 (P (Int.toNat (idx (Fl.id (flOf (gFl F))) id n)) + (1 : Int))) (IntKind.wrap IntKind.u64 (B (Int.toNat (idx (Fl.id (flOf (gFl F))) id n)) + k)))) = Cf.a (Rg.c (Rg.chg { c := c, n := n, F := F, P := P, B := B } (Int.toNat (idx (Fl.id F) id n)) (IntKind.wrap IntKind.i64 (P (Int.toNat (idx (Fl.id F) id n)) + (1 : Int))) (IntKind.wrap IntKind.u64 (B (Int.toNat (idx (Fl.id F) id n)) + k)))),
      Cf.c (Rg.c (Rg.chg { c := c, n := n, F := flOf (gFl F), P := colOf (gI P), B := colOf (gU64 B) } (Int.toNat (idx (Fl.id (flOf (gFl F))) id n)) (IntKind.wrap IntKind.i64 (P (Int.toNat (idx (Fl.id (flOf (gFl F))) id n)) + (1 : Int))) (IntKind.wrap IntKind.u64 (B (Int.toNat (idx (Fl.id (flOf (gFl F))) id n)) + k)))) = Cf.c (Rg.c (Rg.chg { c := c, n := n, F := F, P := P, B := B } (Int.toNat (idx (Fl.id F) id n)) (IntKind.wrap IntKind.i64 (P (Int.toNat (idx (Fl.id F) id n)) + (1 : Int))) (IntKind.wrap IntKind.u64 (B (Int.toNat (idx (Fl.id F) id n)) + k)))),
      Cf.l (Rg.c (Rg.chg { c := c, n := n, F := flOf (gFl F), P := colOf (gI P), B := colOf (gU64 B) } (Int.toNat (idx (Fl.id (flOf (gFl F))) id n)) (IntKind.wrap IntKind.i64 (P (Int.toNat (idx (Fl.id (flOf (gFl F))) id n)) + (1 : Int))) (IntKind.wrap IntKind.u64 (B (Int.toNat (idx (Fl.id (flOf (gFl F))) id n)) + k)))) = Cf.l (Rg.c (Rg.chg { c := c, n := n, F := F, P := P, B := B } (Int.toNat (idx (Fl.id F) id n)) (IntKind.wrap IntKind.i64 (P (Int.toNat (idx (Fl.id F) id n)) + (1 : Int))) (IntKind.wrap IntKind.u64 (B (Int.toNat (idx (Fl.id F) id n)) + k)))),
      Cf.q (Rg.c (Rg.chg { c := c, n := n, F := flOf (gFl F), P := colOf (gI P), B := colOf (gU64 B) } (Int.toNat (idx (Fl.id (flOf (gFl F))) id n)) (IntKind.wrap IntKind.i64 (P (Int.toNat (idx (Fl.id (flOf (gFl F))) id n)) + (1 : Int))) (IntKind.wrap IntKind.u64 (B (Int.toNat (idx (Fl.id (flOf (gFl F))) id n)) + k)))) = Cf.q (Rg.c (Rg.chg { c := c, n := n, F := F, P := P, B := B } (Int.toNat (idx (Fl.id F) id n)) (IntKind.wrap IntKind.i64 (P (Int.toNat (idx (Fl.id F) id n)) + (1 : Int))) (IntKind.wrap IntKind.u64 (B (Int.toNat (idx (Fl.id F) id n)) + k)))),
      Cf.P (Rg.c (Rg.chg { c := c, n := n, F := flOf (gFl F), P := colOf (gI P), B := colOf (gU64 B) } (Int.toNat (idx (Fl.id (flOf (gFl F))) id n)) (IntKind.wrap IntKind.i64 (P (Int.toNat (idx (Fl.id (flOf (gFl F))) id n)) + (1 : Int))) (IntKind.wrap IntKind.u64 (B (Int.toNat (idx (Fl.id (flOf (gFl F))) id n)) + k)))) = Cf.P (Rg.c (Rg.chg { c := c, n := n, F := F, P := P, B := B } (Int.toNat (idx (Fl.id F) id n)) (IntKind.wrap IntKind.i64 (P (Int.toNat (idx (Fl.id F) id n)) + (1 : Int))) (IntKind.wrap IntKind.u64 (B (Int.toNat (idx (Fl.id F) id n)) + k)))),
      Cf.B (Rg.c (Rg.chg { c := c, n := n, F := flOf (gFl F), P := colOf (gI P), B := colOf (gU64 B) } (Int.toNat (idx (Fl.id (flOf (gFl F))) id n)) (IntKind.wrap IntKind.i64 (P (Int.toNat (idx (Fl.id (flOf (gFl F))) id n)) + (1 : Int))) (IntKind.wrap IntKind.u64 (B (Int.toNat (idx (Fl.id (flOf (gFl F))) id n)) + k)))) = Cf.B (Rg.c (Rg.chg { c := c, n := n, F := F, P := P, B := B } (Int.toNat (idx (Fl.id F) id n)) (IntKind.wrap IntKind.i64 (P (Int.toNat (idx (Fl.id F) id n)) + (1 : Int))) (IntKind.wrap IntKind.u64 (B (Int.toNat (idx (Fl.id F) id n)) + k)))),
      Cf.S (Rg.c (Rg.chg { c := c, n := n, F := flOf (gFl F), P := colOf (gI P), B := colOf (gU64 B) } (Int.toNat (idx (Fl.id (flOf (gFl F))) id n)) (IntKind.wrap IntKind.i64 (P (Int.toNat (idx (Fl.id (flOf (gFl F))) id n)) + (1 : Int))) (IntKind.wrap IntKind.u64 (B (Int.toNat (idx (Fl.id (flOf (gFl F))) id n)) + k)))) = Cf.S (Rg.c (Rg.chg { c := c, n := n, F := F, P := P, B := B } (Int.toNat (idx (Fl.id F) id n)) (IntKind.wrap IntKind.i64 (P (Int.toNat (idx (Fl.id F) id n)) + (1 : Int))) (IntKind.wrap IntKind.u64 (B (Int.toNat (idx (Fl.id F) id n)) + k)))),
      Cf.U (Rg.c (Rg.chg { c := c, n := n, F := flOf (gFl F), P := colOf (gI P), B := colOf (gU64 B) } (Int.toNat (idx (Fl.id (flOf (gFl F))) id n)) (IntKind.wrap IntKind.i64 (P (Int.toNat (idx (Fl.id (flOf (gFl F))) id n)) + (1 : Int))) (IntKind.wrap IntKind.u64 (B (Int.toNat (idx (Fl.id (flOf (gFl F))) id n)) + k)))) = Cf.U (Rg.c (Rg.chg { c := c, n := n, F := F, P := P, B := B } (Int.toNat (idx (Fl.id F) id n)) (IntKind.wrap IntKind.i64 (P (Int.toNat (idx (Fl.id F) id n)) + (1 : Int))) (IntKind.wrap IntKind.u64 (B (Int.toNat (idx (Fl.id F) id n)) + k)))),
      Cf.r (Rg.c (Rg.chg { c := c, n := n, F := flOf (gFl F), P := colOf (gI P), B := colOf (gU64 B) } (Int.toNat (idx (Fl.id (flOf (gFl F))) id n)) (IntKind.wrap IntKind.i64 (P (Int.toNat (idx (Fl.id (flOf (gFl F))) id n)) + (1 : Int))) (IntKind.wrap IntKind.u64 (B (Int.toNat (idx (Fl.id (flOf (gFl F))) id n)) + k)))) = Cf.r (Rg.c (Rg.chg { c := c, n := n, F := F, P := P, B := B } (Int.toNat (idx (Fl.id F) id n)) (IntKind.wrap IntKind.i64 (P (Int.toNat (idx (Fl.id F) id n)) + (1 : Int))) (IntKind.wrap IntKind.u64 (B (Int.toNat (idx (Fl.id F) id n)) + k)))),
      Cf.u (Rg.c (Rg.chg { c := c, n := n, F := flOf (gFl F), P := colOf (gI P), B := colOf (gU64 B) } (Int.toNat (idx (Fl.id (flOf (gFl F))) id n)) (IntKind.wrap IntKind.i64 (P (Int.toNat (idx (Fl.id (flOf (gFl F))) id n)) + (1 : Int))) (IntKind.wrap IntKind.u64 (B (Int.toNat (idx (Fl.id (flOf (gFl F))) id n)) + k)))) = Cf.u (Rg.c (Rg.chg { c := c, n := n, F := F, P := P, B := B } (Int.toNat (idx (Fl.id F) id n)) (IntKind.wrap IntKind.i64 (P (Int.toNat (idx (Fl.id F) id n)) + (1 : Int))) (IntKind.wrap IntKind.u64 (B (Int.toNat (idx (Fl.id F) id n)) + k)))),
      n = Rg.n (Rg.chg { c := c, n := n, F := F, P := P, B := B } (Int.toNat (idx (Fl.id F) id n)) (IntKind.wrap IntKind.i64 (P (Int.toNat (idx (Fl.id F) id n)) + (1 : Int))) (IntKind.wrap IntKind.u64 (B (Int.toNat (idx (Fl.id F) id n)) + k))),
      ∀ (i : Nat), i < n → Fl.id F i = Fl.id (Rg.F (Rg.chg { c := c, n := n, F := F, P := P, B := B } (Int.toNat (idx (Fl.id F) id n)) (IntKind.wrap IntKind.i64 (P (Int.toNat (idx (Fl.id F) id n)) + (1 : Int))) (IntKind.wrap IntKind.u64 (B (Int.toNat (idx (Fl.id F) id n)) + k)))) i ∧ Fl.co F i = Fl.co (Rg.F (Rg.chg { c := c, n := n, F := F, P := P, B := B } (Int.toNat (idx (Fl.id F) id n)) (IntKind.wrap IntKind.i64 (P (Int.toNat (idx (Fl.id F) id n)) + (1 : Int))) (IntKind.wrap IntKind.u64 (B (Int.toNat (idx (Fl.id F) id n)) + k)))) i ∧ Fl.bu F i = Fl.bu (Rg.F (Rg.chg { c := c, n := n, F := F, P := P, B := B } (Int.toNat (idx (Fl.id F) id n)) (IntKind.wrap IntKind.i64 (P (Int.toNat (idx (Fl.id F) id n)) + (1 : Int))) (IntKind.wrap IntKind.u64 (B (Int.toNat (idx (Fl.id F) id n)) + k)))) i ∧ Fl.si F i = Fl.si (Rg.F (Rg.chg { c := c, n := n, F := F, P := P, B := B } (Int.toNat (idx (Fl.id F) id n)) (IntKind.wrap IntKind.i64 (P (Int.toNat (idx (Fl.id F) id n)) + (1 : Int))) (IntKind.wrap IntKind.u64 (B (Int.toNat (idx (Fl.id F) id n)) + k)))) i ∧ Fl.ca F i = Fl.ca (Rg.F (Rg.chg { c := c, n := n, F := F, P := P, B := B } (Int.toNat (idx (Fl.id F) id n)) (IntKind.wrap IntKind.i64 (P (Int.toNat (idx (Fl.id F) id n)) + (1 : Int))) (IntKind.wrap IntKind.u64 (B (Int.toNat (idx (Fl.id F) id n)) + k)))) i ∧ True,
      Rg.n (Rg.chg { c := c, n := n, F := flOf (gFl F), P := colOf (gI P), B := colOf (gU64 B) } (Int.toNat (idx (Fl.id (flOf (gFl F))) id n)) (IntKind.wrap IntKind.i64 (P (Int.toNat (idx (Fl.id (flOf (gFl F))) id n)) + (1 : Int))) (IntKind.wrap IntKind.u64 (B (Int.toNat (idx (Fl.id (flOf (gFl F))) id n)) + k))) = Rg.n (Rg.chg { c := c, n := n, F := F, P := P, B := B } (Int.toNat (idx (Fl.id F) id n)) (IntKind.wrap IntKind.i64 (P (Int.toNat (idx (Fl.id F) id n)) + (1 : Int))) (IntKind.wrap IntKind.u64 (B (Int.toNat (idx (Fl.id F) id n)) + k))),
      ∀ (i : Nat), i < Rg.n (Rg.chg { c := c, n := n, F := flOf (gFl F), P := colOf (gI P), B := colOf (gU64 B) } (Int.toNat (idx (Fl.id (flOf (gFl F))) id n)) (IntKind.wrap IntKind.i64 (P (Int.toNat (idx (Fl.id (flOf (gFl F))) id n)) + (1 : Int))) (IntKind.wrap IntKind.u64 (B (Int.toNat (idx (Fl.id (flOf (gFl F))) id n)) + k))) → Rg.P (Rg.chg { c := c, n := n, F := flOf (gFl F), P := colOf (gI P), B := colOf (gU64 B) } (Int.toNat (idx (Fl.id (flOf (gFl F))) id n)) (IntKind.wrap IntKind.i64 (P (Int.toNat (idx (Fl.id (flOf (gFl F))) id n)) + (1 : Int))) (IntKind.wrap IntKind.u64 (B (Int.toNat (idx (Fl.id (flOf (gFl F))) id n)) + k))) i = Rg.P (Rg.chg { c := c, n := n, F := F, P := P, B := B } (Int.toNat (idx (Fl.id F) id n)) (IntKind.wrap IntKind.i64 (P (Int.toNat (idx (Fl.id F) id n)) + (1 : Int))) (IntKind.wrap IntKind.u64 (B (Int.toNat (idx (Fl.id F) id n)) + k))) i ∧ True,
      Rg.n (Rg.chg { c := c, n := n, F := flOf (gFl F), P := colOf (gI P), B := colOf (gU64 B) } (Int.toNat (idx (Fl.id (flOf (gFl F))) id n)) (IntKind.wrap IntKind.i64 (P (Int.toNat (idx (Fl.id (flOf (gFl F))) id n)) + (1 : Int))) (IntKind.wrap IntKind.u64 (B (Int.toNat (idx (Fl.id (flOf (gFl F))) id n)) + k))) = Rg.n (Rg.chg { c := c, n := n, F := F, P := P, B := B } (Int.toNat (idx (Fl.id F) id n)) (IntKind.wrap IntKind.i64 (P (Int.toNat (idx (Fl.id F) id n)) + (1 : Int))) (IntKind.wrap IntKind.u64 (B (Int.toNat (idx (Fl.id F) id n)) + k))),
      ∀ (i : Nat), i < Rg.n (Rg.chg { c := c, n := n, F := flOf (gFl F), P := colOf (gI P), B := colOf (gU64 B) } (Int.toNat (idx (Fl.id (flOf (gFl F))) id n)) (IntKind.wrap IntKind.i64 (P (Int.toNat (idx (Fl.id (flOf (gFl F))) id n)) + (1 : Int))) (IntKind.wrap IntKind.u64 (B (Int.toNat (idx (Fl.id (flOf (gFl F))) id n)) + k))) → Rg.B (Rg.chg { c := c, n := n, F := flOf (gFl F), P := colOf (gI P), B := colOf (gU64 B) } (Int.toNat (idx (Fl.id (flOf (gFl F))) id n)) (IntKind.wrap IntKind.i64 (P (Int.toNat (idx (Fl.id (flOf (gFl F))) id n)) + (1 : Int))) (IntKind.wrap IntKind.u64 (B (Int.toNat (idx (Fl.id (flOf (gFl F))) id n)) + k))) i = Rg.B (Rg.chg { c := c, n := n, F := F, P := P, B := B } (Int.toNat (idx (Fl.id F) id n)) (IntKind.wrap IntKind.i64 (P (Int.toNat (idx (Fl.id F) id n)) + (1 : Int))) (IntKind.wrap IntKind.u64 (B (Int.toNat (idx (Fl.id F) id n)) + k))) i ∧ True]) (by kernel_rfl) (.cons (by assumption) (.cons (by assumption) (.cons (by assumption) (.cons (by assumption) (.cons (by assumption) (.cons (by assumption) (.cons (by rfl) (.cons (by rfl) (.cons (by assumption) (.cons (by rfl) (.cons (by rfl) (.cons (by rfl) (.cons (by rfl) (.cons (by rfl) (.cons (by rfl) (.cons (by rfl) (.cons (by rfl) (.cons (by rfl) (.cons (by rfl) (.cons (by rfl) (.cons (by rfl) (.cons (by rfl) (.cons (by rfl) (.cons (by (intro _ _; exact ⟨rfl, rfl, rfl, rfl, rfl, trivial⟩)) (.cons (by rfl) (.cons (by (intro _ _; exact ⟨rfl, trivial⟩)) (.cons (by rfl) (.cons (by (intro _ _; exact ⟨rfl, trivial⟩)) (.cons (by exact beq_iff_eq.2 he) (.cons (by omega) (.cons (by rfl) (.cons (by rfl) (.cons (by (intro _ _; exact ⟨rfl, rfl, rfl, rfl, rfl, trivial⟩)) (.cons (by assumption) (.cons (by assumption) (.cons (by assumption) (.cons (by assumption) (.cons (by assumption) (.cons (by assumption) (.cons (by assumption) (.cons (by assumption) (.cons (by rfl) (.cons (by rfl) (.cons (by assumption) (.cons (by rfl) (.cons (by exact (Int.toNat_of_nonneg k0).symm) (.cons (by rfl) (.cons (by rfl) (.cons (by rfl) (.cons (by rfl) (.cons (by rfl) (.cons (by rfl) (.cons (by rfl) (.cons (by rfl) (.cons (by rfl) (.cons (by rfl) (.cons (by rfl) (.cons (by rfl) (.cons (by rfl) (.cons (by (intro _ _; exact ⟨rfl, rfl, rfl, rfl, rfl, trivial⟩)) (.cons (by rfl) (.cons (by (intro _ _; exact ⟨rfl, trivial⟩)) (.cons (by rfl) (.cons (by (intro _ _; exact ⟨rfl, trivial⟩)) (.cons (by (intro _ _; rfl)) (.cons (by (intro _ _; rfl)) (.cons (by rfl) (.cons (by rfl) (.cons (by rfl) (.cons (by rfl) (.cons (by rfl) (.cons (by rfl) (.cons (by rfl) (.cons (by rfl) (.cons (by rfl) (.cons (by rfl) (.cons (by rfl) (.cons (by rfl) (.cons (by (intro _ _; exact ⟨rfl, rfl, rfl, rfl, rfl, trivial⟩)) (.cons (by rfl) (.cons (by (intro _ _; exact ⟨rfl, trivial⟩)) (.cons (by rfl) (.cons (by (intro _ _; exact ⟨rfl, trivial⟩)) .nil))))))))))))))))))))))))))))))))))))))))))))))))))))))))))))))))))))))))))))))))))) (Nat.le_of_ble_eq_true (by kernel_rfl))

set_option maxHeartbeats 2000000 in
theorem rlay_e (c : Cf) (n : Nat) (F : Fl) (P B : Nat → Int) (id k : Int) (hn : n ≤ 100) (h2 : (Rg.mk c n F P B).bd) (q0 : 0 ≤ k) (q1 : k ≤ 18446744073709551615) (s0 : 0 ≤ c.S) (s1 : c.S.toNat ≤ 16) (he : (Rg.mk c n F P B).fit id k ≠ 0) : FnOk Try.prog 21 ([p0, u32A id, uA k]) ((Rg.mk c n F P B).W) (iA ((Rg.mk c n F P B).fit id k)) ((Rg.mk c n F P B).V) :=
  fn_run Gad11_ok Try.func21 (orc := ⟨[false], []⟩) (obl := [n ≤ (100 : Nat),
      Rg.bd { c := c, n := n, F := flOf (gFl F), P := colOf (gI P), B := colOf (gU64 B) },
      (0 : Int) ≤ k,
      k ≤ (18446744073709551615 : Int),
      n = n,
      n = n,
      n ≤ (100 : Nat),
      (0 : Nat) = (0 : Nat),
      id = id,
      k = k,
      Cf.a c = Cf.a c,
      Cf.c c = Cf.c c,
      Cf.l c = Cf.l c,
      Cf.q c = Cf.q c,
      Cf.P c = Cf.P c,
      Cf.B c = Cf.B c,
      Cf.S c = Cf.S c,
      Cf.U c = Cf.U c,
      Cf.r c = Cf.r c,
      Cf.u c = Cf.u c,
      n = n,
      ∀ (i : Nat), i < n → Fl.id F i = Fl.id (flOf (gFl F)) i ∧ Fl.co F i = Fl.co (flOf (gFl F)) i ∧ Fl.bu F i = Fl.bu (flOf (gFl F)) i ∧ Fl.si F i = Fl.si (flOf (gFl F)) i ∧ Fl.ca F i = Fl.ca (flOf (gFl F)) i ∧ True,
      n = n,
      ∀ (i : Nat), i < n → P i = colOf (gI P) i ∧ True,
      n = n,
      ∀ (i : Nat), i < n → B i = colOf (gU64 B) i ∧ True,
      (Rg.fit { c := { a := Cf.a (Rg.c { c := c, n := n, F := F, P := P, B := B }), c := Cf.c (Rg.c { c := c, n := n, F := F, P := P, B := B }), l := Cf.l (Rg.c { c := c, n := n, F := F, P := P, B := B }), q := Cf.q (Rg.c { c := c, n := n, F := F, P := P, B := B }), P := Cf.P (Rg.c { c := c, n := n, F := F, P := P, B := B }), B := Cf.B (Rg.c { c := c, n := n, F := F, P := P, B := B }), S := Cf.S (Rg.c { c := c, n := n, F := F, P := P, B := B }), U := Cf.U (Rg.c { c := c, n := n, F := F, P := P, B := B }), r := Cf.r (Rg.c { c := c, n := n, F := F, P := P, B := B }), u := Cf.u (Rg.c { c := c, n := n, F := F, P := P, B := B }) }, n := Rg.n { c := c, n := n, F := F, P := P, B := B }, F := flOf (gFl (Rg.F { c := c, n := n, F := F, P := P, B := B })), P := colOf (gI (Rg.P { c := c, n := n, F := F, P := P, B := B })), B := colOf (gU64 (Rg.B { c := c, n := n, F := F, P := P, B := B })) } id k == (0 : Int)) = false,
      Rg.fit { c := c, n := n, F := flOf (gFl F), P := colOf (gI P), B := colOf (gU64 B) } id k = Rg.fit { c := c, n := n, F := F, P := P, B := B } id k,
      Cf.a c = Cf.a c,
      Cf.c c = Cf.c c,
      Cf.l c = Cf.l c,
      Cf.q c = Cf.q c,
      Cf.P c = Cf.P c,
      Cf.B c = Cf.B c,
      Cf.S c = Cf.S c,
      Cf.U c = Cf.U c,
      Cf.r c = Cf.r c,
      Cf.u c = Cf.u c,
      n = n,
      ∀ (i : Nat), i < n → Fl.id F i = Fl.id F i ∧ Fl.co F i = Fl.co F i ∧ Fl.bu F i = Fl.bu F i ∧ Fl.si F i = Fl.si F i ∧ Fl.ca F i = Fl.ca F i ∧ True,
      n = n,
      ∀ (i : Nat), i < n → P i = P i ∧ True,
      n = n,
      ∀ (i : Nat), i < n → B i = B i ∧ True]) (by kernel_rfl) (.cons (by assumption) (.cons (by assumption) (.cons (by assumption) (.cons (by assumption) (.cons (by rfl) (.cons (by rfl) (.cons (by assumption) (.cons (by rfl) (.cons (by rfl) (.cons (by rfl) (.cons (by rfl) (.cons (by rfl) (.cons (by rfl) (.cons (by rfl) (.cons (by rfl) (.cons (by rfl) (.cons (by rfl) (.cons (by rfl) (.cons (by rfl) (.cons (by rfl) (.cons (by rfl) (.cons (by (intro _ _; exact ⟨rfl, rfl, rfl, rfl, rfl, trivial⟩)) (.cons (by rfl) (.cons (by (intro _ _; exact ⟨rfl, trivial⟩)) (.cons (by rfl) (.cons (by (intro _ _; exact ⟨rfl, trivial⟩)) (.cons (by exact beq_eq_false_iff_ne.2 he) (.cons (by rfl) (.cons (by rfl) (.cons (by rfl) (.cons (by rfl) (.cons (by rfl) (.cons (by rfl) (.cons (by rfl) (.cons (by rfl) (.cons (by rfl) (.cons (by rfl) (.cons (by rfl) (.cons (by rfl) (.cons (by (simp; done)) (.cons (by rfl) (.cons (by (intro _ _; exact ⟨rfl, trivial⟩)) (.cons (by rfl) (.cons (by (intro _ _; exact ⟨rfl, trivial⟩)) .nil)))))))))))))))))))))))))))))))))))))))))))) (Nat.le_of_ble_eq_true (by kernel_rfl))

set_option maxHeartbeats 2000000 in
theorem rlay_y (c : Cf) (n : Nat) (F : Fl) (P B : Nat → Int) (id k : Int) (hn : n ≤ 100) (h2 : (Rg.mk c n F P B).bd) (q0 : 0 ≤ k) (q1 : k ≤ 18446744073709551615) (s0 : 0 ≤ c.S) (s1 : c.S.toNat ≤ 16) (he : (Rg.mk c n F P B).fit id k = 0) (hi : ¬ idx F.id id n < 0) (k0 : 0 ≤ idx F.id id n) (k1 : idx F.id id n < (n : Int)) (k2 : (idx F.id id n).toNat < n) : FnOk Try.prog 21 ([p0, u32A id, uA k]) ((Rg.mk c n F P B).W) (iA ((Rg.mk c n F P B).fit id k)) (((Rg.mk c n F P B).chg (idx F.id id n).toNat (IntKind.wrap .i64 (P (idx F.id id n).toNat + 1)) (IntKind.wrap .u64 (B (idx F.id id n).toNat + k))).V) :=
  fn_run Gad11_ok Try.func21 (orc := ⟨[true], []⟩) (obl := [n ≤ (100 : Nat),
      Rg.bd { c := c, n := n, F := flOf (gFl F), P := colOf (gI P), B := colOf (gU64 B) },
      (0 : Int) ≤ k,
      k ≤ (18446744073709551615 : Int),
      n = n,
      n = n,
      n ≤ (100 : Nat),
      (0 : Nat) = (0 : Nat),
      id = id,
      k = k,
      Cf.a c = Cf.a c,
      Cf.c c = Cf.c c,
      Cf.l c = Cf.l c,
      Cf.q c = Cf.q c,
      Cf.P c = Cf.P c,
      Cf.B c = Cf.B c,
      Cf.S c = Cf.S c,
      Cf.U c = Cf.U c,
      Cf.r c = Cf.r c,
      Cf.u c = Cf.u c,
      n = n,
      ∀ (i : Nat), i < n → Fl.id F i = Fl.id (flOf (gFl F)) i ∧ Fl.co F i = Fl.co (flOf (gFl F)) i ∧ Fl.bu F i = Fl.bu (flOf (gFl F)) i ∧ Fl.si F i = Fl.si (flOf (gFl F)) i ∧ Fl.ca F i = Fl.ca (flOf (gFl F)) i ∧ True,
      n = n,
      ∀ (i : Nat), i < n → P i = colOf (gI P) i ∧ True,
      n = n,
      ∀ (i : Nat), i < n → B i = colOf (gU64 B) i ∧ True,
      (Rg.fit { c := { a := Cf.a (Rg.c { c := c, n := n, F := F, P := P, B := B }), c := Cf.c (Rg.c { c := c, n := n, F := F, P := P, B := B }), l := Cf.l (Rg.c { c := c, n := n, F := F, P := P, B := B }), q := Cf.q (Rg.c { c := c, n := n, F := F, P := P, B := B }), P := Cf.P (Rg.c { c := c, n := n, F := F, P := P, B := B }), B := Cf.B (Rg.c { c := c, n := n, F := F, P := P, B := B }), S := Cf.S (Rg.c { c := c, n := n, F := F, P := P, B := B }), U := Cf.U (Rg.c { c := c, n := n, F := F, P := P, B := B }), r := Cf.r (Rg.c { c := c, n := n, F := F, P := P, B := B }), u := Cf.u (Rg.c { c := c, n := n, F := F, P := P, B := B }) }, n := Rg.n { c := c, n := n, F := F, P := P, B := B }, F := flOf (gFl (Rg.F { c := c, n := n, F := F, P := P, B := B })), P := colOf (gI (Rg.P { c := c, n := n, F := F, P := P, B := B })), B := colOf (gU64 (Rg.B { c := c, n := n, F := F, P := P, B := B })) } id k == (0 : Int)) = true,
      n ≤ (4611686018427387904 : Nat),
      id = id,
      n = n,
      ∀ (i : Nat), i < n → Fl.id F i = Fl.id (flOf (gFl F)) i ∧ Fl.co F i = Fl.co (flOf (gFl F)) i ∧ Fl.bu F i = Fl.bu (flOf (gFl F)) i ∧ Fl.si F i = Fl.si (flOf (gFl F)) i ∧ Fl.ca F i = Fl.ca (flOf (gFl F)) i ∧ True,
      (0 : Int) ≤ idx (Fl.id (flOf (gFl F))) id n,
      idx (Fl.id (flOf (gFl F))) id n < (↑n : Int),
      Int.toNat (idx (Fl.id (flOf (gFl F))) id n) < n,
      (0 : Int) ≤ idx (Fl.id (flOf (gFl F))) id n,
      idx (Fl.id (flOf (gFl F))) id n < (↑n : Int),
      Int.toNat (idx (Fl.id (flOf (gFl F))) id n) < n,
      n ≤ (100 : Nat),
      Int.toNat (idx (Fl.id (flOf (gFl F))) id n) < n,
      n = n,
      n = n,
      n ≤ (100 : Nat),
      (0 : Nat) = (0 : Nat),
      idx (Fl.id (flOf (gFl F))) id n = (↑(Int.toNat (idx (Fl.id (flOf (gFl F))) id n)) : Int),
      IntKind.wrap IntKind.i64 (P (Int.toNat (idx (Fl.id (flOf (gFl F))) id n)) + (1 : Int)) = IntKind.wrap IntKind.i64 (P (Int.toNat (idx (Fl.id (flOf (gFl F))) id n)) + (1 : Int)),
      IntKind.wrap IntKind.u64 (B (Int.toNat (idx (Fl.id (flOf (gFl F))) id n)) + k) = IntKind.wrap IntKind.u64 (B (Int.toNat (idx (Fl.id (flOf (gFl F))) id n)) + k),
      Cf.a c = Cf.a c,
      Cf.c c = Cf.c c,
      Cf.l c = Cf.l c,
      Cf.q c = Cf.q c,
      Cf.P c = Cf.P c,
      Cf.B c = Cf.B c,
      Cf.S c = Cf.S c,
      Cf.U c = Cf.U c,
      Cf.r c = Cf.r c,
      Cf.u c = Cf.u c,
      n = n,
      ∀ (i : Nat), i < n → Fl.id F i = Fl.id (flOf (gFl F)) i ∧ Fl.co F i = Fl.co (flOf (gFl F)) i ∧ Fl.bu F i = Fl.bu (flOf (gFl F)) i ∧ Fl.si F i = Fl.si (flOf (gFl F)) i ∧ Fl.ca F i = Fl.ca (flOf (gFl F)) i ∧ True,
      n = n,
      ∀ (i : Nat), i < n → P i = colOf (gI P) i ∧ True,
      n = n,
      ∀ (i : Nat), i < n → B i = colOf (gU64 B) i ∧ True,
      ∀ (i : Nat), i < Rg.n (Rg.chg { c := c, n := n, F := flOf (gFl F), P := colOf (gI P), B := colOf (gU64 B) } (Int.toNat (idx (Fl.id (flOf (gFl F))) id n)) (IntKind.wrap IntKind.i64 (P (Int.toNat (idx (Fl.id (flOf (gFl F))) id n)) + (1 : Int))) (IntKind.wrap IntKind.u64 (B (Int.toNat (idx (Fl.id (flOf (gFl F))) id n)) + k))) → (true && true) = true,
      ∀ (i : Nat), i < Rg.n (Rg.chg { c := c, n := n, F := flOf (gFl F), P := colOf (gI P), B := colOf (gU64 B) } (Int.toNat (idx (Fl.id (flOf (gFl F))) id n)) (IntKind.wrap IntKind.i64 (P (Int.toNat (idx (Fl.id (flOf (gFl F))) id n)) + (1 : Int))) (IntKind.wrap IntKind.u64 (B (Int.toNat (idx (Fl.id (flOf (gFl F))) id n)) + k))) → (true && true) = true,
      Rg.fit { c := c, n := n, F := flOf (gFl F), P := colOf (gI P), B := colOf (gU64 B) } id k = Rg.fit { c := c, n := n, F := F, P := P, B := B } id k,
      Cf.a (Rg.c (Rg.chg { c := c, n := n, F := flOf (gFl F), P := colOf (gI P), B := colOf (gU64 B) } (Int.toNat (idx (Fl.id (flOf (gFl F))) id n)) (IntKind.wrap IntKind.i64 (P (Int.toNat (idx (Fl.id (flOf (gFl F))) id n)) + (1 : Int))) (IntKind.wrap IntKind.u64 (B (Int.toNat (idx (Fl.id (flOf (gFl F))) id n)) + k)))) = Cf.a (Rg.c (Rg.chg { c := c, n := n, F := F, P := P, B := B } (Int.toNat (idx (Fl.id F) id n)) (IntKind.wrap IntKind.i64 (P (Int.toNat (idx (Fl.id F) id n)) + (1 : Int))) (IntKind.wrap IntKind.u64 (B (Int.toNat (idx (Fl.id F) id n)) + k)))),
      Cf.c (Rg.c (Rg.chg { c := c, n := n, F := flOf (gFl F), P := colOf (gI P), B := colOf (gU64 B) } (Int.toNat (idx (Fl.id (flOf (gFl F))) id n)) (IntKind.wrap IntKind.i64 (P (Int.toNat (idx (Fl.id (flOf (gFl F))) id n)) + (1 : Int))) (IntKind.wrap IntKind.u64 (B (Int.toNat (idx (Fl.id (flOf (gFl F))) id n)) + k)))) = Cf.c (Rg.c (Rg.chg { c := c, n := n, F := F, P := P, B := B } (Int.toNat (idx (Fl.id F) id n)) (IntKind.wrap IntKind.i64 (P (Int.toNat (idx (Fl.id F) id n)) + (1 : Int))) (IntKind.wrap IntKind.u64 (B (Int.toNat (idx (Fl.id F) id n)) + k)))),
      Cf.l (Rg.c (Rg.chg { c := c, n := n, F := flOf (gFl F), P := colOf (gI P), B := colOf (gU64 B) } (Int.toNat (idx (Fl.id (flOf (gFl F))) id n)) (IntKind.wrap IntKind.i64 (P (Int.toNat (idx (Fl.id (flOf (gFl F))) id n)) + (1 : Int))) (IntKind.wrap IntKind.u64 (B (Int.toNat (idx (Fl.id (flOf (gFl F))) id n)) + k)))) = Cf.l (Rg.c (Rg.chg { c := c, n := n, F := F, P := P, B := B } (Int.toNat (idx (Fl.id F) id n)) (IntKind.wrap IntKind.i64 (P (Int.toNat (idx (Fl.id F) id n)) + (1 : Int))) (IntKind.wrap IntKind.u64 (B (Int.toNat (idx (Fl.id F) id n)) + k)))),
      Cf.q (Rg.c (Rg.chg { c := c, n := n, F := flOf (gFl F), P := colOf (gI P), B := colOf (gU64 B) } (Int.toNat (idx (Fl.id (flOf (gFl F))) id n)) (IntKind.wrap IntKind.i64 (P (Int.toNat (idx (Fl.id (flOf (gFl F))) id n)) + (1 : Int))) (IntKind.wrap IntKind.u64 (B (Int.toNat (idx (Fl.id (flOf (gFl F))) id n)) + k)))) = Cf.q (Rg.c (Rg.chg { c := c, n := n, F := F, P := P, B := B } (Int.toNat (idx (Fl.id F) id n)) (IntKind.wrap IntKind.i64 (P (Int.toNat (idx (Fl.id F) id n)) + (1 : Int))) (IntKind.wrap IntKind.u64 (B (Int.toNat (idx (Fl.id F) id n)) + k)))),
      Cf.P (Rg.c (Rg.chg { c := c, n := n, F := flOf (gFl F), P := colOf (gI P), B := colOf (gU64 B) } (Int.toNat (idx (Fl.id (flOf (gFl F))) id n)) (IntKind.wrap IntKind.i64 (P (Int.toNat (idx (Fl.id (flOf (gFl F))) id n)) + (1 : Int))) (IntKind.wrap IntKind.u64 (B (Int.toNat (idx (Fl.id (flOf (gFl F))) id n)) + k)))) = Cf.P (Rg.c (Rg.chg { c := c, n := n, F := F, P := P, B := B } (Int.toNat (idx (Fl.id F) id n)) (IntKind.wrap IntKind.i64 (P (Int.toNat (idx (Fl.id F) id n)) + (1 : Int))) (IntKind.wrap IntKind.u64 (B (Int.toNat (idx (Fl.id F) id n)) + k)))),
      Cf.B (Rg.c (Rg.chg { c := c, n := n, F := flOf (gFl F), P := colOf (gI P), B := colOf (gU64 B) } (Int.toNat (idx (Fl.id (flOf (gFl F))) id n)) (IntKind.wrap IntKind.i64 (P (Int.toNat (idx (Fl.id (flOf (gFl F))) id n)) + (1 : Int))) (IntKind.wrap IntKind.u64 (B (Int.toNat (idx (Fl.id (flOf (gFl F))) id n)) + k)))) = Cf.B (Rg.c (Rg.chg { c := c, n := n, F := F, P := P, B := B } (Int.toNat (idx (Fl.id F) id n)) (IntKind.wrap IntKind.i64 (P (Int.toNat (idx (Fl.id F) id n)) + (1 : Int))) (IntKind.wrap IntKind.u64 (B (Int.toNat (idx (Fl.id F) id n)) + k)))),
      Cf.S (Rg.c (Rg.chg { c := c, n := n, F := flOf (gFl F), P := colOf (gI P), B := colOf (gU64 B) } (Int.toNat (idx (Fl.id (flOf (gFl F))) id n)) (IntKind.wrap IntKind.i64 (P (Int.toNat (idx (Fl.id (flOf (gFl F))) id n)) + (1 : Int))) (IntKind.wrap IntKind.u64 (B (Int.toNat (idx (Fl.id (flOf (gFl F))) id n)) + k)))) = Cf.S (Rg.c (Rg.chg { c := c, n := n, F := F, P := P, B := B } (Int.toNat (idx (Fl.id F) id n)) (IntKind.wrap IntKind.i64 (P (Int.toNat (idx (Fl.id F) id n)) + (1 : Int))) (IntKind.wrap IntKind.u64 (B (Int.toNat (idx (Fl.id F) id n)) + k)))),
      Cf.U (Rg.c (Rg.chg { c := c, n := n, F := flOf (gFl F), P := colOf (gI P), B := colOf (gU64 B) } (Int.toNat (idx (Fl.id (flOf (gFl F))) id n)) (IntKind.wrap IntKind.i64 (P (Int.toNat (idx (Fl.id (flOf (gFl F))) id n)) + (1 : Int))) (IntKind.wrap IntKind.u64 (B (Int.toNat (idx (Fl.id (flOf (gFl F))) id n)) + k)))) = Cf.U (Rg.c (Rg.chg { c := c, n := n, F := F, P := P, B := B } (Int.toNat (idx (Fl.id F) id n)) (IntKind.wrap IntKind.i64 (P (Int.toNat (idx (Fl.id F) id n)) + (1 : Int))) (IntKind.wrap IntKind.u64 (B (Int.toNat (idx (Fl.id F) id n)) + k)))),
      Cf.r (Rg.c (Rg.chg { c := c, n := n, F := flOf (gFl F), P := colOf (gI P), B := colOf (gU64 B) } (Int.toNat (idx (Fl.id (flOf (gFl F))) id n)) (IntKind.wrap IntKind.i64 (P (Int.toNat (idx (Fl.id (flOf (gFl F))) id n)) + (1 : Int))) (IntKind.wrap IntKind.u64 (B (Int.toNat (idx (Fl.id (flOf (gFl F))) id n)) + k)))) = Cf.r (Rg.c (Rg.chg { c := c, n := n, F := F, P := P, B := B } (Int.toNat (idx (Fl.id F) id n)) (IntKind.wrap IntKind.i64 (P (Int.toNat (idx (Fl.id F) id n)) + (1 : Int))) (IntKind.wrap IntKind.u64 (B (Int.toNat (idx (Fl.id F) id n)) + k)))),
      Cf.u (Rg.c (Rg.chg { c := c, n := n, F := flOf (gFl F), P := colOf (gI P), B := colOf (gU64 B) } (Int.toNat (idx (Fl.id (flOf (gFl F))) id n)) (IntKind.wrap IntKind.i64 (P (Int.toNat (idx (Fl.id (flOf (gFl F))) id n)) + (1 : Int))) (IntKind.wrap IntKind.u64 (B (Int.toNat (idx (Fl.id (flOf (gFl F))) id n)) + k)))) = Cf.u (Rg.c (Rg.chg { c := c, n := n, F := F, P := P, B := B } (Int.toNat (idx (Fl.id F) id n)) (IntKind.wrap IntKind.i64 (P (Int.toNat (idx (Fl.id F) id n)) + (1 : Int))) (IntKind.wrap IntKind.u64 (B (Int.toNat (idx (Fl.id F) id n)) + k)))),
      n = Rg.n (Rg.chg { c := c, n := n, F := F, P := P, B := B } (Int.toNat (idx (Fl.id F) id n)) (IntKind.wrap IntKind.i64 (P (Int.toNat (idx (Fl.id F) id n)) + (1 : Int))) (IntKind.wrap IntKind.u64 (B (Int.toNat (idx (Fl.id F) id n)) + k))),
      ∀ (i : Nat), i < n → Fl.id F i = Fl.id (Rg.F (Rg.chg { c := c, n := n, F := F, P := P, B := B } (Int.toNat (idx (Fl.id F) id n)) (IntKind.wrap IntKind.i64 (P (Int.toNat (idx (Fl.id F) id n)) + (1 : Int))) (IntKind.wrap IntKind.u64 (B (Int.toNat (idx (Fl.id F) id n)) + k)))) i ∧ Fl.co F i = Fl.co (Rg.F (Rg.chg { c := c, n := n, F := F, P := P, B := B } (Int.toNat (idx (Fl.id F) id n)) (IntKind.wrap IntKind.i64 (P (Int.toNat (idx (Fl.id F) id n)) + (1 : Int))) (IntKind.wrap IntKind.u64 (B (Int.toNat (idx (Fl.id F) id n)) + k)))) i ∧ Fl.bu F i = Fl.bu (Rg.F (Rg.chg { c := c, n := n, F := F, P := P, B := B } (Int.toNat (idx (Fl.id F) id n)) (IntKind.wrap IntKind.i64 (P (Int.toNat (idx (Fl.id F) id n)) + (1 : Int))) (IntKind.wrap IntKind.u64 (B (Int.toNat (idx (Fl.id F) id n)) + k)))) i ∧ Fl.si F i = Fl.si (Rg.F (Rg.chg { c := c, n := n, F := F, P := P, B := B } (Int.toNat (idx (Fl.id F) id n)) (IntKind.wrap IntKind.i64 (P (Int.toNat (idx (Fl.id F) id n)) + (1 : Int))) (IntKind.wrap IntKind.u64 (B (Int.toNat (idx (Fl.id F) id n)) + k)))) i ∧ Fl.ca F i = Fl.ca (Rg.F (Rg.chg { c := c, n := n, F := F, P := P, B := B } (Int.toNat (idx (Fl.id F) id n)) (IntKind.wrap IntKind.i64 (P (Int.toNat (idx (Fl.id F) id n)) + (1 : Int))) (IntKind.wrap IntKind.u64 (B (Int.toNat (idx (Fl.id F) id n)) + k)))) i ∧ True,
      Rg.n (Rg.chg { c := c, n := n, F := flOf (gFl F), P := colOf (gI P), B := colOf (gU64 B) } (Int.toNat (idx (Fl.id (flOf (gFl F))) id n)) (IntKind.wrap IntKind.i64 (P (Int.toNat (idx (Fl.id (flOf (gFl F))) id n)) + (1 : Int))) (IntKind.wrap IntKind.u64 (B (Int.toNat (idx (Fl.id (flOf (gFl F))) id n)) + k))) = Rg.n (Rg.chg { c := c, n := n, F := F, P := P, B := B } (Int.toNat (idx (Fl.id F) id n)) (IntKind.wrap IntKind.i64 (P (Int.toNat (idx (Fl.id F) id n)) + (1 : Int))) (IntKind.wrap IntKind.u64 (B (Int.toNat (idx (Fl.id F) id n)) + k))),
      ∀ (i : Nat), i < Rg.n (Rg.chg { c := c, n := n, F := flOf (gFl F), P := colOf (gI P), B := colOf (gU64 B) } (Int.toNat (idx (Fl.id (flOf (gFl F))) id n)) (IntKind.wrap IntKind.i64 (P (Int.toNat (idx (Fl.id (flOf (gFl F))) id n)) + (1 : Int))) (IntKind.wrap IntKind.u64 (B (Int.toNat (idx (Fl.id (flOf (gFl F))) id n)) + k))) → Rg.P (Rg.chg { c := c, n := n, F := flOf (gFl F), P := colOf (gI P), B := colOf (gU64 B) } (Int.toNat (idx (Fl.id (flOf (gFl F))) id n)) (IntKind.wrap IntKind.i64 (P (Int.toNat (idx (Fl.id (flOf (gFl F))) id n)) + (1 : Int))) (IntKind.wrap IntKind.u64 (B (Int.toNat (idx (Fl.id (flOf (gFl F))) id n)) + k))) i = Rg.P (Rg.chg { c := c, n := n, F := F, P := P, B := B } (Int.toNat (idx (Fl.id F) id n)) (IntKind.wrap IntKind.i64 (P (Int.toNat (idx (Fl.id F) id n)) + (1 : Int))) (IntKind.wrap IntKind.u64 (B (Int.toNat (idx (Fl.id F) id n)) + k))) i ∧ True,
      Rg.n (Rg.chg { c := c, n := n, F := flOf (gFl F), P := colOf (gI P), B := colOf (gU64 B) } (Int.toNat (idx (Fl.id (flOf (gFl F))) id n)) (IntKind.wrap IntKind.i64 (P (Int.toNat (idx (Fl.id (flOf (gFl F))) id n)) + (1 : Int))) (IntKind.wrap IntKind.u64 (B (Int.toNat (idx (Fl.id (flOf (gFl F))) id n)) + k))) = Rg.n (Rg.chg { c := c, n := n, F := F, P := P, B := B } (Int.toNat (idx (Fl.id F) id n)) (IntKind.wrap IntKind.i64 (P (Int.toNat (idx (Fl.id F) id n)) + (1 : Int))) (IntKind.wrap IntKind.u64 (B (Int.toNat (idx (Fl.id F) id n)) + k))),
      ∀ (i : Nat), i < Rg.n (Rg.chg { c := c, n := n, F := flOf (gFl F), P := colOf (gI P), B := colOf (gU64 B) } (Int.toNat (idx (Fl.id (flOf (gFl F))) id n)) (IntKind.wrap IntKind.i64 (P (Int.toNat (idx (Fl.id (flOf (gFl F))) id n)) + (1 : Int))) (IntKind.wrap IntKind.u64 (B (Int.toNat (idx (Fl.id (flOf (gFl F))) id n)) + k))) → Rg.B (Rg.chg { c := c, n := n, F := flOf (gFl F), P := colOf (gI P), B := colOf (gU64 B) } (Int.toNat (idx (Fl.id (flOf (gFl F))) id n)) (IntKind.wrap IntKind.i64 (P (Int.toNat (idx (Fl.id (flOf (gFl F))) id n)) + (1 : Int))) (IntKind.wrap IntKind.u64 (B (Int.toNat (idx (Fl.id (flOf (gFl F))) id n)) + k))) i = Rg.B (Rg.chg { c := c, n := n, F := F, P := P, B := B } (Int.toNat (idx (Fl.id F) id n)) (IntKind.wrap IntKind.i64 (P (Int.toNat (idx (Fl.id F) id n)) + (1 : Int))) (IntKind.wrap IntKind.u64 (B (Int.toNat (idx (Fl.id F) id n)) + k))) i ∧ True]) (by kernel_rfl) (.cons (by assumption) (.cons (by assumption) (.cons (by assumption) (.cons (by assumption) (.cons (by rfl) (.cons (by rfl) (.cons (by assumption) (.cons (by rfl) (.cons (by rfl) (.cons (by rfl) (.cons (by rfl) (.cons (by rfl) (.cons (by rfl) (.cons (by rfl) (.cons (by rfl) (.cons (by rfl) (.cons (by rfl) (.cons (by rfl) (.cons (by rfl) (.cons (by rfl) (.cons (by rfl) (.cons (by (intro _ _; exact ⟨rfl, rfl, rfl, rfl, rfl, trivial⟩)) (.cons (by rfl) (.cons (by (intro _ _; exact ⟨rfl, trivial⟩)) (.cons (by rfl) (.cons (by (intro _ _; exact ⟨rfl, trivial⟩)) (.cons (by exact beq_iff_eq.2 he) (.cons (by omega) (.cons (by rfl) (.cons (by rfl) (.cons (by (intro _ _; exact ⟨rfl, rfl, rfl, rfl, rfl, trivial⟩)) (.cons (by assumption) (.cons (by assumption) (.cons (by assumption) (.cons (by assumption) (.cons (by assumption) (.cons (by assumption) (.cons (by assumption) (.cons (by assumption) (.cons (by rfl) (.cons (by rfl) (.cons (by assumption) (.cons (by rfl) (.cons (by exact (Int.toNat_of_nonneg k0).symm) (.cons (by rfl) (.cons (by rfl) (.cons (by rfl) (.cons (by rfl) (.cons (by rfl) (.cons (by rfl) (.cons (by rfl) (.cons (by rfl) (.cons (by rfl) (.cons (by rfl) (.cons (by rfl) (.cons (by rfl) (.cons (by rfl) (.cons (by (intro _ _; exact ⟨rfl, rfl, rfl, rfl, rfl, trivial⟩)) (.cons (by rfl) (.cons (by (intro _ _; exact ⟨rfl, trivial⟩)) (.cons (by rfl) (.cons (by (intro _ _; exact ⟨rfl, trivial⟩)) (.cons (by (intro _ _; rfl)) (.cons (by (intro _ _; rfl)) (.cons (by rfl) (.cons (by rfl) (.cons (by rfl) (.cons (by rfl) (.cons (by rfl) (.cons (by rfl) (.cons (by rfl) (.cons (by rfl) (.cons (by rfl) (.cons (by rfl) (.cons (by rfl) (.cons (by rfl) (.cons (by (intro _ _; exact ⟨rfl, rfl, rfl, rfl, rfl, trivial⟩)) (.cons (by rfl) (.cons (by (intro _ _; exact ⟨rfl, trivial⟩)) (.cons (by rfl) (.cons (by (intro _ _; exact ⟨rfl, trivial⟩)) .nil))))))))))))))))))))))))))))))))))))))))))))))))))))))))))))))))))))))))))))))))) (Nat.le_of_ble_eq_true (by kernel_rfl))
end Go.Proofs.Ytmhkbepnankopaa

/- admit: the document's In, Lay, Out as specifications. No condition. -/
namespace Go.Proofs.Ytmhkbepnankopaa
set_option linter.unusedVariables false
set_option linter.unusedSimpArgs false
open Go.RowKit E
theorem rfit_at {x : Rg} {id k : Int} (h : x.fit id k = 0) : ¬ x.at' id < 0 := by
  intro q
  unfold Rg.fit at h
  rw [if_pos q] at h
  split at h <;> cases h
theorem rmay_fit {x : Rg} {id k : Int} (h : x.may id k = 0) : x.fit id k = 0 := by
  unfold Rg.may at h
  split at h
  · rename_i q; exact absurd h q
  · rename_i q; exact Classical.not_not.1 q
def Rg.put (x : Rg) (id k : Int) : Rg := x.chg (x.at' id).toNat (IntKind.wrap .i64 (x.P (x.at' id).toNat + 1)) (IntKind.wrap .u64 (x.B (x.at' id).toNat + k))
abbrev Rg.norm (y x : Rg) : Rg := ⟨x.c, x.n, x.F, y.P, y.B⟩
def Rg.inn (x : Rg) (id k : Int) : Rg := if x.may id k = 0 then x.put id k else x
def Rg.lay (x : Rg) (id k : Int) : Rg := if x.fit id k = 0 then x.put id k else x
def Rg.outE (x : Rg) (id k : Int) : Int := if x.at' id < 0 then 13 else if x.P (x.at' id).toNat = 0 ∨ x.B (x.at' id).toNat < k then 9 else 0
def Rg.out (x : Rg) (id k : Int) : Rg := if x.outE id k = 0 then x.chg (x.at' id).toNat (IntKind.wrap .i64 (x.P (x.at' id).toNat - 1)) (IntKind.wrap .u64 (x.B (x.at' id).toNat - k)) else x
theorem rinn_norm (x : Rg) (id k : Int) : (x.inn id k).norm x = x.inn id k := by
  unfold Rg.inn
  split <;> rfl
theorem rlay_norm (x : Rg) (id k : Int) : (x.lay id k).norm x = x.lay id k := by
  unfold Rg.lay
  split <;> rfl
theorem rout_norm (x : Rg) (id k : Int) : (x.out id k).norm x = x.out id k := by
  unfold Rg.out
  split <;> rfl
theorem fnRInn (x : Rg) (id k : Int) (hn : x.n ≤ 100) (h2 : x.bd) (q0 : 0 ≤ k) (q1 : k ≤ 18446744073709551615) (s0 : 0 ≤ x.c.S) (s1 : x.c.S.toNat ≤ 16) : FnOk Try.prog 18 [p0, u32A id, uA k] x.W (iA (x.may id k)) (x.inn id k).V := by
  unfold Rg.inn
  by_cases e : x.may id k = 0
  · obtain ⟨k0, k1, k2⟩ := idx_k (rfit_at (rmay_fit e))
    rw [if_pos e]; exact rinn_y x.c x.n x.F x.P x.B id k hn h2 q0 q1 s0 s1 e (rfit_at (rmay_fit e)) k0 k1 k2
  · rw [if_neg e]; exact rinn_e x.c x.n x.F x.P x.B id k hn h2 q0 q1 s0 s1 e
theorem fnRLay (x : Rg) (id k : Int) (hn : x.n ≤ 100) (h2 : x.bd) (q0 : 0 ≤ k) (q1 : k ≤ 18446744073709551615) (s0 : 0 ≤ x.c.S) (s1 : x.c.S.toNat ≤ 16) : FnOk Try.prog 21 [p0, u32A id, uA k] x.W (iA (x.fit id k)) (x.lay id k).V := by
  unfold Rg.lay
  by_cases e : x.fit id k = 0
  · obtain ⟨k0, k1, k2⟩ := idx_k (rfit_at e)
    rw [if_pos e]; exact rlay_y x.c x.n x.F x.P x.B id k hn h2 q0 q1 s0 s1 e (rfit_at e) k0 k1 k2
  · rw [if_neg e]; exact rlay_e x.c x.n x.F x.P x.B id k hn h2 q0 q1 s0 s1 e
theorem fnROut (x : Rg) (id k : Int) (hn : x.n ≤ 100) : FnOk Try.prog 19 [p0, u32A id, uA k] x.W (iA (x.outE id k)) (x.out id k).V := by
  unfold Rg.out
  by_cases h : x.at' id < 0
  · have e : x.outE id k = 13 := if_pos h
    rw [e, if_neg (by decide)]; exact rout_13 x.c x.n x.F x.P x.B id k hn h
  obtain ⟨k0, k1, k2⟩ := idx_k h
  by_cases a : x.P (x.at' id).toNat = 0
  · have e : x.outE id k = 9 := by unfold Rg.outE; rw [if_neg h, if_pos (.inl a)]
    rw [e, if_neg (by decide)]; exact rout_9 x.c x.n x.F x.P x.B id k hn h k0 k1 k2 a
  by_cases a2 : x.B (x.at' id).toNat < k
  · have e : x.outE id k = 9 := by unfold Rg.outE; rw [if_neg h, if_pos (.inr a2)]
    rw [e, if_neg (by decide)]; exact rout_9b x.c x.n x.F x.P x.B id k hn h k0 k1 k2 a a2
  have e : x.outE id k = 0 := by unfold Rg.outE; rw [if_neg h, if_neg (by rintro (q | q); exact a q; exact a2 q)]
  rw [e, if_pos rfl]; exact rout_ok x.c x.n x.F x.P x.B id k hn h k0 k1 k2 a a2
def gRInn : List SV → List Seg → Option (CS × List Prop)
  | [.nv (.one (.ptr h 0)), .nv (.one (.val (.int .u32 id))), .nv (.one (.val (.int .u64 k)))], mem => match rgAt mem h with
    | some (x, o) => some (⟨[p0, u32A id, uA k], x.W, iA (x.may id k), ((x.inn id k).norm x).V⟩, [x.n ≤ 100, x.bd, 0 ≤ k, k ≤ 18446744073709551615, 0 ≤ x.c.S, x.c.S.toNat ≤ 16] ++ o)
    | none => none
  | _, _ => none
theorem spRInn : SpOk Try.prog 18 (.lift gRInn) := by
  intro args mem cs obl h ho
  unfold gRInn at h
  split at h
  · split at h
    · simp only [Option.some.injEq, Prod.mk.injEq] at h
      obtain ⟨rfl, rfl⟩ := h
      exact by rw [rinn_norm]; exact fnRInn _ _ _ ho.1 ho.2.1 ho.2.2.1 ho.2.2.2.1 ho.2.2.2.2.1 ho.2.2.2.2.2.1
    · cases h
  · cases h
def gRLay : List SV → List Seg → Option (CS × List Prop)
  | [.nv (.one (.ptr h 0)), .nv (.one (.val (.int .u32 id))), .nv (.one (.val (.int .u64 k)))], mem => match rgAt mem h with
    | some (x, o) => some (⟨[p0, u32A id, uA k], x.W, iA (x.fit id k), ((x.lay id k).norm x).V⟩, [x.n ≤ 100, x.bd, 0 ≤ k, k ≤ 18446744073709551615, 0 ≤ x.c.S, x.c.S.toNat ≤ 16] ++ o)
    | none => none
  | _, _ => none
theorem spRLay : SpOk Try.prog 21 (.lift gRLay) := by
  intro args mem cs obl h ho
  unfold gRLay at h
  split at h
  · split at h
    · simp only [Option.some.injEq, Prod.mk.injEq] at h
      obtain ⟨rfl, rfl⟩ := h
      exact by rw [rlay_norm]; exact fnRLay _ _ _ ho.1 ho.2.1 ho.2.2.1 ho.2.2.2.1 ho.2.2.2.2.1 ho.2.2.2.2.2.1
    · cases h
  · cases h
def gROut : List SV → List Seg → Option (CS × List Prop)
  | [.nv (.one (.ptr h 0)), .nv (.one (.val (.int .u32 id))), .nv (.one (.val (.int .u64 k)))], mem => match rgAt mem h with
    | some (x, o) => some (⟨[p0, u32A id, uA k], x.W, iA (x.outE id k), ((x.out id k).norm x).V⟩, [x.n ≤ 100] ++ o)
    | none => none
  | _, _ => none
theorem spROut : SpOk Try.prog 19 (.lift gROut) := by
  intro args mem cs obl h ho
  unfold gROut at h
  split at h
  · split at h
    · simp only [Option.some.injEq, Prod.mk.injEq] at h
      obtain ⟨rfl, rfl⟩ := h
      exact by rw [rout_norm]; exact fnROut _ _ _ ho.1
    · cases h
  · cases h
def Gad12 : List (FuncId × Sp) := (18, .lift gRInn) :: (21, .lift gRLay) :: (19, .lift gROut) :: Gad11
theorem Gad12_ok : CtxOk Try.prog Gad12 := ctx_cons (enter_of Try.func18 (by kernel_rfl) (by kernel_rfl)) spRInn <|
  ctx_cons (enter_of Try.func21 (by kernel_rfl) (by kernel_rfl)) spRLay <|
  ctx_cons (enter_of Try.func19 (by kernel_rfl) (by kernel_rfl)) spROut Gad11_ok
end Go.Proofs.Ytmhkbepnankopaa

/- Runs of Go code, as printed by a program: no condition beyond those that each states. -/
import Derived.Test.YtbgagcmdabpbgaaWsO
import Derived.Test.YtbgagcmdabpbgaaChecked
import Derived.KernelRfl
namespace Go.Proofs.Ytbgagcmdabpbgaa
set_option linter.unusedVariables false
set_option linter.unusedSimpArgs false
set_option maxRecDepth 100000
open Go.RowKit E
set_option maxHeartbeats 2000000 in
theorem wb_1 (len : Nat) (L : Nat → Fl) (b : ByteArray) (c : Int) (hl : len ≤ 9223372036854775807) (hf : fewB L len = false) : LawOk Try.prog 5 ([.nv (.one (.own 0)), sA b, .nv (.one (.val (.int .u16 c)))]) ([.ro 3 len (gF L)]) (bA true) :=
  law_run GbH_ok Try.func5 (orc := ⟨[true, true], []⟩) (obl := [len ≤ (9223372036854775807 : Nat),
      len = len,
      ∀ (i : Nat), i < len → Fl.k (L i) = Fl.k (flOf (gF L) i) ∧ Fl.n (L i) = Fl.n (flOf (gF L) i) ∧ Fl.s (L i) = Fl.s (flOf (gF L) i) ∧ True,
      (!fewB (flOf (gF L)) len) = true,
      true = true,
      true = true]) (by kernel_rfl) (.cons (by assumption) (.cons (by rfl) (.cons (by (intro _ _; exact ⟨rfl, rfl, rfl, trivial⟩)) (.cons (by (show (!fewB L len) = true; rw [hf]; rfl)) (.cons (by rfl) (.cons (by rfl) .nil))))))

set_option maxHeartbeats 2000000 in
theorem wb_2 (len : Nat) (L : Nat → Fl) (b : ByteArray) (c : Int) (hl : len ≤ 200) (hf : fewB L len = true) (hb : 1000 < b.size) : LawOk Try.prog 5 ([.nv (.one (.own 0)), sA b, .nv (.one (.val (.int .u16 c)))]) ([.ro 3 len (gF L)]) (bA true) :=
  law_run GbH_ok Try.func5 (orc := ⟨[false, true], []⟩) (obl := [len ≤ (9223372036854775807 : Nat),
      len = len,
      ∀ (i : Nat), i < len → Fl.k (L i) = Fl.k (flOf (gF L) i) ∧ Fl.n (L i) = Fl.n (flOf (gF L) i) ∧ Fl.s (L i) = Fl.s (flOf (gF L) i) ∧ True,
      (!fewB (flOf (gF L)) len) = false,
      decide ((↑(ByteArray.size b) : Int) > (1000 : Int)) = true,
      true = true]) (by kernel_rfl) (.cons (by omega) (.cons (by rfl) (.cons (by (intro _ _; exact ⟨rfl, rfl, rfl, trivial⟩)) (.cons (by (show (!fewB L len) = false; rw [hf]; rfl)) (.cons (by exact decide_eq_true (by omega)) (.cons (by rfl) .nil))))))

set_option maxHeartbeats 2000000 in
theorem wb_3 (len : Nat) (L : Nat → Fl) (b : ByteArray) (c : Int) (hl : len ≤ 200) (hf : fewB L len = true) (hb : b.size ≤ 1000) (hw : ∀ i, i < len → (L i).wf) (he : badZ L len ≠ 0) (hs : putStr L len = .empty) : LawOk Try.prog 5 ([.nv (.one (.own 0)), sA b, .nv (.one (.val (.int .u16 c)))]) ([.ro 3 len (gF L)]) (bA true) :=
  law_run GbH_ok Try.func5 (orc := ⟨[false, false, true, true], []⟩) (obl := [len ≤ (9223372036854775807 : Nat),
      len = len,
      ∀ (i : Nat), i < len → Fl.k (L i) = Fl.k (flOf (gF L) i) ∧ Fl.n (L i) = Fl.n (flOf (gF L) i) ∧ Fl.s (L i) = Fl.s (flOf (gF L) i) ∧ True,
      (!fewB (flOf (gF L)) len) = false,
      decide ((↑(ByteArray.size b) : Int) > (1000 : Int)) = false,
      len ≤ (1000 : Nat),
      ∀ (i : Nat), i < len → Fl.wf (flOf (gF L) i),
      len = len,
      ∀ (i : Nat), i < len → Fl.k (L i) = Fl.k (flOf (gF L) i) ∧ Fl.n (L i) = Fl.n (flOf (gF L) i) ∧ Fl.s (L i) = Fl.s (flOf (gF L) i) ∧ True,
      (badZ (flOf (gF L)) len != (0 : Int)) = true,
      (ByteArray.toList (putStr (flOf (gF L)) len) == ByteArray.toList (ByteArray.mk #[])) = true,
      true = true]) (by kernel_rfl) (.cons (by omega) (.cons (by rfl) (.cons (by (intro _ _; exact ⟨rfl, rfl, rfl, trivial⟩)) (.cons (by (show (!fewB L len) = false; rw [hf]; rfl)) (.cons (by exact decide_eq_false (by omega)) (.cons (by omega) (.cons (by assumption) (.cons (by rfl) (.cons (by (intro _ _; exact ⟨rfl, rfl, rfl, trivial⟩)) (.cons (by exact bne_iff_ne.2 he) (.cons (by (show ((putStr L len).toList == ByteArray.toList ⟨#[]⟩) = true; rw [hs]; exact toList_same _)) (.cons (by rfl) .nil))))))))))))

set_option maxHeartbeats 2000000 in
theorem wb_n (len i : Nat) (L : Nat → Fl) (b S : ByteArray) (c : Int) (hi : i < len) (hl : len ≤ 200) : CodeOk Try.prog 1 (loopOf Try.f5 0) (mkSt 108 [(0, .nv (.one (.own 0))), (1, sA b), (2, .nv (.one (.val (.int .u16 c)))), (7, sA S), (9, .nv (.one (.own 1))), (36, iA len), (37, iA i)] [.ro 3 len (gF L), .row 3 1 i (gK (fun j => (L j).k))]) .normal (mkSt 108 [(0, .nv (.one (.own 0))), (1, sA b), (2, .nv (.one (.val (.int .u16 c)))), (7, sA S), (9, .nv (.one (.own 1))), (36, iA len), (37, iA (i + 1))] [.ro 3 len (gF L), .row 3 1 (i + 1) (gK (fun j => (L j).k))]) :=
  code_run GbH_ok (orc := ⟨[true], []⟩) (obl := [decide ((↑i : Int) < (↑len : Int)) = true,
      (0 : Int) ≤ (↑i : Int),
      (↑i : Int) < (↑len : Int),
      Int.toNat (↑i : Int) < len,
      i + (1 : Nat) ≤ (4611686018427387904 : Nat),
      (i + (1 : Nat)) * (8 : Nat) ≤ (140737488355328 : Nat),
      b = b,
      c = c,
      S = S,
      (↑len : Int) = (↑len : Int),
      IntKind.wrap IntKind.i64 ((↑i : Int) + (1 : Int)) = (↑i : Int) + (1 : Int),
      len = len,
      ∀ (i : Nat), i < len → Fl.k (L i) = Fl.k (L i) ∧ Fl.n (L i) = Fl.n (L i) ∧ Fl.s (L i) = Fl.s (L i) ∧ True,
      i + (1 : Nat) = i + (1 : Nat),
      ∀ (i_1 : Nat), i_1 < i + (1 : Nat) → AllT (leAts ([(nat_lit 0, Bd.same (nat_lit 0))] ++ ([((0 : Nat), Bd.same (0 : Nat))] ++ ([] ++ ([] ++ ([] ++ ([((1 : Nat), Bd.same (3 : Nat))] ++ ([] ++ ([] ++ []))))))) ++ ([] ++ ([] ++ ([] ++ [])) ++ ([] ++ []))) (2 : Nat) (if i_1 = i then [At.val (Value.int IntKind.i64 (Fl.k (L (Int.toNat (↑i : Int)))))] else gK (fun (j : Nat) => Fl.k (L j)) i_1) (gK (fun (j : Nat) => Fl.k (L j)) i_1))]) (by kernel_rfl) (.cons (by exact decide_eq_true (by omega)) (.cons (by omega) (.cons (by omega) (.cons (by assumption) (.cons (by omega) (.cons (by omega) (.cons (by rfl) (.cons (by rfl) (.cons (by rfl) (.cons (by rfl) (.cons (by exact w64 (by omega) (by omega)) (.cons (by rfl) (.cons (by (intro _ _; exact ⟨rfl, rfl, rfl, trivial⟩)) (.cons (by rfl) (.cons (by (intro j hj; by_cases e : j = i; (rw [if_pos e, e]; exact ⟨rfl, trivial⟩); (rw [if_neg e]; exact ⟨rfl, trivial⟩))) .nil))))))))))))))) (Nat.le_of_ble_eq_true (by kernel_rfl))

set_option maxHeartbeats 2000000 in
theorem wb_e (len : Nat) (L : Nat → Fl) (b S : ByteArray) (c : Int) : CodeOk Try.prog 1 (loopOf Try.f5 0) (mkSt 108 [(0, .nv (.one (.own 0))), (1, sA b), (2, .nv (.one (.val (.int .u16 c)))), (7, sA S), (9, .nv (.one (.own 1))), (36, iA len), (37, iA len)] [.ro 3 len (gF L), .row 3 1 len (gK (fun j => (L j).k))]) (.exit 0) (mkSt 108 [(0, .nv (.one (.own 0))), (1, sA b), (2, .nv (.one (.val (.int .u16 c)))), (7, sA S), (9, .nv (.one (.own 1)))] [.ro 3 len (gF L), .row 3 1 len (gK (fun j => (L j).k))]) :=
  code_run GbH_ok (orc := ⟨[false], []⟩) (obl := [decide ((↑len : Int) < (↑len : Int)) = false,
      b = b,
      c = c,
      S = S,
      len = len,
      ∀ (i : Nat), i < len → Fl.k (L i) = Fl.k (L i) ∧ Fl.n (L i) = Fl.n (L i) ∧ Fl.s (L i) = Fl.s (L i) ∧ True,
      len = len,
      ∀ (i : Nat), i < len → Fl.k (L i) = Fl.k (L i) ∧ True]) (by kernel_rfl) (.cons (by exact decide_eq_false (by omega)) (.cons (by rfl) (.cons (by rfl) (.cons (by rfl) (.cons (by rfl) (.cons (by (intro _ _; exact ⟨rfl, rfl, rfl, trivial⟩)) (.cons (by rfl) (.cons (by (intro _ _; exact ⟨rfl, trivial⟩)) .nil)))))))) (Nat.le_of_ble_eq_true (by kernel_rfl))

set_option maxHeartbeats 2000000 in
theorem wb_4 (len : Nat) (L : Nat → Fl) (b S : ByteArray) (c : Int) (hl : len ≤ 200) (hf : fewB L len = true) (hb : b.size ≤ 1000) (hw : ∀ i, i < len → (L i).wf) (he : badZ L len = 0) (hs : putStr L len = S) (hz : S.size ≤ 100000000000000) (he1 : errT (S ++ b) (fun j => (L j).k) len = 0) (ha1 : atN (S ++ b) (fun j => (L j).k) len = S.size) (hF : ∀ i, i < len → L i = fldT (S ++ b) (fun j => (L j).k) i) (hS : S.size = 0) (hlen : len = 0) (l0 : CodeOk Try.prog 1 (.loop (loopOf Try.f5 0)) (mkSt 108 [(0, .nv (.one (.own 0))), (1, sA b), (2, .nv (.one (.val (.int .u16 c)))), (7, sA S), (9, .nv (.one (.own 1))), (36, iA len), (37, iA 0)] [.ro 3 len (gF L), .row 3 1 0 (gK (fun j => (L j).k))]) (.exit 0) (mkSt 108 [(0, .nv (.one (.own 0))), (1, sA b), (2, .nv (.one (.val (.int .u16 c)))), (7, sA S), (9, .nv (.one (.own 1)))] [.ro 3 len (gF L), .row 3 1 len (gK (fun j => (L j).k))])) : LawOk Try.prog 5 ([.nv (.one (.own 0)), sA b, .nv (.one (.val (.int .u16 c)))]) ([.ro 3 len (gF L)]) (bA true) :=
  law_run GbH_ok Try.func5 (orc := ⟨[false, false, false, false, false, false, true, true], [⟨mkSt 108 [(0, .nv (.one (.own 0))), (1, sA b), (2, .nv (.one (.val (.int .u16 c)))), (7, sA S), (9, .nv (.one (.own 1))), (36, iA len), (37, iA 0)] [.ro 3 len (gF L), .row 3 1 0 (gK (fun j => (L j).k))], .exit 0, mkSt 108 [(0, .nv (.one (.own 0))), (1, sA b), (2, .nv (.one (.val (.int .u16 c)))), (7, sA S), (9, .nv (.one (.own 1)))] [.ro 3 len (gF L), .row 3 1 len (gK (fun j => (L j).k))]⟩]⟩) (obl := [len ≤ (9223372036854775807 : Nat),
      len = len,
      ∀ (i : Nat), i < len → Fl.k (L i) = Fl.k (flOf (gF L) i) ∧ Fl.n (L i) = Fl.n (flOf (gF L) i) ∧ Fl.s (L i) = Fl.s (flOf (gF L) i) ∧ True,
      (!fewB (flOf (gF L)) len) = false,
      decide ((↑(ByteArray.size b) : Int) > (1000 : Int)) = false,
      len ≤ (1000 : Nat),
      ∀ (i : Nat), i < len → Fl.wf (flOf (gF L) i),
      len = len,
      ∀ (i : Nat), i < len → Fl.k (L i) = Fl.k (flOf (gF L) i) ∧ Fl.n (L i) = Fl.n (flOf (gF L) i) ∧ Fl.s (L i) = Fl.s (flOf (gF L) i) ∧ True,
      (badZ (flOf (gF L)) len != (0 : Int)) = false,
      b = b,
      c = c,
      putStr (flOf (gF L)) len = S,
      (↑len : Int) = (↑len : Int),
      (0 : Int) = (0 : Int),
      len = len,
      ∀ (i : Nat), i < len → Fl.k (L i) = Fl.k (L i) ∧ Fl.n (L i) = Fl.n (L i) ∧ Fl.s (L i) = Fl.s (L i) ∧ True,
      (0 : Nat) = (0 : Nat),
      (1 : Nat) ≤ (2 : Nat),
      CodeOk Try.prog (1 : Nat) (Code.loop (loopOf Try.f5 (0 : Nat))) (mkSt (108 : Nat) [((0 : Nat), SV.nv (NV.one (At.own (0 : Nat)))), ((1 : Nat), sA b), ((2 : Nat), SV.nv (NV.one (At.val (Value.int IntKind.u16 c)))), ((7 : Nat), sA S), ((9 : Nat), SV.nv (NV.one (At.own (1 : Nat)))), ((36 : Nat), iA (↑len : Int)), ((37 : Nat), iA (0 : Int))] [Seg.ro (3 : Nat) len (gF L), Seg.row (3 : TypeId) (1 : Nat) (0 : Nat) (gK fun (j : Nat) => Fl.k (L j))]) (Ex.exit (0 : Nat)) (mkSt (108 : Nat) [((0 : Nat), SV.nv (NV.one (At.own (0 : Nat)))), ((1 : Nat), sA b), ((2 : Nat), SV.nv (NV.one (At.val (Value.int IntKind.u16 c)))), ((7 : Nat), sA S), ((9 : Nat), SV.nv (NV.one (At.own (1 : Nat))))] [Seg.ro (3 : Nat) len (gF L), Seg.row (3 : TypeId) (1 : Nat) len (gK fun (j : Nat) => Fl.k (L j))]),
      (↑(ByteArray.size S + ByteArray.size b) : Int) ≤ IntKind.max IntKind.i64,
      ByteArray.size (S ++ b) ≤ (140737488355328 : Nat),
      len ≤ (1000 : Nat),
      S ++ b = S ++ b,
      len = len,
      ∀ (i : Nat), i < len → Fl.k (L i) = kOf (gK fun (j : Nat) => Fl.k (L j)) i ∧ True,
      ∀ (i : Nat), (i < if errT (S ++ b) (kOf (gK fun (j : Nat) => Fl.k (L j))) len = (0 : Int) then len else (0 : Nat)) → (true && (true && (true && true))) = true,
      len ≤ (100000 : Nat),
      ∀ (i : Nat), i < len → flOf (gF L) i = flOf (gF (fldT (S ++ b) (kOf (gK fun (j : Nat) => Fl.k (L j))))) i,
      len = len,
      ∀ (i : Nat), i < len → Fl.k (L i) = Fl.k (flOf (gF L) i) ∧ Fl.n (L i) = Fl.n (flOf (gF L) i) ∧ Fl.s (L i) = Fl.s (flOf (gF L) i) ∧ True,
      (if errT (S ++ b) (kOf (gK fun (j : Nat) => Fl.k (L j))) len = (0 : Int) then len else (0 : Nat)) = len,
      ∀ (i : Nat), (i < if errT (S ++ b) (kOf (gK fun (j : Nat) => Fl.k (L j))) len = (0 : Int) then len else (0 : Nat)) → Fl.k (fldT (S ++ b) (kOf (gK fun (j : Nat) => Fl.k (L j))) i) = Fl.k (flOf (gF (fldT (S ++ b) (kOf (gK fun (j : Nat) => Fl.k (L j))))) i) ∧ Fl.n (fldT (S ++ b) (kOf (gK fun (j : Nat) => Fl.k (L j))) i) = Fl.n (flOf (gF (fldT (S ++ b) (kOf (gK fun (j : Nat) => Fl.k (L j))))) i) ∧ Fl.s (fldT (S ++ b) (kOf (gK fun (j : Nat) => Fl.k (L j))) i) = Fl.s (flOf (gF (fldT (S ++ b) (kOf (gK fun (j : Nat) => Fl.k (L j))))) i) ∧ True,
      (!true) = false,
      ((if errT (S ++ b) (kOf (gK fun (j : Nat) => Fl.k (L j))) len = (0 : Int) then (↑(atN (S ++ b) (kOf (gK fun (j : Nat) => Fl.k (L j))) len) : Int) else (0 : Int)) != (↑(ByteArray.size S) : Int)) = false,
      (errT (S ++ b) (kOf (gK fun (j : Nat) => Fl.k (L j))) len != (0 : Int)) = false,
      ((↑(ByteArray.size S) : Int) == (0 : Int)) = true,
      ((↑len : Int) == (0 : Int)) = true,
      true = true]) (by kernel_rfl) (.cons (by omega) (.cons (by rfl) (.cons (by (intro _ _; exact ⟨rfl, rfl, rfl, trivial⟩)) (.cons (by (show (!fewB L len) = false; rw [hf]; rfl)) (.cons (by exact decide_eq_false (by omega)) (.cons (by omega) (.cons (by assumption) (.cons (by rfl) (.cons (by (intro _ _; exact ⟨rfl, rfl, rfl, trivial⟩)) (.cons (by exact bne_eq_false_iff_eq.2 he) (.cons (by rfl) (.cons (by rfl) (.cons (by assumption) (.cons (by rfl) (.cons (by rfl) (.cons (by rfl) (.cons (by (intro _ _; exact ⟨rfl, rfl, rfl, trivial⟩)) (.cons (by rfl) (.cons (by trivial) (.cons (by assumption) (.cons (by (simp; omega)) (.cons (by (rw [ByteArray.size_append]; omega)) (.cons (by omega) (.cons (by rfl) (.cons (by rfl) (.cons (by (intro _ _; exact ⟨rfl, trivial⟩)) (.cons (by (intro _ _; rfl)) (.cons (by omega) (.cons (by assumption) (.cons (by rfl) (.cons (by (intro _ _; exact ⟨rfl, rfl, rfl, trivial⟩)) (.cons (by exact if_pos he1) (.cons (by (intro _ _; exact ⟨rfl, rfl, rfl, trivial⟩)) (.cons (by rfl) (.cons (by (refine bne_eq_false_iff_eq.2 (Eq.trans (if_pos he1) (congrArg Int.ofNat ha1)))) (.cons (by exact bne_eq_false_iff_eq.2 he1) (.cons (by exact decide_eq_true (by omega)) (.cons (by exact decide_eq_true (by omega)) (.cons (by rfl) .nil)))))))))))))))))))))))))))))))))))))))

set_option maxHeartbeats 2000000 in
theorem wb_5 (len : Nat) (L : Nat → Fl) (b S : ByteArray) (c : Int) (hl : len ≤ 200) (hf : fewB L len = true) (hb : b.size ≤ 1000) (hw : ∀ i, i < len → (L i).wf) (he : badZ L len = 0) (hs : putStr L len = S) (hz : S.size ≤ 100000000000000) (he1 : errT (S ++ b) (fun j => (L j).k) len = 0) (ha1 : atN (S ++ b) (fun j => (L j).k) len = S.size) (hF : ∀ i, i < len → L i = fldT (S ++ b) (fun j => (L j).k) i) (hS : 0 < S.size) (m : Nat) (hm : Int.tmod (IntKind.wrap IntKind.i64 c) S.size = m) (hmS : m < S.size) (he2 : errT (S.extract 0 m) (fun j => (L j).k) len = 2) (l0 : CodeOk Try.prog 1 (.loop (loopOf Try.f5 0)) (mkSt 108 [(0, .nv (.one (.own 0))), (1, sA b), (2, .nv (.one (.val (.int .u16 c)))), (7, sA S), (9, .nv (.one (.own 1))), (36, iA len), (37, iA 0)] [.ro 3 len (gF L), .row 3 1 0 (gK (fun j => (L j).k))]) (.exit 0) (mkSt 108 [(0, .nv (.one (.own 0))), (1, sA b), (2, .nv (.one (.val (.int .u16 c)))), (7, sA S), (9, .nv (.one (.own 1)))] [.ro 3 len (gF L), .row 3 1 len (gK (fun j => (L j).k))])) : LawOk Try.prog 5 ([.nv (.one (.own 0)), sA b, .nv (.one (.val (.int .u16 c)))]) ([.ro 3 len (gF L)]) (bA true) :=
  law_run GbH_ok Try.func5 (orc := ⟨[false, false, false, false, false, false, false, true, true, true], [⟨mkSt 108 [(0, .nv (.one (.own 0))), (1, sA b), (2, .nv (.one (.val (.int .u16 c)))), (7, sA S), (9, .nv (.one (.own 1))), (36, iA len), (37, iA 0)] [.ro 3 len (gF L), .row 3 1 0 (gK (fun j => (L j).k))], .exit 0, mkSt 108 [(0, .nv (.one (.own 0))), (1, sA b), (2, .nv (.one (.val (.int .u16 c)))), (7, sA S), (9, .nv (.one (.own 1)))] [.ro 3 len (gF L), .row 3 1 len (gK (fun j => (L j).k))]⟩]⟩) (obl := [len ≤ (9223372036854775807 : Nat),
      len = len,
      ∀ (i : Nat), i < len → Fl.k (L i) = Fl.k (flOf (gF L) i) ∧ Fl.n (L i) = Fl.n (flOf (gF L) i) ∧ Fl.s (L i) = Fl.s (flOf (gF L) i) ∧ True,
      (!fewB (flOf (gF L)) len) = false,
      decide ((↑(ByteArray.size b) : Int) > (1000 : Int)) = false,
      len ≤ (1000 : Nat),
      ∀ (i : Nat), i < len → Fl.wf (flOf (gF L) i),
      len = len,
      ∀ (i : Nat), i < len → Fl.k (L i) = Fl.k (flOf (gF L) i) ∧ Fl.n (L i) = Fl.n (flOf (gF L) i) ∧ Fl.s (L i) = Fl.s (flOf (gF L) i) ∧ True,
      (badZ (flOf (gF L)) len != (0 : Int)) = false,
      b = b,
      c = c,
      putStr (flOf (gF L)) len = S,
      (↑len : Int) = (↑len : Int),
      (0 : Int) = (0 : Int),
      len = len,
      ∀ (i : Nat), i < len → Fl.k (L i) = Fl.k (L i) ∧ Fl.n (L i) = Fl.n (L i) ∧ Fl.s (L i) = Fl.s (L i) ∧ True,
      (0 : Nat) = (0 : Nat),
      (1 : Nat) ≤ (2 : Nat),
      CodeOk Try.prog (1 : Nat) (Code.loop (loopOf Try.f5 (0 : Nat))) (mkSt (108 : Nat) [((0 : Nat), SV.nv (NV.one (At.own (0 : Nat)))), ((1 : Nat), sA b), ((2 : Nat), SV.nv (NV.one (At.val (Value.int IntKind.u16 c)))), ((7 : Nat), sA S), ((9 : Nat), SV.nv (NV.one (At.own (1 : Nat)))), ((36 : Nat), iA (↑len : Int)), ((37 : Nat), iA (0 : Int))] [Seg.ro (3 : Nat) len (gF L), Seg.row (3 : TypeId) (1 : Nat) (0 : Nat) (gK fun (j : Nat) => Fl.k (L j))]) (Ex.exit (0 : Nat)) (mkSt (108 : Nat) [((0 : Nat), SV.nv (NV.one (At.own (0 : Nat)))), ((1 : Nat), sA b), ((2 : Nat), SV.nv (NV.one (At.val (Value.int IntKind.u16 c)))), ((7 : Nat), sA S), ((9 : Nat), SV.nv (NV.one (At.own (1 : Nat))))] [Seg.ro (3 : Nat) len (gF L), Seg.row (3 : TypeId) (1 : Nat) len (gK fun (j : Nat) => Fl.k (L j))]),
      (↑(ByteArray.size S + ByteArray.size b) : Int) ≤ IntKind.max IntKind.i64,
      ByteArray.size (S ++ b) ≤ (140737488355328 : Nat),
      len ≤ (1000 : Nat),
      S ++ b = S ++ b,
      len = len,
      ∀ (i : Nat), i < len → Fl.k (L i) = kOf (gK fun (j : Nat) => Fl.k (L j)) i ∧ True,
      ∀ (i : Nat), (i < if errT (S ++ b) (kOf (gK fun (j : Nat) => Fl.k (L j))) len = (0 : Int) then len else (0 : Nat)) → (true && (true && (true && true))) = true,
      len ≤ (100000 : Nat),
      ∀ (i : Nat), i < len → flOf (gF L) i = flOf (gF (fldT (S ++ b) (kOf (gK fun (j : Nat) => Fl.k (L j))))) i,
      len = len,
      ∀ (i : Nat), i < len → Fl.k (L i) = Fl.k (flOf (gF L) i) ∧ Fl.n (L i) = Fl.n (flOf (gF L) i) ∧ Fl.s (L i) = Fl.s (flOf (gF L) i) ∧ True,
      (if errT (S ++ b) (kOf (gK fun (j : Nat) => Fl.k (L j))) len = (0 : Int) then len else (0 : Nat)) = len,
      ∀ (i : Nat), (i < if errT (S ++ b) (kOf (gK fun (j : Nat) => Fl.k (L j))) len = (0 : Int) then len else (0 : Nat)) → Fl.k (fldT (S ++ b) (kOf (gK fun (j : Nat) => Fl.k (L j))) i) = Fl.k (flOf (gF (fldT (S ++ b) (kOf (gK fun (j : Nat) => Fl.k (L j))))) i) ∧ Fl.n (fldT (S ++ b) (kOf (gK fun (j : Nat) => Fl.k (L j))) i) = Fl.n (flOf (gF (fldT (S ++ b) (kOf (gK fun (j : Nat) => Fl.k (L j))))) i) ∧ Fl.s (fldT (S ++ b) (kOf (gK fun (j : Nat) => Fl.k (L j))) i) = Fl.s (flOf (gF (fldT (S ++ b) (kOf (gK fun (j : Nat) => Fl.k (L j))))) i) ∧ True,
      (!true) = false,
      ((if errT (S ++ b) (kOf (gK fun (j : Nat) => Fl.k (L j))) len = (0 : Int) then (↑(atN (S ++ b) (kOf (gK fun (j : Nat) => Fl.k (L j))) len) : Int) else (0 : Int)) != (↑(ByteArray.size S) : Int)) = false,
      (errT (S ++ b) (kOf (gK fun (j : Nat) => Fl.k (L j))) len != (0 : Int)) = false,
      ((↑(ByteArray.size S) : Int) == (0 : Int)) = false,
      (↑(ByteArray.size S) : Int) ≠ (0 : Int),
      (0 : Int) ≤ Option.getD none (0 : Int),
      Option.getD none (0 : Int) ≤ Option.getD (some (Prod.snd (IntKind.i64, Int.tmod (IntKind.wrap IntKind.i64 c) (↑(ByteArray.size S) : Int)))) (↑(ByteArray.size S) : Int),
      Option.getD (some (Prod.snd (IntKind.i64, Int.tmod (IntKind.wrap IntKind.i64 c) (↑(ByteArray.size S) : Int)))) (↑(ByteArray.size S) : Int) ≤ (↑(ByteArray.size S) : Int),
      ByteArray.size (Prod.fst (ByteArray.extract S (Int.toNat (Option.getD none (0 : Int))) (Int.toNat (Option.getD (some (Prod.snd (IntKind.i64, Int.tmod (IntKind.wrap IntKind.i64 c) (↑(ByteArray.size S) : Int)))) (↑(ByteArray.size S) : Int))), [(0 : Int) ≤ Option.getD none (0 : Int), Option.getD none (0 : Int) ≤ Option.getD (some (Prod.snd (IntKind.i64, Int.tmod (IntKind.wrap IntKind.i64 c) (↑(ByteArray.size S) : Int)))) (↑(ByteArray.size S) : Int), Option.getD (some (Prod.snd (IntKind.i64, Int.tmod (IntKind.wrap IntKind.i64 c) (↑(ByteArray.size S) : Int)))) (↑(ByteArray.size S) : Int) ≤ (↑(ByteArray.size S) : Int)])) ≤ (140737488355328 : Nat),
      len ≤ (1000 : Nat),
      Prod.fst (ByteArray.extract S (Int.toNat (Option.getD none (0 : Int))) (Int.toNat (Option.getD (some (Prod.snd (IntKind.i64, Int.tmod (IntKind.wrap IntKind.i64 c) (↑(ByteArray.size S) : Int)))) (↑(ByteArray.size S) : Int))), [(0 : Int) ≤ Option.getD none (0 : Int), Option.getD none (0 : Int) ≤ Option.getD (some (Prod.snd (IntKind.i64, Int.tmod (IntKind.wrap IntKind.i64 c) (↑(ByteArray.size S) : Int)))) (↑(ByteArray.size S) : Int), Option.getD (some (Prod.snd (IntKind.i64, Int.tmod (IntKind.wrap IntKind.i64 c) (↑(ByteArray.size S) : Int)))) (↑(ByteArray.size S) : Int) ≤ (↑(ByteArray.size S) : Int)]) = Prod.fst (ByteArray.extract S (Int.toNat (Option.getD none (0 : Int))) (Int.toNat (Option.getD (some (Prod.snd (IntKind.i64, Int.tmod (IntKind.wrap IntKind.i64 c) (↑(ByteArray.size S) : Int)))) (↑(ByteArray.size S) : Int))), [(0 : Int) ≤ Option.getD none (0 : Int), Option.getD none (0 : Int) ≤ Option.getD (some (Prod.snd (IntKind.i64, Int.tmod (IntKind.wrap IntKind.i64 c) (↑(ByteArray.size S) : Int)))) (↑(ByteArray.size S) : Int), Option.getD (some (Prod.snd (IntKind.i64, Int.tmod (IntKind.wrap IntKind.i64 c) (↑(ByteArray.size S) : Int)))) (↑(ByteArray.size S) : Int) ≤ (↑(ByteArray.size S) : Int)]),
      len = len,
      ∀ (i : Nat), i < len → Fl.k (L i) = kOf (gK fun (j : Nat) => Fl.k (L j)) i ∧ True,
      ∀ (i : Nat), (i < if errT (Prod.fst (ByteArray.extract S (Int.toNat (Option.getD none (0 : Int))) (Int.toNat (Option.getD (some (Prod.snd (IntKind.i64, Int.tmod (IntKind.wrap IntKind.i64 c) (↑(ByteArray.size S) : Int)))) (↑(ByteArray.size S) : Int))), [(0 : Int) ≤ Option.getD none (0 : Int), Option.getD none (0 : Int) ≤ Option.getD (some (Prod.snd (IntKind.i64, Int.tmod (IntKind.wrap IntKind.i64 c) (↑(ByteArray.size S) : Int)))) (↑(ByteArray.size S) : Int), Option.getD (some (Prod.snd (IntKind.i64, Int.tmod (IntKind.wrap IntKind.i64 c) (↑(ByteArray.size S) : Int)))) (↑(ByteArray.size S) : Int) ≤ (↑(ByteArray.size S) : Int)])) (kOf (gK fun (j : Nat) => Fl.k (L j))) len = (0 : Int) then len else (0 : Nat)) → (true && (true && (true && true))) = true,
      ((↑(if errT (Prod.fst (ByteArray.extract S (Int.toNat (Option.getD none (0 : Int))) (Int.toNat (Option.getD (some (Prod.snd (IntKind.i64, Int.tmod (IntKind.wrap IntKind.i64 c) (↑(ByteArray.size S) : Int)))) (↑(ByteArray.size S) : Int))), [(0 : Int) ≤ Option.getD none (0 : Int), Option.getD none (0 : Int) ≤ Option.getD (some (Prod.snd (IntKind.i64, Int.tmod (IntKind.wrap IntKind.i64 c) (↑(ByteArray.size S) : Int)))) (↑(ByteArray.size S) : Int), Option.getD (some (Prod.snd (IntKind.i64, Int.tmod (IntKind.wrap IntKind.i64 c) (↑(ByteArray.size S) : Int)))) (↑(ByteArray.size S) : Int) ≤ (↑(ByteArray.size S) : Int)])) (kOf (gK fun (j : Nat) => Fl.k (L j))) len = (0 : Int) then len else (0 : Nat)) : Int) == (0 : Int)) = true,
      ((if errT (Prod.fst (ByteArray.extract S (Int.toNat (Option.getD none (0 : Int))) (Int.toNat (Option.getD (some (Prod.snd (IntKind.i64, Int.tmod (IntKind.wrap IntKind.i64 c) (↑(ByteArray.size S) : Int)))) (↑(ByteArray.size S) : Int))), [(0 : Int) ≤ Option.getD none (0 : Int), Option.getD none (0 : Int) ≤ Option.getD (some (Prod.snd (IntKind.i64, Int.tmod (IntKind.wrap IntKind.i64 c) (↑(ByteArray.size S) : Int)))) (↑(ByteArray.size S) : Int), Option.getD (some (Prod.snd (IntKind.i64, Int.tmod (IntKind.wrap IntKind.i64 c) (↑(ByteArray.size S) : Int)))) (↑(ByteArray.size S) : Int) ≤ (↑(ByteArray.size S) : Int)])) (kOf (gK fun (j : Nat) => Fl.k (L j))) len = (0 : Int) then (↑(atN (Prod.fst (ByteArray.extract S (Int.toNat (Option.getD none (0 : Int))) (Int.toNat (Option.getD (some (Prod.snd (IntKind.i64, Int.tmod (IntKind.wrap IntKind.i64 c) (↑(ByteArray.size S) : Int)))) (↑(ByteArray.size S) : Int))), [(0 : Int) ≤ Option.getD none (0 : Int), Option.getD none (0 : Int) ≤ Option.getD (some (Prod.snd (IntKind.i64, Int.tmod (IntKind.wrap IntKind.i64 c) (↑(ByteArray.size S) : Int)))) (↑(ByteArray.size S) : Int), Option.getD (some (Prod.snd (IntKind.i64, Int.tmod (IntKind.wrap IntKind.i64 c) (↑(ByteArray.size S) : Int)))) (↑(ByteArray.size S) : Int) ≤ (↑(ByteArray.size S) : Int)])) (kOf (gK fun (j : Nat) => Fl.k (L j))) len) : Int) else (0 : Int)) == (0 : Int)) = true,
      (errT (Prod.fst (ByteArray.extract S (Int.toNat (Option.getD none (0 : Int))) (Int.toNat (Option.getD (some (Prod.snd (IntKind.i64, Int.tmod (IntKind.wrap IntKind.i64 c) (↑(ByteArray.size S) : Int)))) (↑(ByteArray.size S) : Int))), [(0 : Int) ≤ Option.getD none (0 : Int), Option.getD none (0 : Int) ≤ Option.getD (some (Prod.snd (IntKind.i64, Int.tmod (IntKind.wrap IntKind.i64 c) (↑(ByteArray.size S) : Int)))) (↑(ByteArray.size S) : Int), Option.getD (some (Prod.snd (IntKind.i64, Int.tmod (IntKind.wrap IntKind.i64 c) (↑(ByteArray.size S) : Int)))) (↑(ByteArray.size S) : Int) ≤ (↑(ByteArray.size S) : Int)])) (kOf (gK fun (j : Nat) => Fl.k (L j))) len == (2 : Int)) = true,
      true = true]) (by kernel_rfl) (.cons (by omega) (.cons (by rfl) (.cons (by (intro _ _; exact ⟨rfl, rfl, rfl, trivial⟩)) (.cons (by (show (!fewB L len) = false; rw [hf]; rfl)) (.cons (by exact decide_eq_false (by omega)) (.cons (by omega) (.cons (by assumption) (.cons (by rfl) (.cons (by (intro _ _; exact ⟨rfl, rfl, rfl, trivial⟩)) (.cons (by exact bne_eq_false_iff_eq.2 he) (.cons (by rfl) (.cons (by rfl) (.cons (by assumption) (.cons (by rfl) (.cons (by rfl) (.cons (by rfl) (.cons (by (intro _ _; exact ⟨rfl, rfl, rfl, trivial⟩)) (.cons (by rfl) (.cons (by trivial) (.cons (by assumption) (.cons (by (simp; omega)) (.cons (by (rw [ByteArray.size_append]; omega)) (.cons (by omega) (.cons (by rfl) (.cons (by rfl) (.cons (by (intro _ _; exact ⟨rfl, trivial⟩)) (.cons (by (intro _ _; rfl)) (.cons (by omega) (.cons (by assumption) (.cons (by rfl) (.cons (by (intro _ _; exact ⟨rfl, rfl, rfl, trivial⟩)) (.cons (by exact if_pos he1) (.cons (by (intro _ _; exact ⟨rfl, rfl, rfl, trivial⟩)) (.cons (by rfl) (.cons (by (refine bne_eq_false_iff_eq.2 (Eq.trans (if_pos he1) (congrArg Int.ofNat ha1)))) (.cons (by exact bne_eq_false_iff_eq.2 he1) (.cons (by exact decide_eq_false (by omega)) (.cons (by omega) (.cons (by trivial) (.cons (by (simp only [Option.getD, hm]; omega)) (.cons (by (simp only [Option.getD, hm]; omega)) (.cons (by exact ext_size (by omega)) (.cons (by omega) (.cons (by rfl) (.cons (by rfl) (.cons (by (intro _ _; exact ⟨rfl, trivial⟩)) (.cons (by (intro _ _; rfl)) (.cons (by (rw [hm]; refine beq_iff_eq.2 (congrArg Int.ofNat (if_neg ?_)); intro h; exact absurd (he2.symm.trans h) (by decide))) (.cons (by (rw [hm]; refine beq_iff_eq.2 (if_neg ?_); intro h; exact absurd (he2.symm.trans h) (by decide))) (.cons (by (rw [hm]; exact beq_iff_eq.2 he2)) (.cons (by rfl) .nil)))))))))))))))))))))))))))))))))))))))))))))))))))

set_option maxHeartbeats 2000000 in
theorem wo_e (s : ByteArray) (len : Nat) (K : Nat → Int) (hl : s.size ≤ 80000) (hk : len ≤ 200) (he : errT s K len ≠ 0) : LawOk Try.prog 6 ([sA s, .nv (.one (.own 0))]) ([.ro 1 len (gK K)]) (bA true) :=
  law_run GbH_ok Try.func6 (orc := ⟨[false, false, true, true, true], []⟩) (obl := [decide ((↑(ByteArray.size s) : Int) > (80000 : Int)) = false,
      decide ((↑len : Int) > (200 : Int)) = false,
      ByteArray.size s ≤ (140737488355328 : Nat),
      len ≤ (1000 : Nat),
      s = s,
      len = len,
      ∀ (i : Nat), i < len → K i = kOf (gK K) i ∧ True,
      ∀ (i : Nat), (i < if errT s (kOf (gK K)) len = (0 : Int) then len else (0 : Nat)) → (true && (true && (true && true))) = true,
      (errT s (kOf (gK K)) len != (0 : Int)) = true,
      ((↑(if errT s (kOf (gK K)) len = (0 : Int) then len else (0 : Nat)) : Int) == (0 : Int)) = true,
      ((if errT s (kOf (gK K)) len = (0 : Int) then (↑(atN s (kOf (gK K)) len) : Int) else (0 : Int)) == (0 : Int)) = true,
      true = true]) (by kernel_rfl) (.cons (by exact decide_eq_false (by omega)) (.cons (by exact decide_eq_false (by omega)) (.cons (by omega) (.cons (by omega) (.cons (by rfl) (.cons (by rfl) (.cons (by (intro _ _; exact ⟨rfl, trivial⟩)) (.cons (by (intro _ _; rfl)) (.cons (by exact bne_iff_ne.2 he) (.cons (by exact beq_iff_eq.2 (congrArg Int.ofNat (if_neg he))) (.cons (by exact beq_iff_eq.2 (if_neg he)) (.cons (by rfl) .nil))))))))))))
end Go.Proofs.Ytbgagcmdabpbgaa

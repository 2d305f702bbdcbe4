/- ops: operations, and how they are read: plain functions. No condition. -/
import Derived.Test.YtecgigeahkijaaaWsJ
import Derived.Test.YtecgigeahkijaaaChecked
import Derived.KernelRfl
namespace Go.Proofs.Ytecgigeahkijaaa
set_option linter.unusedVariables false
set_option linter.unusedSimpArgs false
open Go.RowKit E

/-- An operation. -/
structure Op5 where
  k : Int
  fl : Int
  id : Int
  ln : Int
  tk : Int
abbrev oA (x : Op5) : List At := [.val (.int .i64 x.k), .val (.int .u32 x.fl), .val (.int .u32 x.id), .val (.int .u64 x.ln), .val (.int .u64 x.tk)]
abbrev gO (L : Nat → Op5) : Nat → List At := fun j => [.val (.int .i64 (L j).k), .val (.int .u32 (L j).fl), .val (.int .u32 (L j).id), .val (.int .u64 (L j).ln), .val (.int .u64 (L j).tk)]
def opOf (g : Nat → List At) : Nat → Op5 := fun j => ⟨cellZ (g j) 0, cellZ (g j) 1, cellZ (g j) 2, cellZ (g j) 3, cellZ (g j) 4⟩
/-- The kinds of the fields behind the byte of an operation. -/
def kindsF (c : Int) : Nat → Int := fun j => if c = 1 then (if j = 0 then 3 else if j = 1 then 3 else 5) else 5
def kindsN (c : Int) : Nat := if c = 1 then 3 else if c = 3 then 1 else 0
def begB (c : Int) : Bool := decide (1 ≤ c) && decide (c ≤ 4)
theorem take_congr {s : ByteArray} {K K' : Nat → Int} : ∀ {n : Nat}, (∀ j, j < n → K j = K' j) → errT s K n = errT s K' n ∧ atN s K n = atN s K' n
  | 0, _ => ⟨rfl, rfl⟩
  | n + 1, h => by
    obtain ⟨h1, h2⟩ := take_congr (n := n) (fun j hj => h j (by omega))
    rw [errT, errT, atN, atN, h1, h2, h n (Nat.lt_succ_self n)]
    exact ⟨rfl, rfl⟩
theorem fld_congr {s : ByteArray} {K K' : Nat → Int} {n : Nat} (h : ∀ j, j ≤ n → K j = K' j) : fldT s K n = fldT s K' n := by
  unfold fldT
  rw [h n (Nat.le_refl n), (take_congr (s := s) (n := n) (fun j hj => h j (by omega))).2]
theorem k1_lit : ∀ j, j < 3 → kOf (litG 1 [.val (.int .i64 3), .val (.int .i64 3), .val (.int .i64 5)]) j = kindsF 1 j := fun j hj => by
  match j, hj with
  | 0, _ => rfl
  | 1, _ => rfl
  | 2, _ => rfl
theorem k3_lit : ∀ j, j < 1 → kOf (litG 1 [.val (.int .i64 5)]) j = kindsF 3 j := fun j hj => by
  match j, hj with
  | 0, _ => rfl
/-- The operation with which a text begins, how many bytes it has, and whether it is whole. -/
def oneX (s : ByteArray) : Op5 :=
  if begB (byteAt s 0) = false then ⟨0, 0, 0, byteAt s 0, 0⟩
  else if errT (fromZ s 1) (kindsF (byteAt s 0)) (kindsN (byteAt s 0)) ≠ 0 then ⟨5, 0, 0, 0, 0⟩
  else if byteAt s 0 = 1 then ⟨1, (fldT (fromZ s 1) (kindsF 1) 0).n, (fldT (fromZ s 1) (kindsF 1) 1).n, (fldT (fromZ s 1) (kindsF 1) 2).n, 0⟩
  else if byteAt s 0 = 3 then ⟨3, 0, 0, 0, (fldT (fromZ s 1) (kindsF 3) 0).n⟩
  else ⟨byteAt s 0, 0, 0, 0, 0⟩
def oneW (s : ByteArray) : Bool := if begB (byteAt s 0) = false then true else decide (errT (fromZ s 1) (kindsF (byteAt s 0)) (kindsN (byteAt s 0)) = 0)
def oneL (s : ByteArray) : Nat := if begB (byteAt s 0) = false then 1 else atN (fromZ s 1) (kindsF (byteAt s 0)) (kindsN (byteAt s 0)) + 1
/-- Where the operations of a text begin. -/
def offO (s : ByteArray) : Nat → Nat
  | 0 => 0
  | i + 1 => offO s i + oneL (fromZ s (offO s i))
def opX (s : ByteArray) (i : Nat) : Op5 := oneX (fromZ s (offO s i))
/-- How many there are from the i-th on (of at most so many), and whether the last one is torn. -/
def cntO (s : ByteArray) : Nat → Nat → Nat × Bool
  | 0, _ => (0, false)
  | f + 1, i => if s.size ≤ offO s i then (0, false) else if oneW (fromZ s (offO s i)) = true then ((cntO s f (i + 1)).1 + 1, (cntO s f (i + 1)).2) else (1, true)
def numO (s : ByteArray) : Nat := (cntO s s.size 0).1
def tornO (s : ByteArray) : Bool := (cntO s s.size 0).2
theorem fromZ_fromZ (s : ByteArray) (a b : Nat) : fromZ (fromZ s a) b = fromZ s (a + b) := ints_ext (by rw [fromZ_ints, fromZ_ints, fromZ_ints, List.drop_drop])
theorem oneL_pos (s : ByteArray) : 1 ≤ oneL s := by unfold oneL; split <;> omega
theorem oneL_le {s : ByteArray} (h : 1 ≤ s.size) (hw : oneW s = true) : oneL s ≤ s.size := by
  unfold oneW at hw
  unfold oneL
  split at hw
  · rename_i q; rw [if_pos q]; exact h
  · rename_i q
    rw [if_neg q]
    have := atN_le (of_decide_eq_true hw)
    rw [fromZ_size h] at this
    omega
end Go.Proofs.Ytecgigeahkijaaa

/- wire: Take of no kinds at all. No condition. -/
namespace Go.Proofs.Ytecgigeahkijaaa
set_option linter.unusedVariables false
set_option linter.unusedSimpArgs false
open Go.RowKit E
theorem fn_drop0 {P : Program} {f : FuncId} {args : List SV} {mem : List Seg} {r : SV} {s : Seg} {m' : List Seg} (h : FnOk P f args mem r (s :: m')) : FnOk P f args mem r (.gone :: m') := by
  intro env w0 w S vals hv hm
  refine (h env w0 w S vals hv hm).mono ?_
  rintro e w' ⟨v, env', rfl, h1, h2, h3, h4, h5⟩
  exact ⟨v, env', rfl, h1, h2, h3, h4, by simpa using h5.drop 0⟩
def gTake2 : List SV → List Seg → Option (CS × List Prop)
  | [.nv (.one (.val (.string s))), .nv (.one (.val (.slice none 0 0)))], mem => some (⟨[sA s, .nv (.one (.own 0))], [.ro 1 0 (gK (kOf (fun _ => [])))], .tup [.one (.own 1), .one (.val (.int .i64 0)), .one (.val (.int .i64 0))], [.gone, .row 47 3 0 (gF (fldT s (kOf (fun _ => []))))]⟩, [s.size ≤ 140737488355328])
  | a, mem => gTake a mem
theorem spTake2 : SpOk Try.prog 24 (.lift gTake2) := by
  intro args mem cs obl h ho
  unfold gTake2 at h
  split at h
  · simp only [Option.some.injEq, Prod.mk.injEq] at h
    obtain ⟨rfl, rfl⟩ := h
    exact fn_drop0 (fnTake _ 0 (kOf (fun _ => [])) ho.1 (by decide))
  · exact spTake _ _ _ _ h ho
theorem spRTake2 : SpOk Try.prog 16 (.lift gTake2) := by
  intro args mem cs obl h ho
  unfold gTake2 at h
  split at h
  · simp only [Option.some.injEq, Prod.mk.injEq] at h
    obtain ⟨rfl, rfl⟩ := h
    exact fn_drop0 (fnRTake _ 0 (kOf (fun _ => [])) ho.1 (by decide))
  · exact spRTake _ _ _ _ h ho
def GbI : List (FuncId × Sp) := (24, .lift gTake2) :: (16, .lift gTake2) :: GbG
theorem GbI_ok : CtxOk Try.prog GbI := ctx_cons (enter_of Try.func24 (by kernel_rfl) (by kernel_rfl)) spTake2 <|
  ctx_cons (enter_of Try.func16 (by kernel_rfl) (by kernel_rfl)) spRTake2 GbG_ok
end Go.Proofs.Ytecgigeahkijaaa

/- Runs of Go code, as printed by a program: no condition beyond those that each states. -/
namespace Go.Proofs.Ytecgigeahkijaaa
set_option linter.unusedVariables false
set_option linter.unusedSimpArgs false
set_option maxRecDepth 100000
open Go.RowKit E
set_option maxHeartbeats 2000000 in
theorem bg_l (c : Int) (h : c < 1) : PureOk Try.prog 14 ([uA c]) (bA false) :=
  pure_run G0_ok Try.func14 (orc := ⟨[false], []⟩) (obl := [decide (c ≥ (1 : Int)) = false,
      false = false]) (by kernel_rfl) (.cons (by exact decide_eq_false (by omega)) (.cons (by rfl) .nil))

set_option maxHeartbeats 2000000 in
theorem bg_h (c : Int) (h : 4 < c) : PureOk Try.prog 14 ([uA c]) (bA false) :=
  pure_run G0_ok Try.func14 (orc := ⟨[true], []⟩) (obl := [decide (c ≥ (1 : Int)) = true,
      decide (c ≤ (4 : Int)) = false]) (by kernel_rfl) (.cons (by exact decide_eq_true (by omega)) (.cons (by exact decide_eq_false (by omega)) .nil))

set_option maxHeartbeats 2000000 in
theorem bg_t (c : Int) (h : 1 ≤ c) (h4 : c ≤ 4) : PureOk Try.prog 14 ([uA c]) (bA true) :=
  pure_run G0_ok Try.func14 (orc := ⟨[true], []⟩) (obl := [decide (c ≥ (1 : Int)) = true,
      decide (c ≤ (4 : Int)) = true]) (by kernel_rfl) (.cons (by exact decide_eq_true (by omega)) (.cons (by exact decide_eq_true (by omega)) .nil))

set_option maxHeartbeats 2000000 in
theorem oq_1e (s : ByteArray) (hz : s.size ≤ 100000000) (h1 : 1 ≤ s.size) (e : Int) (ec : IntKind.wrap IntKind.i64 (byteAt s 0) = 1) (he : (∀ K : Nat → Int, (∀ j, j < 3 → K j = kindsF 1 j) → errT (fromZ s 1) K 3 = e)) (h0 : e ≠ 0) : PureOk Try.prog 15 ([sA s]) (.tup [.agg (oA ⟨5, 0, 0, 0, 0⟩), .one (.val (.int .i64 0)), .one (.val (.bool false))]) :=
  pure_run GbI_ok Try.func15 (orc := ⟨[true, true], []⟩) (obl := [(0 : Int) ≤ (0 : Int),
      (0 : Int) < (↑(ByteArray.size s) : Int),
      (IntKind.wrap IntKind.i64 (byteAt s (0 : Int)) == (1 : Int)) = true,
      (0 : Int) ≤ Option.getD (some (Prod.snd (IntKind.i64, (1 : Int)))) (0 : Int),
      Option.getD (some (Prod.snd (IntKind.i64, (1 : Int)))) (0 : Int) ≤ Option.getD none (↑(ByteArray.size s) : Int),
      Option.getD none (↑(ByteArray.size s) : Int) ≤ (↑(ByteArray.size s) : Int),
      ByteArray.size (Prod.fst (ByteArray.extract s (Int.toNat (Option.getD (some (Prod.snd (IntKind.i64, (1 : Int)))) (0 : Int))) (Int.toNat (Option.getD none (↑(ByteArray.size s) : Int))), [(0 : Int) ≤ Option.getD (some (Prod.snd (IntKind.i64, (1 : Int)))) (0 : Int), Option.getD (some (Prod.snd (IntKind.i64, (1 : Int)))) (0 : Int) ≤ Option.getD none (↑(ByteArray.size s) : Int), Option.getD none (↑(ByteArray.size s) : Int) ≤ (↑(ByteArray.size s) : Int)])) ≤ (140737488355328 : Nat),
      (3 : Nat) ≤ (1000 : Nat),
      Prod.fst (ByteArray.extract s (Int.toNat (Option.getD (some (Prod.snd (IntKind.i64, (1 : Int)))) (0 : Int))) (Int.toNat (Option.getD none (↑(ByteArray.size s) : Int))), [(0 : Int) ≤ Option.getD (some (Prod.snd (IntKind.i64, (1 : Int)))) (0 : Int), Option.getD (some (Prod.snd (IntKind.i64, (1 : Int)))) (0 : Int) ≤ Option.getD none (↑(ByteArray.size s) : Int), Option.getD none (↑(ByteArray.size s) : Int) ≤ (↑(ByteArray.size s) : Int)]) = Prod.fst (ByteArray.extract s (Int.toNat (Option.getD (some (Prod.snd (IntKind.i64, (1 : Int)))) (0 : Int))) (Int.toNat (Option.getD none (↑(ByteArray.size s) : Int))), [(0 : Int) ≤ Option.getD (some (Prod.snd (IntKind.i64, (1 : Int)))) (0 : Int), Option.getD (some (Prod.snd (IntKind.i64, (1 : Int)))) (0 : Int) ≤ Option.getD none (↑(ByteArray.size s) : Int), Option.getD none (↑(ByteArray.size s) : Int) ≤ (↑(ByteArray.size s) : Int)]),
      (3 : Nat) = (3 : Nat),
      ∀ (i : Nat), i < (3 : Nat) → AllT (leAts ([] ++ ([] ++ ([((0 : Nat), Bd.same (2 : Nat))] ++ [])) ++ ([] ++ [] ++ ([] ++ []))) (1 : Nat) (litG (1 : Nat) [At.val (Value.int IntKind.i64 (3 : Int)), At.val (Value.int IntKind.i64 (3 : Int)), At.val (Value.int IntKind.i64 (5 : Int))] i) (gK (kOf (litG (1 : Nat) [At.val (Value.int IntKind.i64 (3 : Int)), At.val (Value.int IntKind.i64 (3 : Int)), At.val (Value.int IntKind.i64 (5 : Int))])) i)),
      ∀ (i : Nat), (i < if errT (Prod.fst (ByteArray.extract s (Int.toNat (Option.getD (some (Prod.snd (IntKind.i64, (1 : Int)))) (0 : Int))) (Int.toNat (Option.getD none (↑(ByteArray.size s) : Int))), [(0 : Int) ≤ Option.getD (some (Prod.snd (IntKind.i64, (1 : Int)))) (0 : Int), Option.getD (some (Prod.snd (IntKind.i64, (1 : Int)))) (0 : Int) ≤ Option.getD none (↑(ByteArray.size s) : Int), Option.getD none (↑(ByteArray.size s) : Int) ≤ (↑(ByteArray.size s) : Int)])) (kOf (litG (1 : Nat) [At.val (Value.int IntKind.i64 (3 : Int)), At.val (Value.int IntKind.i64 (3 : Int)), At.val (Value.int IntKind.i64 (5 : Int))])) (3 : Nat) = (0 : Int) then (3 : Nat) else (0 : Nat)) → (true && (true && (true && true))) = true,
      (errT (Prod.fst (ByteArray.extract s (Int.toNat (Option.getD (some (Prod.snd (IntKind.i64, (1 : Int)))) (0 : Int))) (Int.toNat (Option.getD none (↑(ByteArray.size s) : Int))), [(0 : Int) ≤ Option.getD (some (Prod.snd (IntKind.i64, (1 : Int)))) (0 : Int), Option.getD (some (Prod.snd (IntKind.i64, (1 : Int)))) (0 : Int) ≤ Option.getD none (↑(ByteArray.size s) : Int), Option.getD none (↑(ByteArray.size s) : Int) ≤ (↑(ByteArray.size s) : Int)])) (kOf (litG (1 : Nat) [At.val (Value.int IntKind.i64 (3 : Int)), At.val (Value.int IntKind.i64 (3 : Int)), At.val (Value.int IntKind.i64 (5 : Int))])) (3 : Nat) != (0 : Int)) = true,
      (5 : Int) = Op5.k { k := (5 : Int), fl := (0 : Int), id := (0 : Int), ln := (0 : Int), tk := (0 : Int) },
      (0 : Int) = Op5.fl { k := (5 : Int), fl := (0 : Int), id := (0 : Int), ln := (0 : Int), tk := (0 : Int) },
      (0 : Int) = Op5.id { k := (5 : Int), fl := (0 : Int), id := (0 : Int), ln := (0 : Int), tk := (0 : Int) },
      (0 : Int) = Op5.ln { k := (5 : Int), fl := (0 : Int), id := (0 : Int), ln := (0 : Int), tk := (0 : Int) },
      (0 : Int) = Op5.tk { k := (5 : Int), fl := (0 : Int), id := (0 : Int), ln := (0 : Int), tk := (0 : Int) },
      (0 : Int) = (0 : Int),
      false = false]) (by kernel_rfl) (.cons (by trivial) (.cons (by omega) (.cons (by (rw [ec]; rfl)) (.cons (by trivial) (.cons (by (simp; omega)) (.cons (by (simp; done)) (.cons (by exact ext_size (by omega)) (.cons (by trivial) (.cons (by rfl) (.cons (by rfl) (.cons (by (intro i hi; match i, hi with | 0, _ => exact ⟨rfl, trivial⟩ | 1, _ => exact ⟨rfl, trivial⟩ | 2, _ => exact ⟨rfl, trivial⟩)) (.cons (by (intro _ _; rfl)) (.cons (by exact bne_iff_ne.2 (fun h9 => h0 ((he _ k1_lit).symm.trans h9))) (.cons (by rfl) (.cons (by rfl) (.cons (by rfl) (.cons (by rfl) (.cons (by rfl) (.cons (by rfl) (.cons (by rfl) .nil))))))))))))))))))))

set_option maxHeartbeats 2000000 in
theorem oq_1k (s : ByteArray) (hz : s.size ≤ 100000000) (h1 : 1 ≤ s.size) (e m : Int) (a b d : Int) (ec : IntKind.wrap IntKind.i64 (byteAt s 0) = 1) (he : (∀ K : Nat → Int, (∀ j, j < 3 → K j = kindsF 1 j) → errT (fromZ s 1) K 3 = e)) (h0 : e = 0) (ha : (∀ K : Nat → Int, (∀ j, j < 3 → K j = kindsF 1 j) → IntKind.wrap IntKind.u32 (fldT (fromZ s 1) K 0).n = a)) (hb : (∀ K : Nat → Int, (∀ j, j < 3 → K j = kindsF 1 j) → IntKind.wrap IntKind.u32 (fldT (fromZ s 1) K 1).n = b)) (hd : (∀ K : Nat → Int, (∀ j, j < 3 → K j = kindsF 1 j) → (fldT (fromZ s 1) K 2).n = d)) (hm : (∀ K : Nat → Int, (∀ j, j < 3 → K j = kindsF 1 j) → IntKind.wrap IntKind.i64 ((if errT (fromZ s 1) K 3 = 0 then (atN (fromZ s 1) K 3 : Int) else 0) + 1) = m)) : PureOk Try.prog 15 ([sA s]) (.tup [.agg (oA ⟨1, a, b, d, 0⟩), .one (.val (.int .i64 m)), .one (.val (.bool true))]) :=
  pure_run GbI_ok Try.func15 (orc := ⟨[true, false, true], []⟩) (obl := [(0 : Int) ≤ (0 : Int),
      (0 : Int) < (↑(ByteArray.size s) : Int),
      (IntKind.wrap IntKind.i64 (byteAt s (0 : Int)) == (1 : Int)) = true,
      (0 : Int) ≤ Option.getD (some (Prod.snd (IntKind.i64, (1 : Int)))) (0 : Int),
      Option.getD (some (Prod.snd (IntKind.i64, (1 : Int)))) (0 : Int) ≤ Option.getD none (↑(ByteArray.size s) : Int),
      Option.getD none (↑(ByteArray.size s) : Int) ≤ (↑(ByteArray.size s) : Int),
      ByteArray.size (Prod.fst (ByteArray.extract s (Int.toNat (Option.getD (some (Prod.snd (IntKind.i64, (1 : Int)))) (0 : Int))) (Int.toNat (Option.getD none (↑(ByteArray.size s) : Int))), [(0 : Int) ≤ Option.getD (some (Prod.snd (IntKind.i64, (1 : Int)))) (0 : Int), Option.getD (some (Prod.snd (IntKind.i64, (1 : Int)))) (0 : Int) ≤ Option.getD none (↑(ByteArray.size s) : Int), Option.getD none (↑(ByteArray.size s) : Int) ≤ (↑(ByteArray.size s) : Int)])) ≤ (140737488355328 : Nat),
      (3 : Nat) ≤ (1000 : Nat),
      Prod.fst (ByteArray.extract s (Int.toNat (Option.getD (some (Prod.snd (IntKind.i64, (1 : Int)))) (0 : Int))) (Int.toNat (Option.getD none (↑(ByteArray.size s) : Int))), [(0 : Int) ≤ Option.getD (some (Prod.snd (IntKind.i64, (1 : Int)))) (0 : Int), Option.getD (some (Prod.snd (IntKind.i64, (1 : Int)))) (0 : Int) ≤ Option.getD none (↑(ByteArray.size s) : Int), Option.getD none (↑(ByteArray.size s) : Int) ≤ (↑(ByteArray.size s) : Int)]) = Prod.fst (ByteArray.extract s (Int.toNat (Option.getD (some (Prod.snd (IntKind.i64, (1 : Int)))) (0 : Int))) (Int.toNat (Option.getD none (↑(ByteArray.size s) : Int))), [(0 : Int) ≤ Option.getD (some (Prod.snd (IntKind.i64, (1 : Int)))) (0 : Int), Option.getD (some (Prod.snd (IntKind.i64, (1 : Int)))) (0 : Int) ≤ Option.getD none (↑(ByteArray.size s) : Int), Option.getD none (↑(ByteArray.size s) : Int) ≤ (↑(ByteArray.size s) : Int)]),
      (3 : Nat) = (3 : Nat),
      ∀ (i : Nat), i < (3 : Nat) → AllT (leAts ([] ++ ([] ++ ([((0 : Nat), Bd.same (2 : Nat))] ++ [])) ++ ([] ++ [] ++ ([] ++ []))) (1 : Nat) (litG (1 : Nat) [At.val (Value.int IntKind.i64 (3 : Int)), At.val (Value.int IntKind.i64 (3 : Int)), At.val (Value.int IntKind.i64 (5 : Int))] i) (gK (kOf (litG (1 : Nat) [At.val (Value.int IntKind.i64 (3 : Int)), At.val (Value.int IntKind.i64 (3 : Int)), At.val (Value.int IntKind.i64 (5 : Int))])) i)),
      ∀ (i : Nat), (i < if errT (Prod.fst (ByteArray.extract s (Int.toNat (Option.getD (some (Prod.snd (IntKind.i64, (1 : Int)))) (0 : Int))) (Int.toNat (Option.getD none (↑(ByteArray.size s) : Int))), [(0 : Int) ≤ Option.getD (some (Prod.snd (IntKind.i64, (1 : Int)))) (0 : Int), Option.getD (some (Prod.snd (IntKind.i64, (1 : Int)))) (0 : Int) ≤ Option.getD none (↑(ByteArray.size s) : Int), Option.getD none (↑(ByteArray.size s) : Int) ≤ (↑(ByteArray.size s) : Int)])) (kOf (litG (1 : Nat) [At.val (Value.int IntKind.i64 (3 : Int)), At.val (Value.int IntKind.i64 (3 : Int)), At.val (Value.int IntKind.i64 (5 : Int))])) (3 : Nat) = (0 : Int) then (3 : Nat) else (0 : Nat)) → (true && (true && (true && true))) = true,
      (errT (Prod.fst (ByteArray.extract s (Int.toNat (Option.getD (some (Prod.snd (IntKind.i64, (1 : Int)))) (0 : Int))) (Int.toNat (Option.getD none (↑(ByteArray.size s) : Int))), [(0 : Int) ≤ Option.getD (some (Prod.snd (IntKind.i64, (1 : Int)))) (0 : Int), Option.getD (some (Prod.snd (IntKind.i64, (1 : Int)))) (0 : Int) ≤ Option.getD none (↑(ByteArray.size s) : Int), Option.getD none (↑(ByteArray.size s) : Int) ≤ (↑(ByteArray.size s) : Int)])) (kOf (litG (1 : Nat) [At.val (Value.int IntKind.i64 (3 : Int)), At.val (Value.int IntKind.i64 (3 : Int)), At.val (Value.int IntKind.i64 (5 : Int))])) (3 : Nat) != (0 : Int)) = false,
      (IntKind.wrap IntKind.i64 (byteAt s (0 : Int)) == (1 : Int)) = true,
      (0 : Int) ≤ (0 : Int),
      (0 : Int) < (↑(if errT (Prod.fst (ByteArray.extract s (Int.toNat (Option.getD (some (Prod.snd (IntKind.i64, (1 : Int)))) (0 : Int))) (Int.toNat (Option.getD none (↑(ByteArray.size s) : Int))), [(0 : Int) ≤ Option.getD (some (Prod.snd (IntKind.i64, (1 : Int)))) (0 : Int), Option.getD (some (Prod.snd (IntKind.i64, (1 : Int)))) (0 : Int) ≤ Option.getD none (↑(ByteArray.size s) : Int), Option.getD none (↑(ByteArray.size s) : Int) ≤ (↑(ByteArray.size s) : Int)])) (kOf (litG (1 : Nat) [At.val (Value.int IntKind.i64 (3 : Int)), At.val (Value.int IntKind.i64 (3 : Int)), At.val (Value.int IntKind.i64 (5 : Int))])) (3 : Nat) = (0 : Int) then (3 : Nat) else (0 : Nat)) : Int),
      (0 : Nat) < if errT (Prod.fst (ByteArray.extract s (Int.toNat (Option.getD (some (Prod.snd (IntKind.i64, (1 : Int)))) (0 : Int))) (Int.toNat (Option.getD none (↑(ByteArray.size s) : Int))), [(0 : Int) ≤ Option.getD (some (Prod.snd (IntKind.i64, (1 : Int)))) (0 : Int), Option.getD (some (Prod.snd (IntKind.i64, (1 : Int)))) (0 : Int) ≤ Option.getD none (↑(ByteArray.size s) : Int), Option.getD none (↑(ByteArray.size s) : Int) ≤ (↑(ByteArray.size s) : Int)])) (kOf (litG (1 : Nat) [At.val (Value.int IntKind.i64 (3 : Int)), At.val (Value.int IntKind.i64 (3 : Int)), At.val (Value.int IntKind.i64 (5 : Int))])) (3 : Nat) = (0 : Int) then (3 : Nat) else (0 : Nat),
      (0 : Int) ≤ (1 : Int),
      (1 : Int) < (↑(if errT (Prod.fst (ByteArray.extract s (Int.toNat (Option.getD (some (Prod.snd (IntKind.i64, (1 : Int)))) (0 : Int))) (Int.toNat (Option.getD none (↑(ByteArray.size s) : Int))), [(0 : Int) ≤ Option.getD (some (Prod.snd (IntKind.i64, (1 : Int)))) (0 : Int), Option.getD (some (Prod.snd (IntKind.i64, (1 : Int)))) (0 : Int) ≤ Option.getD none (↑(ByteArray.size s) : Int), Option.getD none (↑(ByteArray.size s) : Int) ≤ (↑(ByteArray.size s) : Int)])) (kOf (litG (1 : Nat) [At.val (Value.int IntKind.i64 (3 : Int)), At.val (Value.int IntKind.i64 (3 : Int)), At.val (Value.int IntKind.i64 (5 : Int))])) (3 : Nat) = (0 : Int) then (3 : Nat) else (0 : Nat)) : Int),
      (1 : Nat) < if errT (Prod.fst (ByteArray.extract s (Int.toNat (Option.getD (some (Prod.snd (IntKind.i64, (1 : Int)))) (0 : Int))) (Int.toNat (Option.getD none (↑(ByteArray.size s) : Int))), [(0 : Int) ≤ Option.getD (some (Prod.snd (IntKind.i64, (1 : Int)))) (0 : Int), Option.getD (some (Prod.snd (IntKind.i64, (1 : Int)))) (0 : Int) ≤ Option.getD none (↑(ByteArray.size s) : Int), Option.getD none (↑(ByteArray.size s) : Int) ≤ (↑(ByteArray.size s) : Int)])) (kOf (litG (1 : Nat) [At.val (Value.int IntKind.i64 (3 : Int)), At.val (Value.int IntKind.i64 (3 : Int)), At.val (Value.int IntKind.i64 (5 : Int))])) (3 : Nat) = (0 : Int) then (3 : Nat) else (0 : Nat),
      (0 : Int) ≤ (2 : Int),
      (2 : Int) < (↑(if errT (Prod.fst (ByteArray.extract s (Int.toNat (Option.getD (some (Prod.snd (IntKind.i64, (1 : Int)))) (0 : Int))) (Int.toNat (Option.getD none (↑(ByteArray.size s) : Int))), [(0 : Int) ≤ Option.getD (some (Prod.snd (IntKind.i64, (1 : Int)))) (0 : Int), Option.getD (some (Prod.snd (IntKind.i64, (1 : Int)))) (0 : Int) ≤ Option.getD none (↑(ByteArray.size s) : Int), Option.getD none (↑(ByteArray.size s) : Int) ≤ (↑(ByteArray.size s) : Int)])) (kOf (litG (1 : Nat) [At.val (Value.int IntKind.i64 (3 : Int)), At.val (Value.int IntKind.i64 (3 : Int)), At.val (Value.int IntKind.i64 (5 : Int))])) (3 : Nat) = (0 : Int) then (3 : Nat) else (0 : Nat)) : Int),
      (2 : Nat) < if errT (Prod.fst (ByteArray.extract s (Int.toNat (Option.getD (some (Prod.snd (IntKind.i64, (1 : Int)))) (0 : Int))) (Int.toNat (Option.getD none (↑(ByteArray.size s) : Int))), [(0 : Int) ≤ Option.getD (some (Prod.snd (IntKind.i64, (1 : Int)))) (0 : Int), Option.getD (some (Prod.snd (IntKind.i64, (1 : Int)))) (0 : Int) ≤ Option.getD none (↑(ByteArray.size s) : Int), Option.getD none (↑(ByteArray.size s) : Int) ≤ (↑(ByteArray.size s) : Int)])) (kOf (litG (1 : Nat) [At.val (Value.int IntKind.i64 (3 : Int)), At.val (Value.int IntKind.i64 (3 : Int)), At.val (Value.int IntKind.i64 (5 : Int))])) (3 : Nat) = (0 : Int) then (3 : Nat) else (0 : Nat),
      IntKind.wrap IntKind.i64 (byteAt s (0 : Int)) = Op5.k { k := (1 : Int), fl := a, id := b, ln := d, tk := (0 : Int) },
      IntKind.wrap IntKind.u32 (Fl.n (fldT (Prod.fst (ByteArray.extract s (Int.toNat (Option.getD (some (Prod.snd (IntKind.i64, (1 : Int)))) (0 : Int))) (Int.toNat (Option.getD none (↑(ByteArray.size s) : Int))), [(0 : Int) ≤ Option.getD (some (Prod.snd (IntKind.i64, (1 : Int)))) (0 : Int), Option.getD (some (Prod.snd (IntKind.i64, (1 : Int)))) (0 : Int) ≤ Option.getD none (↑(ByteArray.size s) : Int), Option.getD none (↑(ByteArray.size s) : Int) ≤ (↑(ByteArray.size s) : Int)])) (kOf (litG (1 : Nat) [At.val (Value.int IntKind.i64 (3 : Int)), At.val (Value.int IntKind.i64 (3 : Int)), At.val (Value.int IntKind.i64 (5 : Int))])) (0 : Nat))) = Op5.fl { k := (1 : Int), fl := a, id := b, ln := d, tk := (0 : Int) },
      IntKind.wrap IntKind.u32 (Fl.n (fldT (Prod.fst (ByteArray.extract s (Int.toNat (Option.getD (some (Prod.snd (IntKind.i64, (1 : Int)))) (0 : Int))) (Int.toNat (Option.getD none (↑(ByteArray.size s) : Int))), [(0 : Int) ≤ Option.getD (some (Prod.snd (IntKind.i64, (1 : Int)))) (0 : Int), Option.getD (some (Prod.snd (IntKind.i64, (1 : Int)))) (0 : Int) ≤ Option.getD none (↑(ByteArray.size s) : Int), Option.getD none (↑(ByteArray.size s) : Int) ≤ (↑(ByteArray.size s) : Int)])) (kOf (litG (1 : Nat) [At.val (Value.int IntKind.i64 (3 : Int)), At.val (Value.int IntKind.i64 (3 : Int)), At.val (Value.int IntKind.i64 (5 : Int))])) (1 : Nat))) = Op5.id { k := (1 : Int), fl := a, id := b, ln := d, tk := (0 : Int) },
      Fl.n (fldT (Prod.fst (ByteArray.extract s (Int.toNat (Option.getD (some (Prod.snd (IntKind.i64, (1 : Int)))) (0 : Int))) (Int.toNat (Option.getD none (↑(ByteArray.size s) : Int))), [(0 : Int) ≤ Option.getD (some (Prod.snd (IntKind.i64, (1 : Int)))) (0 : Int), Option.getD (some (Prod.snd (IntKind.i64, (1 : Int)))) (0 : Int) ≤ Option.getD none (↑(ByteArray.size s) : Int), Option.getD none (↑(ByteArray.size s) : Int) ≤ (↑(ByteArray.size s) : Int)])) (kOf (litG (1 : Nat) [At.val (Value.int IntKind.i64 (3 : Int)), At.val (Value.int IntKind.i64 (3 : Int)), At.val (Value.int IntKind.i64 (5 : Int))])) (2 : Nat)) = Op5.ln { k := (1 : Int), fl := a, id := b, ln := d, tk := (0 : Int) },
      (0 : Int) = Op5.tk { k := (1 : Int), fl := a, id := b, ln := d, tk := (0 : Int) },
      IntKind.wrap IntKind.i64 ((if errT (Prod.fst (ByteArray.extract s (Int.toNat (Option.getD (some (Prod.snd (IntKind.i64, (1 : Int)))) (0 : Int))) (Int.toNat (Option.getD none (↑(ByteArray.size s) : Int))), [(0 : Int) ≤ Option.getD (some (Prod.snd (IntKind.i64, (1 : Int)))) (0 : Int), Option.getD (some (Prod.snd (IntKind.i64, (1 : Int)))) (0 : Int) ≤ Option.getD none (↑(ByteArray.size s) : Int), Option.getD none (↑(ByteArray.size s) : Int) ≤ (↑(ByteArray.size s) : Int)])) (kOf (litG (1 : Nat) [At.val (Value.int IntKind.i64 (3 : Int)), At.val (Value.int IntKind.i64 (3 : Int)), At.val (Value.int IntKind.i64 (5 : Int))])) (3 : Nat) = (0 : Int) then (↑(atN (Prod.fst (ByteArray.extract s (Int.toNat (Option.getD (some (Prod.snd (IntKind.i64, (1 : Int)))) (0 : Int))) (Int.toNat (Option.getD none (↑(ByteArray.size s) : Int))), [(0 : Int) ≤ Option.getD (some (Prod.snd (IntKind.i64, (1 : Int)))) (0 : Int), Option.getD (some (Prod.snd (IntKind.i64, (1 : Int)))) (0 : Int) ≤ Option.getD none (↑(ByteArray.size s) : Int), Option.getD none (↑(ByteArray.size s) : Int) ≤ (↑(ByteArray.size s) : Int)])) (kOf (litG (1 : Nat) [At.val (Value.int IntKind.i64 (3 : Int)), At.val (Value.int IntKind.i64 (3 : Int)), At.val (Value.int IntKind.i64 (5 : Int))])) (3 : Nat)) : Int) else (0 : Int)) + (1 : Int)) = m,
      true = true]) (by kernel_rfl) (.cons (by trivial) (.cons (by omega) (.cons (by (rw [ec]; rfl)) (.cons (by trivial) (.cons (by (simp; omega)) (.cons (by (simp; done)) (.cons (by exact ext_size (by omega)) (.cons (by trivial) (.cons (by rfl) (.cons (by rfl) (.cons (by (intro i hi; match i, hi with | 0, _ => exact ⟨rfl, trivial⟩ | 1, _ => exact ⟨rfl, trivial⟩ | 2, _ => exact ⟨rfl, trivial⟩)) (.cons (by (intro _ _; rfl)) (.cons (by exact bne_eq_false_iff_eq.2 ((he _ k1_lit).trans h0)) (.cons (by (rw [ec]; rfl)) (.cons (by trivial) (.cons (by (show ((0 : Nat) : Int) < ((if errT (fromZ s 1) _ 3 = 0 then 3 else 0 : Nat) : Int); rw [if_pos ((he _ k1_lit).trans h0)]; decide)) (.cons (by (show (0 : Nat) < (if errT (fromZ s 1) _ 3 = 0 then 3 else 0); rw [if_pos ((he _ k1_lit).trans h0)]; decide)) (.cons (by trivial) (.cons (by (show ((1 : Nat) : Int) < ((if errT (fromZ s 1) _ 3 = 0 then 3 else 0 : Nat) : Int); rw [if_pos ((he _ k1_lit).trans h0)]; decide)) (.cons (by (show (1 : Nat) < (if errT (fromZ s 1) _ 3 = 0 then 3 else 0); rw [if_pos ((he _ k1_lit).trans h0)]; decide)) (.cons (by trivial) (.cons (by (show ((2 : Nat) : Int) < ((if errT (fromZ s 1) _ 3 = 0 then 3 else 0 : Nat) : Int); rw [if_pos ((he _ k1_lit).trans h0)]; decide)) (.cons (by (show (2 : Nat) < (if errT (fromZ s 1) _ 3 = 0 then 3 else 0); rw [if_pos ((he _ k1_lit).trans h0)]; decide)) (.cons (by assumption) (.cons (by exact ha _ k1_lit) (.cons (by exact hb _ k1_lit) (.cons (by exact hd _ k1_lit) (.cons (by rfl) (.cons (by exact hm _ k1_lit) (.cons (by rfl) .nil))))))))))))))))))))))))))))))

set_option maxHeartbeats 2000000 in
theorem oq_3e (s : ByteArray) (hz : s.size ≤ 100000000) (h1 : 1 ≤ s.size) (e : Int) (ec : IntKind.wrap IntKind.i64 (byteAt s 0) = 3) (he : (∀ K : Nat → Int, (∀ j, j < 1 → K j = kindsF 3 j) → errT (fromZ s 1) K 1 = e)) (h0 : e ≠ 0) : PureOk Try.prog 15 ([sA s]) (.tup [.agg (oA ⟨5, 0, 0, 0, 0⟩), .one (.val (.int .i64 0)), .one (.val (.bool false))]) :=
  pure_run GbI_ok Try.func15 (orc := ⟨[false, true, true], []⟩) (obl := [(0 : Int) ≤ (0 : Int),
      (0 : Int) < (↑(ByteArray.size s) : Int),
      (IntKind.wrap IntKind.i64 (byteAt s (0 : Int)) == (1 : Int)) = false,
      (IntKind.wrap IntKind.i64 (byteAt s (0 : Int)) == (3 : Int)) = true,
      (0 : Int) ≤ Option.getD (some (Prod.snd (IntKind.i64, (1 : Int)))) (0 : Int),
      Option.getD (some (Prod.snd (IntKind.i64, (1 : Int)))) (0 : Int) ≤ Option.getD none (↑(ByteArray.size s) : Int),
      Option.getD none (↑(ByteArray.size s) : Int) ≤ (↑(ByteArray.size s) : Int),
      ByteArray.size (Prod.fst (ByteArray.extract s (Int.toNat (Option.getD (some (Prod.snd (IntKind.i64, (1 : Int)))) (0 : Int))) (Int.toNat (Option.getD none (↑(ByteArray.size s) : Int))), [(0 : Int) ≤ Option.getD (some (Prod.snd (IntKind.i64, (1 : Int)))) (0 : Int), Option.getD (some (Prod.snd (IntKind.i64, (1 : Int)))) (0 : Int) ≤ Option.getD none (↑(ByteArray.size s) : Int), Option.getD none (↑(ByteArray.size s) : Int) ≤ (↑(ByteArray.size s) : Int)])) ≤ (140737488355328 : Nat),
      (1 : Nat) ≤ (1000 : Nat),
      Prod.fst (ByteArray.extract s (Int.toNat (Option.getD (some (Prod.snd (IntKind.i64, (1 : Int)))) (0 : Int))) (Int.toNat (Option.getD none (↑(ByteArray.size s) : Int))), [(0 : Int) ≤ Option.getD (some (Prod.snd (IntKind.i64, (1 : Int)))) (0 : Int), Option.getD (some (Prod.snd (IntKind.i64, (1 : Int)))) (0 : Int) ≤ Option.getD none (↑(ByteArray.size s) : Int), Option.getD none (↑(ByteArray.size s) : Int) ≤ (↑(ByteArray.size s) : Int)]) = Prod.fst (ByteArray.extract s (Int.toNat (Option.getD (some (Prod.snd (IntKind.i64, (1 : Int)))) (0 : Int))) (Int.toNat (Option.getD none (↑(ByteArray.size s) : Int))), [(0 : Int) ≤ Option.getD (some (Prod.snd (IntKind.i64, (1 : Int)))) (0 : Int), Option.getD (some (Prod.snd (IntKind.i64, (1 : Int)))) (0 : Int) ≤ Option.getD none (↑(ByteArray.size s) : Int), Option.getD none (↑(ByteArray.size s) : Int) ≤ (↑(ByteArray.size s) : Int)]),
      (1 : Nat) = (1 : Nat),
      ∀ (i : Nat), i < (1 : Nat) → AllT (leAts ([] ++ ([] ++ ([((0 : Nat), Bd.same (2 : Nat))] ++ [])) ++ ([] ++ [] ++ ([] ++ []))) (1 : Nat) (litG (1 : Nat) [At.val (Value.int IntKind.i64 (5 : Int))] i) (gK (kOf (litG (1 : Nat) [At.val (Value.int IntKind.i64 (5 : Int))])) i)),
      ∀ (i : Nat), (i < if errT (Prod.fst (ByteArray.extract s (Int.toNat (Option.getD (some (Prod.snd (IntKind.i64, (1 : Int)))) (0 : Int))) (Int.toNat (Option.getD none (↑(ByteArray.size s) : Int))), [(0 : Int) ≤ Option.getD (some (Prod.snd (IntKind.i64, (1 : Int)))) (0 : Int), Option.getD (some (Prod.snd (IntKind.i64, (1 : Int)))) (0 : Int) ≤ Option.getD none (↑(ByteArray.size s) : Int), Option.getD none (↑(ByteArray.size s) : Int) ≤ (↑(ByteArray.size s) : Int)])) (kOf (litG (1 : Nat) [At.val (Value.int IntKind.i64 (5 : Int))])) (1 : Nat) = (0 : Int) then (1 : Nat) else (0 : Nat)) → (true && (true && (true && true))) = true,
      (errT (Prod.fst (ByteArray.extract s (Int.toNat (Option.getD (some (Prod.snd (IntKind.i64, (1 : Int)))) (0 : Int))) (Int.toNat (Option.getD none (↑(ByteArray.size s) : Int))), [(0 : Int) ≤ Option.getD (some (Prod.snd (IntKind.i64, (1 : Int)))) (0 : Int), Option.getD (some (Prod.snd (IntKind.i64, (1 : Int)))) (0 : Int) ≤ Option.getD none (↑(ByteArray.size s) : Int), Option.getD none (↑(ByteArray.size s) : Int) ≤ (↑(ByteArray.size s) : Int)])) (kOf (litG (1 : Nat) [At.val (Value.int IntKind.i64 (5 : Int))])) (1 : Nat) != (0 : Int)) = true,
      (5 : Int) = Op5.k { k := (5 : Int), fl := (0 : Int), id := (0 : Int), ln := (0 : Int), tk := (0 : Int) },
      (0 : Int) = Op5.fl { k := (5 : Int), fl := (0 : Int), id := (0 : Int), ln := (0 : Int), tk := (0 : Int) },
      (0 : Int) = Op5.id { k := (5 : Int), fl := (0 : Int), id := (0 : Int), ln := (0 : Int), tk := (0 : Int) },
      (0 : Int) = Op5.ln { k := (5 : Int), fl := (0 : Int), id := (0 : Int), ln := (0 : Int), tk := (0 : Int) },
      (0 : Int) = Op5.tk { k := (5 : Int), fl := (0 : Int), id := (0 : Int), ln := (0 : Int), tk := (0 : Int) },
      (0 : Int) = (0 : Int),
      false = false]) (by kernel_rfl) (.cons (by trivial) (.cons (by omega) (.cons (by (rw [ec]; rfl)) (.cons (by (rw [ec]; rfl)) (.cons (by trivial) (.cons (by (simp; omega)) (.cons (by (simp; done)) (.cons (by exact ext_size (by omega)) (.cons (by trivial) (.cons (by rfl) (.cons (by rfl) (.cons (by (intro i hi; match i, hi with | 0, _ => exact ⟨rfl, trivial⟩)) (.cons (by (intro _ _; rfl)) (.cons (by exact bne_iff_ne.2 (fun h9 => h0 ((he _ k3_lit).symm.trans h9))) (.cons (by rfl) (.cons (by rfl) (.cons (by rfl) (.cons (by rfl) (.cons (by rfl) (.cons (by rfl) (.cons (by rfl) .nil)))))))))))))))))))))

set_option maxHeartbeats 2000000 in
theorem oq_3k (s : ByteArray) (hz : s.size ≤ 100000000) (h1 : 1 ≤ s.size) (e m : Int) (d : Int) (ec : IntKind.wrap IntKind.i64 (byteAt s 0) = 3) (he : (∀ K : Nat → Int, (∀ j, j < 1 → K j = kindsF 3 j) → errT (fromZ s 1) K 1 = e)) (h0 : e = 0) (hd : (∀ K : Nat → Int, (∀ j, j < 1 → K j = kindsF 3 j) → (fldT (fromZ s 1) K 0).n = d)) (hm : (∀ K : Nat → Int, (∀ j, j < 1 → K j = kindsF 3 j) → IntKind.wrap IntKind.i64 ((if errT (fromZ s 1) K 1 = 0 then (atN (fromZ s 1) K 1 : Int) else 0) + 1) = m)) : PureOk Try.prog 15 ([sA s]) (.tup [.agg (oA ⟨3, 0, 0, 0, d⟩), .one (.val (.int .i64 m)), .one (.val (.bool true))]) :=
  pure_run GbI_ok Try.func15 (orc := ⟨[false, true, false, false, true], []⟩) (obl := [(0 : Int) ≤ (0 : Int),
      (0 : Int) < (↑(ByteArray.size s) : Int),
      (IntKind.wrap IntKind.i64 (byteAt s (0 : Int)) == (1 : Int)) = false,
      (IntKind.wrap IntKind.i64 (byteAt s (0 : Int)) == (3 : Int)) = true,
      (0 : Int) ≤ Option.getD (some (Prod.snd (IntKind.i64, (1 : Int)))) (0 : Int),
      Option.getD (some (Prod.snd (IntKind.i64, (1 : Int)))) (0 : Int) ≤ Option.getD none (↑(ByteArray.size s) : Int),
      Option.getD none (↑(ByteArray.size s) : Int) ≤ (↑(ByteArray.size s) : Int),
      ByteArray.size (Prod.fst (ByteArray.extract s (Int.toNat (Option.getD (some (Prod.snd (IntKind.i64, (1 : Int)))) (0 : Int))) (Int.toNat (Option.getD none (↑(ByteArray.size s) : Int))), [(0 : Int) ≤ Option.getD (some (Prod.snd (IntKind.i64, (1 : Int)))) (0 : Int), Option.getD (some (Prod.snd (IntKind.i64, (1 : Int)))) (0 : Int) ≤ Option.getD none (↑(ByteArray.size s) : Int), Option.getD none (↑(ByteArray.size s) : Int) ≤ (↑(ByteArray.size s) : Int)])) ≤ (140737488355328 : Nat),
      (1 : Nat) ≤ (1000 : Nat),
      Prod.fst (ByteArray.extract s (Int.toNat (Option.getD (some (Prod.snd (IntKind.i64, (1 : Int)))) (0 : Int))) (Int.toNat (Option.getD none (↑(ByteArray.size s) : Int))), [(0 : Int) ≤ Option.getD (some (Prod.snd (IntKind.i64, (1 : Int)))) (0 : Int), Option.getD (some (Prod.snd (IntKind.i64, (1 : Int)))) (0 : Int) ≤ Option.getD none (↑(ByteArray.size s) : Int), Option.getD none (↑(ByteArray.size s) : Int) ≤ (↑(ByteArray.size s) : Int)]) = Prod.fst (ByteArray.extract s (Int.toNat (Option.getD (some (Prod.snd (IntKind.i64, (1 : Int)))) (0 : Int))) (Int.toNat (Option.getD none (↑(ByteArray.size s) : Int))), [(0 : Int) ≤ Option.getD (some (Prod.snd (IntKind.i64, (1 : Int)))) (0 : Int), Option.getD (some (Prod.snd (IntKind.i64, (1 : Int)))) (0 : Int) ≤ Option.getD none (↑(ByteArray.size s) : Int), Option.getD none (↑(ByteArray.size s) : Int) ≤ (↑(ByteArray.size s) : Int)]),
      (1 : Nat) = (1 : Nat),
      ∀ (i : Nat), i < (1 : Nat) → AllT (leAts ([] ++ ([] ++ ([((0 : Nat), Bd.same (2 : Nat))] ++ [])) ++ ([] ++ [] ++ ([] ++ []))) (1 : Nat) (litG (1 : Nat) [At.val (Value.int IntKind.i64 (5 : Int))] i) (gK (kOf (litG (1 : Nat) [At.val (Value.int IntKind.i64 (5 : Int))])) i)),
      ∀ (i : Nat), (i < if errT (Prod.fst (ByteArray.extract s (Int.toNat (Option.getD (some (Prod.snd (IntKind.i64, (1 : Int)))) (0 : Int))) (Int.toNat (Option.getD none (↑(ByteArray.size s) : Int))), [(0 : Int) ≤ Option.getD (some (Prod.snd (IntKind.i64, (1 : Int)))) (0 : Int), Option.getD (some (Prod.snd (IntKind.i64, (1 : Int)))) (0 : Int) ≤ Option.getD none (↑(ByteArray.size s) : Int), Option.getD none (↑(ByteArray.size s) : Int) ≤ (↑(ByteArray.size s) : Int)])) (kOf (litG (1 : Nat) [At.val (Value.int IntKind.i64 (5 : Int))])) (1 : Nat) = (0 : Int) then (1 : Nat) else (0 : Nat)) → (true && (true && (true && true))) = true,
      (errT (Prod.fst (ByteArray.extract s (Int.toNat (Option.getD (some (Prod.snd (IntKind.i64, (1 : Int)))) (0 : Int))) (Int.toNat (Option.getD none (↑(ByteArray.size s) : Int))), [(0 : Int) ≤ Option.getD (some (Prod.snd (IntKind.i64, (1 : Int)))) (0 : Int), Option.getD (some (Prod.snd (IntKind.i64, (1 : Int)))) (0 : Int) ≤ Option.getD none (↑(ByteArray.size s) : Int), Option.getD none (↑(ByteArray.size s) : Int) ≤ (↑(ByteArray.size s) : Int)])) (kOf (litG (1 : Nat) [At.val (Value.int IntKind.i64 (5 : Int))])) (1 : Nat) != (0 : Int)) = false,
      (IntKind.wrap IntKind.i64 (byteAt s (0 : Int)) == (1 : Int)) = false,
      (IntKind.wrap IntKind.i64 (byteAt s (0 : Int)) == (3 : Int)) = true,
      (0 : Int) ≤ (0 : Int),
      (0 : Int) < (↑(if errT (Prod.fst (ByteArray.extract s (Int.toNat (Option.getD (some (Prod.snd (IntKind.i64, (1 : Int)))) (0 : Int))) (Int.toNat (Option.getD none (↑(ByteArray.size s) : Int))), [(0 : Int) ≤ Option.getD (some (Prod.snd (IntKind.i64, (1 : Int)))) (0 : Int), Option.getD (some (Prod.snd (IntKind.i64, (1 : Int)))) (0 : Int) ≤ Option.getD none (↑(ByteArray.size s) : Int), Option.getD none (↑(ByteArray.size s) : Int) ≤ (↑(ByteArray.size s) : Int)])) (kOf (litG (1 : Nat) [At.val (Value.int IntKind.i64 (5 : Int))])) (1 : Nat) = (0 : Int) then (1 : Nat) else (0 : Nat)) : Int),
      (0 : Nat) < if errT (Prod.fst (ByteArray.extract s (Int.toNat (Option.getD (some (Prod.snd (IntKind.i64, (1 : Int)))) (0 : Int))) (Int.toNat (Option.getD none (↑(ByteArray.size s) : Int))), [(0 : Int) ≤ Option.getD (some (Prod.snd (IntKind.i64, (1 : Int)))) (0 : Int), Option.getD (some (Prod.snd (IntKind.i64, (1 : Int)))) (0 : Int) ≤ Option.getD none (↑(ByteArray.size s) : Int), Option.getD none (↑(ByteArray.size s) : Int) ≤ (↑(ByteArray.size s) : Int)])) (kOf (litG (1 : Nat) [At.val (Value.int IntKind.i64 (5 : Int))])) (1 : Nat) = (0 : Int) then (1 : Nat) else (0 : Nat),
      IntKind.wrap IntKind.i64 (byteAt s (0 : Int)) = Op5.k { k := (3 : Int), fl := (0 : Int), id := (0 : Int), ln := (0 : Int), tk := d },
      (0 : Int) = Op5.fl { k := (3 : Int), fl := (0 : Int), id := (0 : Int), ln := (0 : Int), tk := d },
      (0 : Int) = Op5.id { k := (3 : Int), fl := (0 : Int), id := (0 : Int), ln := (0 : Int), tk := d },
      (0 : Int) = Op5.ln { k := (3 : Int), fl := (0 : Int), id := (0 : Int), ln := (0 : Int), tk := d },
      Fl.n (fldT (Prod.fst (ByteArray.extract s (Int.toNat (Option.getD (some (Prod.snd (IntKind.i64, (1 : Int)))) (0 : Int))) (Int.toNat (Option.getD none (↑(ByteArray.size s) : Int))), [(0 : Int) ≤ Option.getD (some (Prod.snd (IntKind.i64, (1 : Int)))) (0 : Int), Option.getD (some (Prod.snd (IntKind.i64, (1 : Int)))) (0 : Int) ≤ Option.getD none (↑(ByteArray.size s) : Int), Option.getD none (↑(ByteArray.size s) : Int) ≤ (↑(ByteArray.size s) : Int)])) (kOf (litG (1 : Nat) [At.val (Value.int IntKind.i64 (5 : Int))])) (0 : Nat)) = Op5.tk { k := (3 : Int), fl := (0 : Int), id := (0 : Int), ln := (0 : Int), tk := d },
      IntKind.wrap IntKind.i64 ((if errT (Prod.fst (ByteArray.extract s (Int.toNat (Option.getD (some (Prod.snd (IntKind.i64, (1 : Int)))) (0 : Int))) (Int.toNat (Option.getD none (↑(ByteArray.size s) : Int))), [(0 : Int) ≤ Option.getD (some (Prod.snd (IntKind.i64, (1 : Int)))) (0 : Int), Option.getD (some (Prod.snd (IntKind.i64, (1 : Int)))) (0 : Int) ≤ Option.getD none (↑(ByteArray.size s) : Int), Option.getD none (↑(ByteArray.size s) : Int) ≤ (↑(ByteArray.size s) : Int)])) (kOf (litG (1 : Nat) [At.val (Value.int IntKind.i64 (5 : Int))])) (1 : Nat) = (0 : Int) then (↑(atN (Prod.fst (ByteArray.extract s (Int.toNat (Option.getD (some (Prod.snd (IntKind.i64, (1 : Int)))) (0 : Int))) (Int.toNat (Option.getD none (↑(ByteArray.size s) : Int))), [(0 : Int) ≤ Option.getD (some (Prod.snd (IntKind.i64, (1 : Int)))) (0 : Int), Option.getD (some (Prod.snd (IntKind.i64, (1 : Int)))) (0 : Int) ≤ Option.getD none (↑(ByteArray.size s) : Int), Option.getD none (↑(ByteArray.size s) : Int) ≤ (↑(ByteArray.size s) : Int)])) (kOf (litG (1 : Nat) [At.val (Value.int IntKind.i64 (5 : Int))])) (1 : Nat)) : Int) else (0 : Int)) + (1 : Int)) = m,
      true = true]) (by kernel_rfl) (.cons (by trivial) (.cons (by omega) (.cons (by (rw [ec]; rfl)) (.cons (by (rw [ec]; rfl)) (.cons (by trivial) (.cons (by (simp; omega)) (.cons (by (simp; done)) (.cons (by exact ext_size (by omega)) (.cons (by trivial) (.cons (by rfl) (.cons (by rfl) (.cons (by (intro i hi; match i, hi with | 0, _ => exact ⟨rfl, trivial⟩)) (.cons (by (intro _ _; rfl)) (.cons (by exact bne_eq_false_iff_eq.2 ((he _ k3_lit).trans h0)) (.cons (by (rw [ec]; rfl)) (.cons (by (rw [ec]; rfl)) (.cons (by trivial) (.cons (by (show ((0 : Nat) : Int) < ((if errT (fromZ s 1) _ 1 = 0 then 1 else 0 : Nat) : Int); rw [if_pos ((he _ k3_lit).trans h0)]; decide)) (.cons (by (show (0 : Nat) < (if errT (fromZ s 1) _ 1 = 0 then 1 else 0); rw [if_pos ((he _ k3_lit).trans h0)]; decide)) (.cons (by assumption) (.cons (by rfl) (.cons (by rfl) (.cons (by rfl) (.cons (by exact hd _ k3_lit) (.cons (by exact hm _ k3_lit) (.cons (by rfl) .nil))))))))))))))))))))))))))

set_option maxHeartbeats 2000000 in
theorem oq_2 (s : ByteArray) (hz : s.size ≤ 100000000) (h1 : 1 ≤ s.size) (c : Int) (ec : IntKind.wrap IntKind.i64 (byteAt s 0) = c) (hc1 : c ≠ 1) (hc3 : c ≠ 3) : PureOk Try.prog 15 ([sA s]) (.tup [.agg (oA ⟨c, 0, 0, 0, 0⟩), .one (.val (.int .i64 1)), .one (.val (.bool true))]) :=
  pure_run GbI_ok Try.func15 (orc := ⟨[false, false, false, false, false], []⟩) (obl := [(0 : Int) ≤ (0 : Int),
      (0 : Int) < (↑(ByteArray.size s) : Int),
      (IntKind.wrap IntKind.i64 (byteAt s (0 : Int)) == (1 : Int)) = false,
      (IntKind.wrap IntKind.i64 (byteAt s (0 : Int)) == (3 : Int)) = false,
      (0 : Int) ≤ Option.getD (some (Prod.snd (IntKind.i64, (1 : Int)))) (0 : Int),
      Option.getD (some (Prod.snd (IntKind.i64, (1 : Int)))) (0 : Int) ≤ Option.getD none (↑(ByteArray.size s) : Int),
      Option.getD none (↑(ByteArray.size s) : Int) ≤ (↑(ByteArray.size s) : Int),
      ByteArray.size (Prod.fst (ByteArray.extract s (Int.toNat (Option.getD (some (Prod.snd (IntKind.i64, (1 : Int)))) (0 : Int))) (Int.toNat (Option.getD none (↑(ByteArray.size s) : Int))), [(0 : Int) ≤ Option.getD (some (Prod.snd (IntKind.i64, (1 : Int)))) (0 : Int), Option.getD (some (Prod.snd (IntKind.i64, (1 : Int)))) (0 : Int) ≤ Option.getD none (↑(ByteArray.size s) : Int), Option.getD none (↑(ByteArray.size s) : Int) ≤ (↑(ByteArray.size s) : Int)])) ≤ (140737488355328 : Nat),
      Prod.fst (ByteArray.extract s (Int.toNat (Option.getD (some (Prod.snd (IntKind.i64, (1 : Int)))) (0 : Int))) (Int.toNat (Option.getD none (↑(ByteArray.size s) : Int))), [(0 : Int) ≤ Option.getD (some (Prod.snd (IntKind.i64, (1 : Int)))) (0 : Int), Option.getD (some (Prod.snd (IntKind.i64, (1 : Int)))) (0 : Int) ≤ Option.getD none (↑(ByteArray.size s) : Int), Option.getD none (↑(ByteArray.size s) : Int) ≤ (↑(ByteArray.size s) : Int)]) = Prod.fst (ByteArray.extract s (Int.toNat (Option.getD (some (Prod.snd (IntKind.i64, (1 : Int)))) (0 : Int))) (Int.toNat (Option.getD none (↑(ByteArray.size s) : Int))), [(0 : Int) ≤ Option.getD (some (Prod.snd (IntKind.i64, (1 : Int)))) (0 : Int), Option.getD (some (Prod.snd (IntKind.i64, (1 : Int)))) (0 : Int) ≤ Option.getD none (↑(ByteArray.size s) : Int), Option.getD none (↑(ByteArray.size s) : Int) ≤ (↑(ByteArray.size s) : Int)]),
      (0 : Nat) = (0 : Nat),
      ∀ (i : Nat), i < (0 : Nat) → (true && (true && (true && true))) = true,
      ((0 : Int) != (0 : Int)) = false,
      (IntKind.wrap IntKind.i64 (byteAt s (0 : Int)) == (1 : Int)) = false,
      (IntKind.wrap IntKind.i64 (byteAt s (0 : Int)) == (3 : Int)) = false,
      IntKind.wrap IntKind.i64 (byteAt s (0 : Int)) = Op5.k { k := c, fl := (0 : Int), id := (0 : Int), ln := (0 : Int), tk := (0 : Int) },
      (0 : Int) = Op5.fl { k := c, fl := (0 : Int), id := (0 : Int), ln := (0 : Int), tk := (0 : Int) },
      (0 : Int) = Op5.id { k := c, fl := (0 : Int), id := (0 : Int), ln := (0 : Int), tk := (0 : Int) },
      (0 : Int) = Op5.ln { k := c, fl := (0 : Int), id := (0 : Int), ln := (0 : Int), tk := (0 : Int) },
      (0 : Int) = Op5.tk { k := c, fl := (0 : Int), id := (0 : Int), ln := (0 : Int), tk := (0 : Int) },
      IntKind.wrap IntKind.i64 ((0 : Int) + (1 : Int)) = (1 : Int),
      true = true]) (by kernel_rfl) (.cons (by trivial) (.cons (by omega) (.cons (by (rw [ec]; exact beq_eq_false_iff_ne.2 hc1)) (.cons (by (rw [ec]; exact beq_eq_false_iff_ne.2 hc3)) (.cons (by trivial) (.cons (by (simp; omega)) (.cons (by (simp; done)) (.cons (by exact ext_size (by omega)) (.cons (by rfl) (.cons (by rfl) (.cons (by trivial) (.cons (by rfl) (.cons (by (rw [ec]; exact beq_eq_false_iff_ne.2 hc1)) (.cons (by (rw [ec]; exact beq_eq_false_iff_ne.2 hc3)) (.cons (by assumption) (.cons (by rfl) (.cons (by rfl) (.cons (by rfl) (.cons (by rfl) (.cons (by rfl) (.cons (by rfl) .nil)))))))))))))))))))))
end Go.Proofs.Ytecgigeahkijaaa

/- ops: one and begins as specifications. No condition. -/
namespace Go.Proofs.Ytecgigeahkijaaa
set_option linter.unusedVariables false
set_option linter.unusedSimpArgs false
open Go.RowKit E
def gBegins : List SV → Option (SV × List Prop)
  | [.nv (.one (.val (.int .u64 c)))] => some (bA (begB c), [])
  | _ => none
theorem spBegins : SpOk Try.prog 14 (pureS gBegins) := pureS_ok (by
  intro args r obl h ho
  unfold gBegins at h
  split at h
  · rename_i c
    simp only [Option.some.injEq, Prod.mk.injEq] at h
    obtain ⟨rfl, rfl⟩ := h
    refine ⟨rfl, rfl, ?_⟩
    unfold begB
    by_cases l : c < 1
    · rw [decide_eq_false (show ¬ 1 ≤ c by omega), Bool.false_and]; exact bg_l c l
    · by_cases g : 4 < c
      · rw [decide_eq_false (show ¬ c ≤ 4 by omega), Bool.and_false]; exact bg_h c g
      · rw [decide_eq_true (show 1 ≤ c by omega), decide_eq_true (show c ≤ 4 by omega)]; exact bg_t c (by omega) (by omega)
  · cases h)
theorem fixV_lt (s : ByteArray) (w : Int) (h0 : 0 ≤ w) : fixV s w < 256 ^ w.toNat := by
  unfold fixV
  have hp : (0 : Int) < 256 ^ w.toNat := Int.pow_pos (by omega)
  split
  · exact hp
  · have := bigZ_bd ((ints s).take w.toNat) 0 (inB_take (inB_ints s) _) (Int.le_refl _)
    have hq := ipow_le (b := 256) (by decide) (i := ((ints s).take w.toNat).length) (j := w.toNat) (by rw [List.length_take]; omega)
    omega
theorem fld_word {s : ByteArray} {K : Nat → Int} {i : Nat} (h : K i = 3) : 0 ≤ (fldT s K i).n ∧ (fldT s K i).n < 4294967296 := by
  have h0 := (oneZ_n (fromZ s (atN s K i)) (K i)).1
  refine ⟨h0, ?_⟩
  show (oneZ (fromZ s (atN s K i)) (K i)).1 < _
  rw [h]
  have := fixV_lt (fromZ s (atN s K i)) 4 (by decide)
  exact this
theorem pureOneO (s : ByteArray) (h1 : 1 ≤ s.size) (hz : s.size ≤ 100000000) (hb : begB (byteAt s 0) = true) :
    PureOk Try.prog 15 [sA s] (.tup [.agg (oA (oneX s)), .one (.val (.int .i64 ((if oneW s = true then oneL s else 0 : Nat) : Int))), .one (.val (.bool (oneW s)))]) := by
  have hc := byteAt_bd s 0
  have ec : IntKind.wrap IntKind.i64 (byteAt s 0) = byteAt s 0 := w64 rfl (by omega)
  have hs1 := fromZ_size h1
  generalize hcc : byteAt s 0 = c at hc ec hb
  have hb' : 1 ≤ c ∧ c ≤ 4 := by
    unfold begB at hb
    simp only [Bool.and_eq_true, decide_eq_true_eq] at hb
    exact hb
  have hnb : ¬ begB c = false := by rw [hb]; decide
  unfold oneX oneW oneL
  rw [hcc, if_neg hnb, if_neg hnb, if_neg hnb]
  replace ec : IntKind.wrap IntKind.i64 (byteAt s 0) = c := by rw [hcc]; exact ec
  by_cases c1 : c = 1
  · subst c1
    rw [show kindsN 1 = 3 from rfl]
    have he : ∀ K : Nat → Int, (∀ j, j < 3 → K j = kindsF 1 j) → errT (fromZ s 1) K 3 = errT (fromZ s 1) (kindsF 1) 3 := fun K hK => (take_congr hK).1
    by_cases e : errT (fromZ s 1) (kindsF 1) 3 = 0
    · have ha := atN_le e
      rw [hs1] at ha
      rw [if_neg (fun q => q e), if_pos rfl, decide_eq_true e, if_pos rfl]
      have w0 := fld_word (s := fromZ s 1) (K := kindsF 1) (i := 0) rfl
      have w1 := fld_word (s := fromZ s 1) (K := kindsF 1) (i := 1) rfl
      refine oq_1k s hz h1 _ _ _ _ _ ec he e (fun K hK => ?_) (fun K hK => ?_) (fun K hK => ?_) (fun K hK => ?_)
      · rw [fld_congr (n := 0) (fun j hj => hK j (by omega))]; exact wU32 rfl (by omega)
      · rw [fld_congr (n := 1) (fun j hj => hK j (by omega))]; exact wU32 rfl (by omega)
      · rw [fld_congr (n := 2) (fun j hj => hK j (by omega))]
      · rw [(take_congr hK).1, (take_congr hK).2, if_pos e]; exact w64 (by omega) (by omega)
    · rw [if_pos e, decide_eq_false e, if_neg (by decide)]
      exact oq_1e s hz h1 _ ec he e
  · by_cases c3 : c = 3
    · subst c3
      rw [show kindsN 3 = 1 from rfl]
      have he : ∀ K : Nat → Int, (∀ j, j < 1 → K j = kindsF 3 j) → errT (fromZ s 1) K 1 = errT (fromZ s 1) (kindsF 3) 1 := fun K hK => (take_congr hK).1
      by_cases e : errT (fromZ s 1) (kindsF 3) 1 = 0
      · have ha := atN_le e
        rw [hs1] at ha
        rw [if_neg (fun q => q e), if_neg (by decide), if_pos rfl, decide_eq_true e, if_pos rfl]
        refine oq_3k s hz h1 _ _ _ ec he e (fun K hK => ?_) (fun K hK => ?_)
        · rw [fld_congr (n := 0) (fun j hj => hK j (by omega))]
        · rw [(take_congr hK).1, (take_congr hK).2, if_pos e]; exact w64 (by omega) (by omega)
      · rw [if_pos e, decide_eq_false e, if_neg (by decide)]
        exact oq_3e s hz h1 _ ec he e
    · have k0 : kindsN c = 0 := by unfold kindsN; rw [if_neg c1, if_neg c3]
      rw [k0]
      have e : errT (fromZ s 1) (kindsF c) 0 = 0 := rfl
      rw [if_neg (fun q => q e), if_neg c1, if_neg c3, decide_eq_true e, if_pos rfl]
      exact oq_2 s hz h1 c ec c1 c3
def gOneO : List SV → Option (SV × List Prop)
  | [.nv (.one (.val (.string s)))] => some (.tup [.agg (oA (oneX s)), .one (.val (.int .i64 ((if oneW s = true then oneL s else 0 : Nat) : Int))), .one (.val (.bool (oneW s)))], [1 ≤ s.size, s.size ≤ 100000000, begB (byteAt s 0) = true])
  | _ => none
theorem spOneO : SpOk Try.prog 15 (pureS gOneO) := pureS_ok (by
  intro args r obl h ho
  unfold gOneO at h
  split at h
  · simp only [Option.some.injEq, Prod.mk.injEq] at h
    obtain ⟨rfl, rfl⟩ := h
    exact ⟨rfl, rfl, pureOneO _ ho.1 ho.2.1 ho.2.2.1⟩
  · cases h)
def GoA : List (FuncId × Sp) := (14, pureS gBegins) :: (15, pureS gOneO) :: GbI
theorem GoA_ok : CtxOk Try.prog GoA := ctx_cons (enter_of Try.func14 (by kernel_rfl) (by kernel_rfl)) spBegins <|
  ctx_cons (enter_of Try.func15 (by kernel_rfl) (by kernel_rfl)) spOneO GbI_ok
end Go.Proofs.Ytecgigeahkijaaa

/- ops: operations, and how they are read: plain functions. No condition. -/
import Derived.Test.YtecgigeahkijaaaWsJ
namespace Go.Proofs.Ytecgigeahkijaaa
set_option linter.unusedVariables false
set_option linter.unusedSimpArgs false
open Go.RowKit E

/-- An operation. -/
structure Op5 where
  k : Int
  fl : Int
  id : Int
  ln : Int
  tk : Int
abbrev oA (x : Op5) : List At := [.val (.int .i64 x.k), .val (.int .u32 x.fl), .val (.int .u32 x.id), .val (.int .u64 x.ln), .val (.int .u64 x.tk)]
abbrev gO (L : Nat → Op5) : Nat → List At := fun j => [.val (.int .i64 (L j).k), .val (.int .u32 (L j).fl), .val (.int .u32 (L j).id), .val (.int .u64 (L j).ln), .val (.int .u64 (L j).tk)]
def opOf (g : Nat → List At) : Nat → Op5 := fun j => ⟨cellZ (g j) 0, cellZ (g j) 1, cellZ (g j) 2, cellZ (g j) 3, cellZ (g j) 4⟩
/-- The kinds of the fields behind the byte of an operation. -/
def kindsF (c : Int) : Nat → Int := fun j => if c = 1 then (if j = 0 then 3 else if j = 1 then 3 else 5) else 5
def kindsN (c : Int) : Nat := if c = 1 then 3 else if c = 3 then 1 else 0
def begB (c : Int) : Bool := decide (1 ≤ c) && decide (c ≤ 4)
theorem take_congr {s : ByteArray} {K K' : Nat → Int} : ∀ {n : Nat}, (∀ j, j < n → K j = K' j) → errT s K n = errT s K' n ∧ atN s K n = atN s K' n
  | 0, _ => ⟨rfl, rfl⟩
  | n + 1, h => by
    obtain ⟨h1, h2⟩ := take_congr (n := n) (fun j hj => h j (by omega))
    rw [errT, errT, atN, atN, h1, h2, h n (Nat.lt_succ_self n)]
    exact ⟨rfl, rfl⟩
theorem fld_congr {s : ByteArray} {K K' : Nat → Int} {n : Nat} (h : ∀ j, j ≤ n → K j = K' j) : fldT s K n = fldT s K' n := by
  unfold fldT
  rw [h n (Nat.le_refl n), (take_congr (s := s) (n := n) (fun j hj => h j (by omega))).2]
theorem k1_lit : ∀ j, j < 3 → kOf (litG 1 [.val (.int .i64 3), .val (.int .i64 3), .val (.int .i64 5)]) j = kindsF 1 j := fun j hj => by
  match j, hj with
  | 0, _ => rfl
  | 1, _ => rfl
  | 2, _ => rfl
theorem k3_lit : ∀ j, j < 1 → kOf (litG 1 [.val (.int .i64 5)]) j = kindsF 3 j := fun j hj => by
  match j, hj with
  | 0, _ => rfl
/-- The operation with which a text begins, how many bytes it has, and whether it is whole. -/
def oneX (s : ByteArray) : Op5 :=
  if begB (byteAt s 0) = false then ⟨0, 0, 0, byteAt s 0, 0⟩
  else if errT (fromZ s 1) (kindsF (byteAt s 0)) (kindsN (byteAt s 0)) ≠ 0 then ⟨5, 0, 0, 0, 0⟩
  else if byteAt s 0 = 1 then ⟨1, (fldT (fromZ s 1) (kindsF 1) 0).n, (fldT (fromZ s 1) (kindsF 1) 1).n, (fldT (fromZ s 1) (kindsF 1) 2).n, 0⟩
  else if byteAt s 0 = 3 then ⟨3, 0, 0, 0, (fldT (fromZ s 1) (kindsF 3) 0).n⟩
  else ⟨byteAt s 0, 0, 0, 0, 0⟩
def oneW (s : ByteArray) : Bool := if begB (byteAt s 0) = false then true else decide (errT (fromZ s 1) (kindsF (byteAt s 0)) (kindsN (byteAt s 0)) = 0)
def oneL (s : ByteArray) : Nat := if begB (byteAt s 0) = false then 1 else atN (fromZ s 1) (kindsF (byteAt s 0)) (kindsN (byteAt s 0)) + 1
/-- Where the operations of a text begin. -/
def offO (s : ByteArray) : Nat → Nat
  | 0 => 0
  | i + 1 => offO s i + oneL (fromZ s (offO s i))
def opX (s : ByteArray) (i : Nat) : Op5 := oneX (fromZ s (offO s i))
/-- How many there are from the i-th on (of at most so many), and whether the last one is torn. -/
def cntO (s : ByteArray) : Nat → Nat → Nat × Bool
  | 0, _ => (0, false)
  | f + 1, i => if s.size ≤ offO s i then (0, false) else if oneW (fromZ s (offO s i)) = true then ((cntO s f (i + 1)).1 + 1, (cntO s f (i + 1)).2) else (1, true)
def numO (s : ByteArray) : Nat := (cntO s s.size 0).1
def tornO (s : ByteArray) : Bool := (cntO s s.size 0).2
theorem fromZ_fromZ (s : ByteArray) (a b : Nat) : fromZ (fromZ s a) b = fromZ s (a + b) := ints_ext (by rw [fromZ_ints, fromZ_ints, fromZ_ints, List.drop_drop])
theorem oneL_pos (s : ByteArray) : 1 ≤ oneL s := by unfold oneL; split <;> omega
theorem oneL_le {s : ByteArray} (h : 1 ≤ s.size) (hw : oneW s = true) : oneL s ≤ s.size := by
  unfold oneW at hw
  unfold oneL
  split at hw
  · rename_i q; rw [if_pos q]; exact h
  · rename_i q
    rw [if_neg q]
    have := atN_le (of_decide_eq_true hw)
    rw [fromZ_size h] at this
    omega
end Go.Proofs.Ytecgigeahkijaaa

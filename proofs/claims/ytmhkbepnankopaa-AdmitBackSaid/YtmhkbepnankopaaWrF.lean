/- Rows of bytes, and builders of texts: what the runs of wire need. No condition. -/
import Derived.Test.YtmhkbepnankopaaEC
import Derived.Test.YtmhkbepnankopaaChecked
import Derived.KernelRfl
import Derived.Laws.Externs
import Derived.Shelf.Strconv.Itoa0
namespace Go.Proofs.Ytmhkbepnankopaa
set_option linter.unusedVariables false
set_option linter.unusedSimpArgs false
open Go.RowKit E

/-- a row of bytes, as numbers -/
abbrev gB (F : Nat → Int) : Nat → List At := fun k => [.val (.int .u8 (F k))]
/-- behind n of the one come those of a list -/
def catF (n : Nat) (F : Nat → Int) (L : List Int) : Nat → Int := fun k => if k < n then F k else L.getD (k - n) 0
def lF (L : List Int) : Nat → Int := fun k => L.getD k 0
def bstr (n : Nat) (F : Nat → Int) : ByteArray := ⟨((List.range n).map fun i => UInt8.ofNat (F i).toNat).toArray⟩
def byteR (n : Nat) (F : Nat → Int) : Prop := ∀ i, i < n → 0 ≤ F i ∧ F i < 256
/-- a text's bytes, as numbers -/
def ints (s : ByteArray) : List Int := s.data.toList.map fun b => (b.toNat : Int)
theorem ints_len (s : ByteArray) : (ints s).length = s.size := by simp [ints]
theorem byteAt_ints (s : ByteArray) (k : Nat) : byteAt s k = (ints s).getD k 0 := by
  unfold byteAt ints
  rw [Int.toNat_natCast, List.getD_eq_getElem?_getD, List.getD_eq_getElem?_getD, List.getElem?_map]
  cases s.data.toList[k]? <;> rfl
theorem cat_one (n : Nat) (F : Nat → Int) (c : Int) (i : Nat) (hi : i < n + 1) : (if i = n then c else F i) = catF n F [c] i := by
  unfold catF
  by_cases e : i = n
  · subst e; rw [if_pos rfl, if_neg (Nat.lt_irrefl i)]; simp
  · rw [if_neg e, if_pos (by omega)]
theorem lF_cat (L M : List Int) (i : Nat) : catF L.length (lF L) M i = lF (L ++ M) i := by
  unfold catF lF
  simp only [List.getD_eq_getElem?_getD]
  by_cases h : i < L.length
  · rw [if_pos h, List.getElem?_append_left h]
  · rw [if_neg h, List.getElem?_append_right (by omega)]
theorem catF_cat (n : Nat) (F : Nat → Int) (L M : List Int) (i : Nat) : catF (n + L.length) (catF n F L) M i = catF n F (L ++ M) i := by
  unfold catF
  simp only [List.getD_eq_getElem?_getD]
  by_cases h : i < n
  · rw [if_pos (by omega), if_pos h, if_pos h]
  · rw [if_neg h, if_neg h]
    by_cases h2 : i < n + L.length
    · rw [if_pos h2, List.getElem?_append_left (by omega)]
    · rw [if_neg h2, List.getElem?_append_right (by omega), show i - n - L.length = i - (n + L.length) by omega]
theorem bstr_eq (n : Nat) (F : Nat → Int) : rowStr n (gB F) = bstr n F := rfl
theorem bstr_size (n : Nat) (F : Nat → Int) : (bstr n F).size = n := by
  show (bstr n F).data.size = n
  simp [bstr]
theorem ints_bstr {n : Nat} {F : Nat → Int} (h : byteR n F) : ints (bstr n F) = (List.range n).map F := by
  unfold ints bstr
  simp only [List.map_map]
  apply List.map_congr_left
  intro i hi
  have := h i (List.mem_range.1 hi)
  simp only [Function.comp_apply, UInt8.toNat_ofNat']
  omega
theorem ints_ext {s t : ByteArray} (h : ints s = ints t) : s = t := by
  apply bytes_ext
  unfold ints at h
  have inj : ∀ l m : List UInt8, (l.map fun b => (b.toNat : Int)) = (m.map fun b => (b.toNat : Int)) → l = m := by
    intro l
    induction l with
    | nil => intro m h; cases m with
      | nil => rfl
      | cons _ _ => cases h
    | cons a l ih => intro m h; cases m with
      | nil => cases h
      | cons b m =>
        simp only [List.map_cons, List.cons.injEq] at h
        rw [ih m h.2, UInt8.toNat_inj.1 (Int.ofNat_inj.1 h.1)]
  exact inj _ _ h
theorem bytesR_gB {n : Nat} {F : Nat → Int} (h : byteR n F) : bytesR n (gB F) := fun i hi => ⟨rfl, h i hi⟩

/-- A box whose first cell is nothing, or the box's own address: each of both. -/
theorem fn_optr {P : Program} {f : FuncId} {args : List SV} {t : TypeId} {l : List At} {m m' : List Seg} {r : SV} (h0 : FnOk P f args (.box t (.val (.pointer none) :: l) :: m) r m') (h1 : FnOk P f args (.box t (.ptr 0 0 :: l) :: m) r m') :
    FnOk P f args (.box t (.optr 0 :: l) :: m) r m' := by
  intro env w0 w S vals hv hm
  obtain ⟨b, cs, e1, e2, e3⟩ := hm.ok 0 _ rfl
  have hc : ∃ v vs, cs.toList = v :: vs ∧ At.rel env (.optr 0) v := by
    match hc : cs.toList, e3 with
    | v :: vs, e3 => exact ⟨v, vs, rfl, e3.1⟩
    | [], e3 => exact e3.elim
  obtain ⟨v, vs, hcs, hv0⟩ := hc
  have fix : ∀ a' : At, a'.rel env v → MemOk env (.box t (a' :: l) :: m) w0 w S := by
    intro a' ha
    have get : ∀ k s, (Seg.box t (a' :: l) :: m)[k]? = some s → (k = 0 ∧ s = .box t (a' :: l)) ∨ (k ≠ 0 ∧ (Seg.box t (.optr 0 :: l) :: m)[k]? = some s) := by
      intro k s hk
      cases k with
      | zero => simp at hk; exact .inl ⟨rfl, hk.symm⟩
      | succ k => exact .inr ⟨by omega, by simpa using hk⟩
    refine ⟨?_, ?_, ?_, ?_, hm.os, hm.tape, hm.output, hm.grow, hm.frame⟩
    · intro k s hk
      rcases get k s hk with ⟨rfl, rfl⟩ | ⟨_, hk⟩
      · refine ⟨b, cs, e1, e2, ?_⟩
        rw [hcs] at e3 ⊢
        exact ⟨ha, e3.2⟩
      · exact hm.ok k s hk
    · intro k hk; exact hm.top k (by simpa using hk)
    · intro j k s u b hj hk hne hx hl hb
      rcases get j s hj with ⟨rfl, rfl⟩ | ⟨_, hj⟩ <;> rcases get k u hk with ⟨rfl, rfl⟩ | ⟨_, hk⟩
      · exact absurd rfl hne
      · exact hm.sep 0 k (.box t (.optr 0 :: l)) u b rfl hk hne rfl hl hb
      · exact hm.sep j 0 s (.box t (.optr 0 :: l)) b hj rfl hne hx trivial hb
      · exact hm.sep j k s u b hj hk hne hx hl hb
    · intro k s b hk hx hb
      rcases get k s hk with ⟨rfl, rfl⟩ | ⟨_, hk⟩
      · exact hm.own 0 (.box t (.optr 0 :: l)) b rfl rfl hb
      · exact hm.own k s b hk hx hb
  rcases hv0 with rfl | hp
  · exact h0 env w0 w S vals hv (fix _ rfl)
  · exact h1 env w0 w S vals hv (fix _ hp)

def gNoEsc : List SV → Option (SV × List Prop)
  | [.nv (.one a)] => some (.nv (.one a), [])
  | _ => none
def Gb0 : List (FuncId × Sp) := G0
theorem Gb0_ok : CtxOk Try.prog Gb0 := G0_ok
end Go.Proofs.Ytmhkbepnankopaa

/- Runs of Go code, as printed by a program: no condition beyond those that each states. -/
namespace Go.Proofs.Ytmhkbepnankopaa
set_option linter.unusedVariables false
set_option linter.unusedSimpArgs false
set_option maxRecDepth 100000
open Go.RowKit E
end Go.Proofs.Ytmhkbepnankopaa

/- Builders of texts: copyCheck as a specification. No condition. -/
namespace Go.Proofs.Ytmhkbepnankopaa
set_option linter.unusedVariables false
set_option linter.unusedSimpArgs false
open Go.RowKit E

theorem bytesR_strG (s : ByteArray) : bytesR s.size (strG s) := fun i hi => ⟨rfl, by
  show 0 ≤ byteAt s i ∧ byteAt s i < 256
  unfold byteAt
  have := ((s.data.toList.getD (i : Int).toNat 0)).toNat_lt
  omega⟩
theorem rowStr_strG (s : ByteArray) : rowStr s.size (strG s) = s := by
  apply ints_ext
  have h : byteR s.size (fun k => byteAt s k) := fun i hi => (bytesR_strG s i hi).2
  rw [show rowStr s.size (strG s) = bstr s.size (fun k => byteAt s k) from rfl, ints_bstr h]
  apply List.ext_getElem?
  intro i
  rw [List.getElem?_map]
  by_cases e : i < s.size
  · rw [List.getElem?_range e]
    have := byteAt_ints s i
    rw [List.getD_eq_getElem?_getD, List.getElem?_eq_getElem (by rw [ints_len]; exact e)] at this
    rw [List.getElem?_eq_getElem (by rw [ints_len]; exact e)]
    simpa using this
  · rw [List.getElem?_eq_none (by simpa using e), List.getElem?_eq_none (by rw [ints_len]; omega)]
    rfl
def bldAt (mem : List Seg) (h : Nat) : Option (Nat × (Nat → Int)) :=
  match mem[h]? with
  | some s => match boxCells s with
    | some [_, b] => match srcOf mem 1 b with
      | some (n, g, _) => some (n, fun k => cellN (g k))
      | none => none
    | _ => none
  | none => none
def Gb1 : List (FuncId × Sp) := Gb0
theorem Gb1_ok : CtxOk Try.prog Gb1 := Gb0_ok
end Go.Proofs.Ytmhkbepnankopaa

/- Runs of Go code, as printed by a program: no condition beyond those that each states. -/
namespace Go.Proofs.Ytmhkbepnankopaa
set_option linter.unusedVariables false
set_option linter.unusedSimpArgs false
set_option maxRecDepth 100000
open Go.RowKit E
end Go.Proofs.Ytmhkbepnankopaa

/- Builders of texts: writing, and what was written; texts copied: specifications. No condition. -/
namespace Go.Proofs.Ytmhkbepnankopaa
set_option linter.unusedVariables false
set_option linter.unusedSimpArgs false
open Go.RowKit E

def gScl : List SV → Option (SV × List Prop)
  | [.nv (.one (.val (.string s)))] => some (.nv (.one (.val (.string s))), [s.size ≤ 140737488355328])
  | _ => none
def Gb2 : List (FuncId × Sp) := Gb1
theorem Gb2_ok : CtxOk Try.prog Gb2 := Gb1_ok
end Go.Proofs.Ytmhkbepnankopaa

/- bits.Len64 as a specification. No condition. -/
namespace Go.Proofs.Ytmhkbepnankopaa
set_option linter.unusedVariables false
set_option linter.unusedSimpArgs false
set_option maxRecDepth 100000
open Go.RowKit E Go.Proofs Go.Shelf

def rho : Ren := ⟨fun _ => 42, fun n => match n with | 3 => 3 | 4 => 4 | 5 => 5 | 9 => 9 | 46 => 88 | 53 => 22 | _ => 0, fun n => n⟩
theorem laysLen : Lays.n129 Try.prog rho where
  mixed := by kernel_rfl
  f129 := by kernel_rfl
  t3 := by kernel_rfl
  a3 := fun _ => by kernel_rfl
  z3 := fun _ => by kernel_rfl
  v3 := fun _ => by kernel_rfl
  t4 := by kernel_rfl
  a4 := fun _ => by kernel_rfl
  z4 := fun _ => by kernel_rfl
  v4 := fun _ => by kernel_rfl
  t5 := by kernel_rfl
  a5 := fun _ => by kernel_rfl
  z5 := fun _ => by kernel_rfl
  v5 := fun _ => by kernel_rfl
  t9 := by kernel_rfl
  a9 := fun _ => by kernel_rfl
  z9 := fun _ => by kernel_rfl
  v9 := fun _ => by kernel_rfl
  t46 := by kernel_rfl
  a46 := fun _ => by kernel_rfl
  z46 := fun _ => by kernel_rfl
  v46 := fun _ => by kernel_rfl
  t53 := by kernel_rfl
  a53 := fun _ => by kernel_rfl
  z53 := fun _ => by kernel_rfl
  v53 := fun _ => by kernel_rfl
def gLen64 : List SV → Option (SV × List Prop)
  | [.nv (.one (.val (.int .u64 x)))] => some (iA (Lib.bitLen x.toNat : Nat), [0 ≤ x, x ≤ 18446744073709551615])
  | _ => none
theorem spLen64 : SpOk Try.prog 42 (pureS gLen64) := pureS_ok (by
  intro args r obl h ho
  unfold gLen64 at h
  split at h
  · rename_i x
    simp only [Option.some.injEq, Prod.mk.injEq] at h
    obtain ⟨rfl, rfl⟩ := h
    refine ⟨rfl, rfl, ?_⟩
    intro vals w hv
    match vals, hv with
    | [v], hv =>
      obtain rfl : v = .int .u64 x := hv.1
      refine (Any.bits_Len64 laysLen x w ho.1 ho.2.1).mono ?_
      rintro e w' ⟨rfl, rfl⟩
      exact ⟨_, rfl, rfl, Ext.refl _⟩
  · cases h)
theorem bl_aux : ∀ f k x, x < 2 ^ f → (Go.Lib.bitLenAux f x ≤ k ↔ x < 2 ^ k)
  | 0, k, x, h => by
    have : x = 0 := by simpa using h
    subst this
    exact ⟨fun _ => Nat.pow_pos (by omega), fun _ => Nat.zero_le _⟩
  | f + 1, k, x, h => by
    unfold Go.Lib.bitLenAux
    by_cases e : x = 0
    · subst e
      rw [if_pos rfl]
      exact ⟨fun _ => Nat.pow_pos (by omega), fun _ => Nat.zero_le _⟩
    · rw [if_neg e]
      cases k with
      | zero => simp; omega
      | succ k =>
        have := bl_aux f k (x / 2) (by rw [Nat.pow_succ] at h; omega)
        rw [Nat.pow_succ]
        omega
theorem bl_le {x : Nat} (k : Nat) (h : x < 18446744073709551616) : Go.Lib.bitLen x ≤ k ↔ x < 2 ^ k := bl_aux 64 k x (by simpa using h)
def Gb3 : List (FuncId × Sp) := (42, pureS gLen64) :: Gb2
theorem Gb3_ok : CtxOk Try.prog Gb3 := ctx_cons (enter_of Try.func42 (by kernel_rfl) (by kernel_rfl)) spLen64 Gb2_ok
end Go.Proofs.Ytmhkbepnankopaa

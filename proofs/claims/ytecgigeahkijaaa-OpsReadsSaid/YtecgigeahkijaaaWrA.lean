/- Rows of bytes, and builders of texts: what the runs of wire need. No condition. -/
import Derived.Test.YtecgigeahkijaaaEC
import Derived.Test.YtecgigeahkijaaaChecked
import Derived.KernelRfl
import Derived.Laws.Externs
namespace Go.Proofs.Ytecgigeahkijaaa
set_option linter.unusedVariables false
set_option linter.unusedSimpArgs false
open Go.RowKit E

/-- a row of bytes, as numbers -/
abbrev gB (F : Nat → Int) : Nat → List At := fun k => [.val (.int .u8 (F k))]
/-- behind n of the one come those of a list -/
def catF (n : Nat) (F : Nat → Int) (L : List Int) : Nat → Int := fun k => if k < n then F k else L.getD (k - n) 0
def lF (L : List Int) : Nat → Int := fun k => L.getD k 0
def bstr (n : Nat) (F : Nat → Int) : ByteArray := ⟨((List.range n).map fun i => UInt8.ofNat (F i).toNat).toArray⟩
def byteR (n : Nat) (F : Nat → Int) : Prop := ∀ i, i < n → 0 ≤ F i ∧ F i < 256
/-- a text's bytes, as numbers -/
def ints (s : ByteArray) : List Int := s.data.toList.map fun b => (b.toNat : Int)
abbrev bldM (n : Nat) (F : Nat → Int) : List Seg := [.box 52 [.optr 0, .own 1], .row 5 1 n (gB F)]
abbrev bldP (n : Nat) (F : Nat → Int) : List Seg := [.box 52 [.optr 0, .own 2], .gone, .row 5 1 n (gB F)]
theorem ints_len (s : ByteArray) : (ints s).length = s.size := by simp [ints]
theorem byteAt_ints (s : ByteArray) (k : Nat) : byteAt s k = (ints s).getD k 0 := by
  unfold byteAt ints
  rw [Int.toNat_natCast, List.getD_eq_getElem?_getD, List.getD_eq_getElem?_getD, List.getElem?_map]
  cases s.data.toList[k]? <;> rfl
theorem cat_one (n : Nat) (F : Nat → Int) (c : Int) (i : Nat) (hi : i < n + 1) : (if i = n then c else F i) = catF n F [c] i := by
  unfold catF
  by_cases e : i = n
  · subst e; rw [if_pos rfl, if_neg (Nat.lt_irrefl i)]; simp
  · rw [if_neg e, if_pos (by omega)]
theorem lF_cat (L M : List Int) (i : Nat) : catF L.length (lF L) M i = lF (L ++ M) i := by
  unfold catF lF
  simp only [List.getD_eq_getElem?_getD]
  by_cases h : i < L.length
  · rw [if_pos h, List.getElem?_append_left h]
  · rw [if_neg h, List.getElem?_append_right (by omega)]
theorem catF_cat (n : Nat) (F : Nat → Int) (L M : List Int) (i : Nat) : catF (n + L.length) (catF n F L) M i = catF n F (L ++ M) i := by
  unfold catF
  simp only [List.getD_eq_getElem?_getD]
  by_cases h : i < n
  · rw [if_pos (by omega), if_pos h, if_pos h]
  · rw [if_neg h, if_neg h]
    by_cases h2 : i < n + L.length
    · rw [if_pos h2, List.getElem?_append_left (by omega)]
    · rw [if_neg h2, List.getElem?_append_right (by omega), show i - n - L.length = i - (n + L.length) by omega]
theorem bstr_eq (n : Nat) (F : Nat → Int) : rowStr n (gB F) = bstr n F := rfl
theorem bstr_size (n : Nat) (F : Nat → Int) : (bstr n F).size = n := by
  show (bstr n F).data.size = n
  simp [bstr]
theorem ints_bstr {n : Nat} {F : Nat → Int} (h : byteR n F) : ints (bstr n F) = (List.range n).map F := by
  unfold ints bstr
  simp only [List.map_map]
  apply List.map_congr_left
  intro i hi
  have := h i (List.mem_range.1 hi)
  simp only [Function.comp_apply, UInt8.toNat_ofNat']
  omega
theorem ints_ext {s t : ByteArray} (h : ints s = ints t) : s = t := by
  apply bytes_ext
  unfold ints at h
  have inj : ∀ l m : List UInt8, (l.map fun b => (b.toNat : Int)) = (m.map fun b => (b.toNat : Int)) → l = m := by
    intro l
    induction l with
    | nil => intro m h; cases m with
      | nil => rfl
      | cons _ _ => cases h
    | cons a l ih => intro m h; cases m with
      | nil => cases h
      | cons b m =>
        simp only [List.map_cons, List.cons.injEq] at h
        rw [ih m h.2, UInt8.toNat_inj.1 (Int.ofNat_inj.1 h.1)]
  exact inj _ _ h
theorem bytesR_gB {n : Nat} {F : Nat → Int} (h : byteR n F) : bytesR n (gB F) := fun i hi => ⟨rfl, h i hi⟩

/-- A box whose first cell is nothing, or the box's own address: each of both. -/
theorem fn_optr {P : Program} {f : FuncId} {args : List SV} {t : TypeId} {l : List At} {m m' : List Seg} {r : SV} (h0 : FnOk P f args (.box t (.val (.pointer none) :: l) :: m) r m') (h1 : FnOk P f args (.box t (.ptr 0 0 :: l) :: m) r m') :
    FnOk P f args (.box t (.optr 0 :: l) :: m) r m' := by
  intro env w0 w S vals hv hm
  obtain ⟨b, cs, e1, e2, e3⟩ := hm.ok 0 _ rfl
  have hc : ∃ v vs, cs.toList = v :: vs ∧ At.rel env (.optr 0) v := by
    match hc : cs.toList, e3 with
    | v :: vs, e3 => exact ⟨v, vs, rfl, e3.1⟩
    | [], e3 => exact e3.elim
  obtain ⟨v, vs, hcs, hv0⟩ := hc
  have fix : ∀ a' : At, a'.rel env v → MemOk env (.box t (a' :: l) :: m) w0 w S := by
    intro a' ha
    have get : ∀ k s, (Seg.box t (a' :: l) :: m)[k]? = some s → (k = 0 ∧ s = .box t (a' :: l)) ∨ (k ≠ 0 ∧ (Seg.box t (.optr 0 :: l) :: m)[k]? = some s) := by
      intro k s hk
      cases k with
      | zero => simp at hk; exact .inl ⟨rfl, hk.symm⟩
      | succ k => exact .inr ⟨by omega, by simpa using hk⟩
    refine ⟨?_, ?_, ?_, ?_, hm.os, hm.tape, hm.output, hm.grow, hm.frame⟩
    · intro k s hk
      rcases get k s hk with ⟨rfl, rfl⟩ | ⟨_, hk⟩
      · refine ⟨b, cs, e1, e2, ?_⟩
        rw [hcs] at e3 ⊢
        exact ⟨ha, e3.2⟩
      · exact hm.ok k s hk
    · intro k hk; exact hm.top k (by simpa using hk)
    · intro j k s u b hj hk hne hx hl hb
      rcases get j s hj with ⟨rfl, rfl⟩ | ⟨_, hj⟩ <;> rcases get k u hk with ⟨rfl, rfl⟩ | ⟨_, hk⟩
      · exact absurd rfl hne
      · exact hm.sep 0 k (.box t (.optr 0 :: l)) u b rfl hk hne rfl hl hb
      · exact hm.sep j 0 s (.box t (.optr 0 :: l)) b hj rfl hne hx trivial hb
      · exact hm.sep j k s u b hj hk hne hx hl hb
    · intro k s b hk hx hb
      rcases get k s hk with ⟨rfl, rfl⟩ | ⟨_, hk⟩
      · exact hm.own 0 (.box t (.optr 0 :: l)) b rfl rfl hb
      · exact hm.own k s b hk hx hb
  rcases hv0 with rfl | hp
  · exact h0 env w0 w S vals hv (fix _ rfl)
  · exact h1 env w0 w S vals hv (fix _ hp)

def gNoEsc : List SV → Option (SV × List Prop)
  | [.nv (.one a)] => some (.nv (.one a), [])
  | _ => none
theorem exNoEsc : ExtOk Try.prog 37 (pureS gNoEsc) := by
  refine ⟨gNoEsc, rfl, fun args r obl h ho env vals hv w => ?_⟩
  unfold gNoEsc at h
  split at h
  · simp only [Option.some.injEq, Prod.mk.injEq] at h
    obtain ⟨rfl, rfl⟩ := h
    match vals, hv with
    | [x], hv =>
      refine ⟨x, ?_, hv.1⟩
      rw [run_callFunc_extern Try.func37 (by kernel_rfl) (by kernel_rfl) (by kernel_rfl) (e := Extern.AbiNoEscape.same) (by kernel_rfl)]
      rfl
  · cases h
def Gb0 : List (FuncId × Sp) := (37, pureS gNoEsc) :: G0
theorem Gb0_ok : CtxOk Try.prog Gb0 := ctx_ext exNoEsc G0_ok
end Go.Proofs.Ytecgigeahkijaaa

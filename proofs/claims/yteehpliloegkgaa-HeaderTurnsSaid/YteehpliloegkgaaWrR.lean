/- Runs of Go code, as printed by a program: no condition beyond those that each states. -/
import Derived.Test.YteehpliloegkgaaWrL
import Derived.Test.YteehpliloegkgaaChecked
import Derived.KernelRfl
namespace Go.Proofs.Yteehpliloegkgaa
set_option linter.unusedVariables false
set_option linter.unusedSimpArgs false
set_option maxRecDepth 100000
open Go.RowKit E
end Go.Proofs.Yteehpliloegkgaa

/- wire: put as a specification. No condition. -/
namespace Go.Proofs.Yteehpliloegkgaa
set_option linter.unusedVariables false
set_option linter.unusedSimpArgs false
open Go.RowKit E

theorem hiL_len : ∀ w n, (hiL w n).length = w
  | 0, n => rfl
  | w + 1, n => by unfold hiL; simp [hiL_len w]
theorem putL_len {f : Fl} (hs : f.s.size ≤ 65535) : (putL f).length ≤ 65545 := by
  unfold putL
  have := varL_len 9 f.n
  have := varL_len 9 f.s.size
  have := widthZ_bd f.k
  split
  · omega
  · split
    · simp [ints_len]; omega
    · rw [hiL_len]; omega
theorem wrap8 (x : Int) : IntKind.u8.wrap x = x % 256 := by
  simp [IntKind.wrap, IntKind.signed, IntKind.bits]
theorem pow_2_8 (i : Nat) : ((2 : Int) ^ (8 * i)) = 256 ^ i := by rw [Int.pow_mul]; rfl
def Gb7 : List (FuncId × Sp) := Gb6
theorem Gb7_ok : CtxOk Try.prog Gb7 := Gb6_ok
end Go.Proofs.Yteehpliloegkgaa

/- wire: the bytes of fields. No condition. -/
namespace Go.Proofs.Yteehpliloegkgaa
set_option linter.unusedVariables false
set_option linter.unusedSimpArgs false
open Go.RowKit E
/-- The bytes of the first i fields. -/
def putAll (L : Nat → Fl) : Nat → List Int
  | 0 => []
  | i + 1 => putAll L i ++ putL (L i)
/-- What is wrong with the first bad one of the first i fields. -/
def badZ (L : Nat → Fl) : Nat → Int
  | 0 => 0
  | i + 1 => if badZ L i = 0 then ckZ (L i) else badZ L i
abbrev sA (s : ByteArray) : SV := .nv (.one (.val (.string s)))
abbrev puX (len : Nat) (L : Nat → Fl) (c : Int) : St := mkSt 23 [(2, sA ⟨#[]⟩), (3, iA c)] [.ro 3 len (gF L)]
theorem ckZ_ok {f : Fl} (h : ckZ f = 0) : f.s.size ≤ 65535 ∧ (widthZ f.k ≠ 0 ∨ f.k = 5 ∨ f.k = 6) ∧ (f.k ≠ 6 → f.s.size = 0) ∧ (f.k = 6 → f.n = 0) ∧ (widthZ f.k > 0 → f.n < (2 ^ (8 * (widthZ f.k).toNat) : Nat)) := by
  unfold ckZ at h
  split at h
  · omega
  · rename_i h1
    split at h
    · omega
    · rename_i h2
      split at h
      · omega
      · rename_i h3
        split at h
        · omega
        · refine ⟨by omega, by omega, by omega, by omega, fun q => ?_⟩
          by_cases w : f.n < (2 ^ (8 * (widthZ f.k).toNat) : Nat)
          · exact w
          · exact absurd ⟨q, w⟩ h3
theorem putL_pos {f : Fl} (h : ckZ f = 0) : 1 ≤ (putL f).length := by
  have hk := (ckZ_ok h).2.1
  have := widthZ_bd f.k
  have := varL_pos 9 f.n
  have := varL_pos 9 f.s.size
  unfold putL
  split
  · omega
  · split
    · simp; omega
    · rw [hiL_len]; omega
end Go.Proofs.Yteehpliloegkgaa

/- Runs of Go code, as printed by a program: no condition beyond those that each states. -/
namespace Go.Proofs.Yteehpliloegkgaa
set_option linter.unusedVariables false
set_option linter.unusedSimpArgs false
set_option maxRecDepth 100000
open Go.RowKit E
end Go.Proofs.Yteehpliloegkgaa

/- wire: Put as a specification. No condition. -/
namespace Go.Proofs.Yteehpliloegkgaa
set_option linter.unusedVariables false
set_option linter.unusedSimpArgs false
open Go.RowKit E

def strL (l : List Int) : ByteArray := bstr l.length (lF l)
def putStr (L : Nat → Fl) (n : Nat) : ByteArray := if badZ L n = 0 then strL (putAll L n) else .empty
theorem badZ_at {L : Nat → Fl} : ∀ {n : Nat}, badZ L n ≠ 0 → ∃ p, p < n ∧ badZ L p = 0 ∧ ckZ (L p) = badZ L n
  | 0, h => absurd rfl h
  | n + 1, h => by
    by_cases e : badZ L n = 0
    · exact ⟨n, by omega, e, by rw [badZ, if_pos e]⟩
    · obtain ⟨p, h1, h2, h3⟩ := badZ_at e
      exact ⟨p, by omega, h2, by rw [badZ, if_neg e]; exact h3⟩
theorem badZ_low {L : Nat → Fl} : ∀ {n : Nat}, badZ L n = 0 → ∀ i, i < n → badZ L i = 0 ∧ ckZ (L i) = 0
  | 0, h, i, hi => absurd hi (Nat.not_lt_zero i)
  | n + 1, h, i, hi => by
    by_cases e : badZ L n = 0
    · rw [badZ, if_pos e] at h
      by_cases q : i = n
      · subst q; exact ⟨e, h⟩
      · exact badZ_low e i (by omega)
    · rw [badZ, if_neg e] at h; exact absurd h e
theorem putAll_len {L : Nat → Fl} : ∀ {n : Nat}, badZ L n = 0 → (putAll L n).length ≤ n * 65545 ∧ n ≤ (putAll L n).length
  | 0, _ => ⟨Nat.le_refl _, Nat.le_refl _⟩
  | n + 1, h => by
    obtain ⟨h1, h2⟩ := badZ_low h n (Nat.lt_succ_self n)
    have := putAll_len h1
    have := putL_len (ckZ_ok h2).1
    have := putL_pos h2
    rw [putAll, List.length_append]
    omega
def inB (l : List Int) : Prop := ∀ x ∈ l, 0 ≤ x ∧ x < 256
theorem inB_app {l m : List Int} : inB l → inB m → inB (l ++ m) := fun h k x hx => (List.mem_append.1 hx).elim (h x) (k x)
theorem inB_lF {l : List Int} (h : inB l) : byteR l.length (lF l) := fun i hi => by
  unfold lF
  rw [List.getD_eq_getElem?_getD, List.getElem?_eq_getElem hi]
  exact h _ (List.getElem_mem hi)
theorem inB_var : ∀ f (n : Int), 0 ≤ n → n < 2 * 128 ^ f → inB (varL f n)
  | 0, n, h0, h1 => fun x hx => by simp [varL] at hx; subst hx; omega
  | f + 1, n, h0, h1 => fun x hx => by
    rw [Int.pow_succ] at h1
    by_cases q : 128 ≤ n
    · rw [varL_go q] at hx
      rcases List.mem_cons.1 hx with rfl | hx
      · omega
      · exact inB_var f (n / 128) (by omega) (by omega) x hx
    · rw [varL_end q] at hx; simp at hx; subst hx; omega
theorem inB_hi : ∀ w (n : Int), inB (hiL w n)
  | 0, n => fun x hx => by simp [hiL] at hx
  | w + 1, n => inB_app (inB_hi w _) (fun x hx => by simp at hx; subst hx; omega)
theorem inB_ints (s : ByteArray) : inB (ints s) := fun x hx => by
  unfold ints at hx
  obtain ⟨b, _, rfl⟩ := List.mem_map.1 hx
  have := b.toNat_lt
  omega
theorem inB_put {f : Fl} (h : ckZ f = 0) (hf : f.wf) : inB (putL f) := by
  have hs := (ckZ_ok h).1
  unfold putL
  split
  · exact inB_var 9 f.n hf.1 (by have := hf.2; omega)
  · split
    · exact inB_app (inB_var 9 _ (by omega) (by omega)) (inB_ints _)
    · exact inB_hi _ _
theorem inB_all {L : Nat → Fl} : ∀ {n : Nat}, badZ L n = 0 → (∀ i, i < n → (L i).wf) → inB (putAll L n)
  | 0, _, _ => fun x hx => by simp [putAll] at hx
  | n + 1, h, hw => inB_app (inB_all (badZ_low h n (Nat.lt_succ_self n)).1 (fun i hi => hw i (by omega))) (inB_put (badZ_low h n (Nat.lt_succ_self n)).2 (hw n (by omega)))
def gPut : List SV → List Seg → Option (CS × List Prop)
  | [.nv (.one a)], mem => match srcOf mem 3 a with
    | some (n, g, _) => some (⟨[.nv (.one (.own 0))], [.ro 3 n (gF (flOf g))], .tup [.one (.val (.string (putStr (flOf g) n))), .one (.val (.int .i64 (badZ (flOf g) n)))], [.ro 3 n (gF (flOf g))]⟩, [n ≤ 1000, ∀ i, i < n → (flOf g i).wf])
    | none => none
  | _, _ => none
def Gb8 : List (FuncId × Sp) := Gb7
theorem Gb8_ok : CtxOk Try.prog Gb8 := Gb7_ok
end Go.Proofs.Yteehpliloegkgaa

/- wire: the document's bytes of numbers: as far as so many. No condition. -/
namespace Go.Proofs.Yteehpliloegkgaa
set_option linter.unusedVariables false
set_option linter.unusedSimpArgs false
open Go.RowKit E

theorem strL_ints {l : List Int} (h : inB l) : ints (strL l) = l := by
  unfold strL
  rw [ints_bstr (inB_lF h)]
  apply List.ext_getElem?
  intro i
  rw [List.getElem?_map]
  by_cases e : i < l.length
  · rw [List.getElem?_range e, List.getElem?_eq_getElem e]
    simp [lF, List.getD_eq_getElem?_getD, List.getElem?_eq_getElem e]
  · rw [List.getElem?_eq_none (by simpa using e), List.getElem?_eq_none (by omega)]; rfl
theorem ints_app (a b : ByteArray) : ints (a ++ b) = ints a ++ ints b := by unfold ints; rw [app_toList, List.map_append]
theorem strL_app {a b : List Int} (ha : inB a) (hb : inB b) : strL (a ++ b) = strL a ++ strL b :=
  ints_ext (by rw [ints_app, strL_ints (inB_app ha hb), strL_ints ha, strL_ints hb])
theorem strL_str (s : ByteArray) : strL (ints s) = s := ints_ext (strL_ints (inB_ints s))
theorem strL_size (l : List Int) : (strL l).size = l.length := bstr_size _ _
theorem row_one (g : Nat → List At) (x : Int) (h : cellN (g 0) = x) (hx : 0 ≤ x ∧ x < 256) : rowStr 1 g = strL [x] := by
  apply ints_ext
  rw [strL_ints (fun y hy => by simp at hy; subst hy; exact hx)]
  have : rowStr 1 g = bstr 1 (fun i => cellN (g i)) := rfl
  rw [this, ints_bstr (fun i hi => by have : i = 0 := by omega
                                      subst this; rw [h]; exact hx)]
  simp [h]
theorem row_lit {x y : Int} (h : x = y) (hy : 0 ≤ y ∧ y < 256) : rowStr 1 (litG 1 [.val (.int .u8 x)]) = strL [y] := row_one _ y h hy
theorem bytes_lit (x : Int) : bytesG 1 (litG 1 [.val (.int .u8 x)]) := fun i hi => by
  have e : i = 0 := by omega
  subst e; rfl
def gHighN (N : Nat) : List SV → Option (SV × List Prop)
  | [.nv (.one (.val (.int .u64 n))), .nv (.one (.val (.int .i64 w)))] => some (sA (strL (hiL w.toNat n)), [0 ≤ n, n ≤ 18446744073709551615, 0 ≤ w, w.toNat ≤ N, w ≤ 8])
  | _ => none
def Ghi (N : Nat) : List (FuncId × Sp) := (36, pureS (gHighN N)) :: Gb8
theorem Ghi_ok (N : Nat) (ih : SpOk Try.prog 36 (pureS (gHighN N))) : CtxOk Try.prog (Ghi N) := ctx_cons (enter_of Try.func36 (by kernel_rfl) (by kernel_rfl)) ih Gb8_ok
def gFewN (N : Nat) : List SV → Option (SV × List Prop)
  | [.nv (.one (.val (.int .u64 n)))] => some (sA (strL (varL N n)), [0 ≤ n, n ≤ 18446744073709551615, n < 2 * 128 ^ N, N ≤ 100])
  | _ => none
def Gfew (N : Nat) : List (FuncId × Sp) := (35, pureS (gFewN N)) :: Gb8
theorem Gfew_ok (N : Nat) (ih : SpOk Try.prog 35 (pureS (gFewN N))) : CtxOk Try.prog (Gfew N) := ctx_cons (enter_of Try.func35 (by kernel_rfl) (by kernel_rfl)) ih Gb8_ok
theorem tdiv_e {n : Int} (h : 0 ≤ n) (k : Int) : Int.tdiv n k = n / k := Int.tdiv_eq_ediv_of_nonneg h
theorem tmod_e {n : Int} (h : 0 ≤ n) (k : Int) : Int.tmod n k = n % k := Int.tmod_eq_emod_of_nonneg h
end Go.Proofs.Yteehpliloegkgaa

/- wire: the bytes of fields. No condition. -/
import Derived.Test.YtecgigeahkijaaaWrN
namespace Go.Proofs.Ytecgigeahkijaaa
set_option linter.unusedVariables false
set_option linter.unusedSimpArgs false
open Go.RowKit E
/-- The bytes of the first i fields. -/
def putAll (L : Nat → Fl) : Nat → List Int
  | 0 => []
  | i + 1 => putAll L i ++ putL (L i)
/-- What is wrong with the first bad one of the first i fields. -/
def badZ (L : Nat → Fl) : Nat → Int
  | 0 => 0
  | i + 1 => if badZ L i = 0 then ckZ (L i) else badZ L i
abbrev puS (len : Nat) (L : Nat → Fl) (i n : Nat) (F : Nat → Int) : St := mkSt 23 [(4, .nv (.one (.ptr 1 0))), (8, .nv (.one (.own 0))), (9, iA len), (10, iA i)] [.ro 3 len (gF L), .box 52 [.optr 1, .own 2], .row 5 1 n (gB F)]
abbrev puE (len : Nat) (L : Nat → Fl) (n : Nat) (F : Nat → Int) : St := mkSt 23 [(4, .nv (.one (.ptr 1 0)))] [.ro 3 len (gF L), .box 52 [.optr 1, .own 2], .row 5 1 n (gB F)]
abbrev sA (s : ByteArray) : SV := .nv (.one (.val (.string s)))
abbrev puX (len : Nat) (L : Nat → Fl) (c : Int) : St := mkSt 23 [(2, sA ⟨#[]⟩), (3, iA c)] [.ro 3 len (gF L)]
theorem ckZ_ok {f : Fl} (h : ckZ f = 0) : f.s.size ≤ 65535 ∧ (widthZ f.k ≠ 0 ∨ f.k = 5 ∨ f.k = 6) ∧ (f.k ≠ 6 → f.s.size = 0) ∧ (f.k = 6 → f.n = 0) ∧ (widthZ f.k > 0 → f.n < (2 ^ (8 * (widthZ f.k).toNat) : Nat)) := by
  unfold ckZ at h
  split at h
  · omega
  · rename_i h1
    split at h
    · omega
    · rename_i h2
      split at h
      · omega
      · rename_i h3
        split at h
        · omega
        · refine ⟨by omega, by omega, by omega, by omega, fun q => ?_⟩
          by_cases w : f.n < (2 ^ (8 * (widthZ f.k).toNat) : Nat)
          · exact w
          · exact absurd ⟨q, w⟩ h3
theorem putL_pos {f : Fl} (h : ckZ f = 0) : 1 ≤ (putL f).length := by
  have hk := (ckZ_ok h).2.1
  have := widthZ_bd f.k
  have := varL_pos 9 f.n
  have := varL_pos 9 f.s.size
  unfold putL
  split
  · omega
  · split
    · simp; omega
    · rw [hiL_len]; omega
end Go.Proofs.Ytecgigeahkijaaa

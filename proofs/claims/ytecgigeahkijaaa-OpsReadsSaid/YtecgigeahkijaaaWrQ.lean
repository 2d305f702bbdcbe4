/- wire: Put as a specification. No condition. -/
import Derived.Test.YtecgigeahkijaaaWrP
namespace Go.Proofs.Ytecgigeahkijaaa
set_option linter.unusedVariables false
set_option linter.unusedSimpArgs false
open Go.RowKit E

def strL (l : List Int) : ByteArray := bstr l.length (lF l)
def putStr (L : Nat → Fl) (n : Nat) : ByteArray := if badZ L n = 0 then strL (putAll L n) else .empty
theorem badZ_at {L : Nat → Fl} : ∀ {n : Nat}, badZ L n ≠ 0 → ∃ p, p < n ∧ badZ L p = 0 ∧ ckZ (L p) = badZ L n
  | 0, h => absurd rfl h
  | n + 1, h => by
    by_cases e : badZ L n = 0
    · exact ⟨n, by omega, e, by rw [badZ, if_pos e]⟩
    · obtain ⟨p, h1, h2, h3⟩ := badZ_at e
      exact ⟨p, by omega, h2, by rw [badZ, if_neg e]; exact h3⟩
theorem badZ_low {L : Nat → Fl} : ∀ {n : Nat}, badZ L n = 0 → ∀ i, i < n → badZ L i = 0 ∧ ckZ (L i) = 0
  | 0, h, i, hi => absurd hi (Nat.not_lt_zero i)
  | n + 1, h, i, hi => by
    by_cases e : badZ L n = 0
    · rw [badZ, if_pos e] at h
      by_cases q : i = n
      · subst q; exact ⟨e, h⟩
      · exact badZ_low e i (by omega)
    · rw [badZ, if_neg e] at h; exact absurd h e
theorem putAll_len {L : Nat → Fl} : ∀ {n : Nat}, badZ L n = 0 → (putAll L n).length ≤ n * 65545 ∧ n ≤ (putAll L n).length
  | 0, _ => ⟨Nat.le_refl _, Nat.le_refl _⟩
  | n + 1, h => by
    obtain ⟨h1, h2⟩ := badZ_low h n (Nat.lt_succ_self n)
    have := putAll_len h1
    have := putL_len (ckZ_ok h2).1
    have := putL_pos h2
    rw [putAll, List.length_append]
    omega
def inB (l : List Int) : Prop := ∀ x ∈ l, 0 ≤ x ∧ x < 256
theorem inB_app {l m : List Int} : inB l → inB m → inB (l ++ m) := fun h k x hx => (List.mem_append.1 hx).elim (h x) (k x)
theorem inB_lF {l : List Int} (h : inB l) : byteR l.length (lF l) := fun i hi => by
  unfold lF
  rw [List.getD_eq_getElem?_getD, List.getElem?_eq_getElem hi]
  exact h _ (List.getElem_mem hi)
theorem inB_var : ∀ f (n : Int), 0 ≤ n → n < 2 * 128 ^ f → inB (varL f n)
  | 0, n, h0, h1 => fun x hx => by simp [varL] at hx; subst hx; omega
  | f + 1, n, h0, h1 => fun x hx => by
    rw [Int.pow_succ] at h1
    by_cases q : 128 ≤ n
    · rw [varL_go q] at hx
      rcases List.mem_cons.1 hx with rfl | hx
      · omega
      · exact inB_var f (n / 128) (by omega) (by omega) x hx
    · rw [varL_end q] at hx; simp at hx; subst hx; omega
theorem inB_hi : ∀ w (n : Int), inB (hiL w n)
  | 0, n => fun x hx => by simp [hiL] at hx
  | w + 1, n => inB_app (inB_hi w _) (fun x hx => by simp at hx; subst hx; omega)
theorem inB_ints (s : ByteArray) : inB (ints s) := fun x hx => by
  unfold ints at hx
  obtain ⟨b, _, rfl⟩ := List.mem_map.1 hx
  have := b.toNat_lt
  omega
theorem inB_put {f : Fl} (h : ckZ f = 0) (hf : f.wf) : inB (putL f) := by
  have hs := (ckZ_ok h).1
  unfold putL
  split
  · exact inB_var 9 f.n hf.1 (by have := hf.2; omega)
  · split
    · exact inB_app (inB_var 9 _ (by omega) (by omega)) (inB_ints _)
    · exact inB_hi _ _
theorem inB_all {L : Nat → Fl} : ∀ {n : Nat}, badZ L n = 0 → (∀ i, i < n → (L i).wf) → inB (putAll L n)
  | 0, _, _ => fun x hx => by simp [putAll] at hx
  | n + 1, h, hw => inB_app (inB_all (badZ_low h n (Nat.lt_succ_self n)).1 (fun i hi => hw i (by omega))) (inB_put (badZ_low h n (Nat.lt_succ_self n)).2 (hw n (by omega)))
theorem fnPutAll (len : Nat) (L : Nat → Fl) (hl : len ≤ 1000) (hw : ∀ i, i < len → (L i).wf) :
    FnOk Try.prog 18 [.nv (.one (.own 0))] [.ro 3 len (gF L)] (.tup [.one (.val (.string (putStr L len))), .one (.val (.int .i64 (badZ L len)))]) [.ro 3 len (gF L)] := by
  by_cases hb : badZ L len = 0
  · unfold putStr
    rw [if_pos hb, hb]
    by_cases h0 : len = 0
    · subst h0; exact pu_0 L
    · have hpl := putAll_len hb
      refine pu_k len (putAll L len).length L (lF []) (lF (putAll L len)) (by omega) (inB_lF (inB_all hb hw)) ?_
      refine loop_ok (α := Nat) (fun i => puS len L i (putAll L i).length (lF (putAll L i))) (fun i => i ≤ len) (fun i => len - i) (by simp) ?_ (x := 0) (Nat.zero_le _)
      intro i hi
      by_cases e : i = len
      · subst e; exact .inr (pu_e i _ L _)
      · obtain ⟨h1, h2⟩ := badZ_low hb i (by omega)
        have hil := putAll_len h1
        have hf := hw i (by omega)
        obtain ⟨k1, k2, _⟩ := ckZ_ok h2
        have := Nat.mul_le_mul_right 65545 (show i ≤ 1000 by omega)
        exact .inl ⟨i + 1, (show i + 1 ≤ len by omega), (show len - (i + 1) < len - i by omega), pu_n len i _ _ L _ _ (by omega) hl hf.1 (by have := hf.2; omega) h2 k1 k2 (by omega) (by rw [putAll, List.length_append]) (fun j hj => lF_cat _ _ j)⟩
  · unfold putStr
    rw [if_neg hb]
    obtain ⟨p, hp, hp0, hpc⟩ := badZ_at hb
    refine pu_x len (badZ L len) L (lF []) ?_
    refine loop_ok (α := Nat) (fun i => puS len L i (putAll L i).length (lF (putAll L i))) (fun i => i ≤ p) (fun i => p - i) (by simp) ?_ (x := 0) (Nat.zero_le _)
    intro i hi
    have hf := hw i (by omega)
    by_cases e : i = p
    · subst e
      exact .inr (pu_r len i _ _ L _ hp hl hf.1 (by have := hf.2; omega) hpc hb)
    · obtain ⟨h1, h2⟩ := badZ_low hp0 i (by omega)
      have hil := putAll_len h1
      obtain ⟨k1, k2, _⟩ := ckZ_ok h2
      have := Nat.mul_le_mul_right 65545 (show i ≤ 1000 by omega)
      exact .inl ⟨i + 1, (show i + 1 ≤ p by omega), (show p - (i + 1) < p - i by omega), pu_n len i _ _ L _ _ (by omega) hl hf.1 (by have := hf.2; omega) h2 k1 k2 (by omega) (by rw [putAll, List.length_append]) (fun j hj => lF_cat _ _ j)⟩
def gPut : List SV → List Seg → Option (CS × List Prop)
  | [.nv (.one a)], mem => match srcOf mem 3 a with
    | some (n, g, _) => some (⟨[.nv (.one (.own 0))], [.ro 3 n (gF (flOf g))], .tup [.one (.val (.string (putStr (flOf g) n))), .one (.val (.int .i64 (badZ (flOf g) n)))], [.ro 3 n (gF (flOf g))]⟩, [n ≤ 1000, ∀ i, i < n → (flOf g i).wf])
    | none => none
  | _, _ => none
theorem spPut : SpOk Try.prog 18 (.lift gPut) := by
  intro args mem cs obl h ho
  unfold gPut at h
  split at h
  · split at h
    · simp only [Option.some.injEq, Prod.mk.injEq] at h
      obtain ⟨rfl, rfl⟩ := h
      exact fnPutAll _ _ ho.1 ho.2.1
    · cases h
  · cases h
def Gb8 : List (FuncId × Sp) := (18, .lift gPut) :: Gb7
theorem Gb8_ok : CtxOk Try.prog Gb8 := ctx_cons (enter_of Try.func18 (by kernel_rfl) (by kernel_rfl)) spPut Gb7_ok
end Go.Proofs.Ytecgigeahkijaaa

/- Twins: an entry rises. No condition. -/
import Derived.Test.YtakpokccjgoapaaTwD
namespace Go.Proofs.Ytakpokccjgoapaa
set_option linter.unusedVariables false
set_option linter.unusedSimpArgs false
open Go.RowKit E

section
variable {α : Type}
/-- An entry of a pair rises, in at most so many rounds. -/
def Tw.upL (n : Nat) : Nat → Nat → Tw α → Tw α
  | 0, _, T => T
  | f + 1, p, T => if p = 0 then T else if T.ah (2 * p) (2 * ((p - 1) / 2)) = true then Tw.upL n f ((p - 1) / 2) (T.swap (2 * p) (2 * ((p - 1) / 2)))
    else if T.ah (hiP n ((p - 1) / 2)) (hiP n p) = true then Tw.upL n f ((p - 1) / 2) (T.swap (hiP n p) (hiP n ((p - 1) / 2))) else T
/-- Does it stop below the top? -/
def Tw.upE (n : Nat) : Nat → Nat → Tw α → Bool
  | 0, _, T => false
  | f + 1, p, T => if p = 0 then false else if T.ah (2 * p) (2 * ((p - 1) / 2)) = true then Tw.upE n f ((p - 1) / 2) (T.swap (2 * p) (2 * ((p - 1) / 2)))
    else if T.ah (hiP n ((p - 1) / 2)) (hiP n p) = true then Tw.upE n f ((p - 1) / 2) (T.swap (hiP n p) (hiP n ((p - 1) / 2))) else true
def Tw.up0 (T : Tw α) (i : Nat) : Tw α := if i % 2 = 1 then (if T.ah i (i - 1) = true then T.swap i (i - 1) else T) else T
def Tw.up (T : Tw α) (n i : Nat) : Tw α := Tw.upL n (i / 2) (i / 2) (T.up0 i)
end
theorem half_eq {p : Nat} (h : 0 < p) (hp : p ≤ 100000) : IntKind.wrap IntKind.i64 (Int.tdiv (IntKind.wrap IntKind.i64 ((p : Int) - 1)) 2) = (((p - 1) / 2 : Nat) : Int) := by
  rw [show IntKind.wrap IntKind.i64 ((p : Int) - 1) = (p : Int) - 1 from w64 rfl (by omega), Int.tdiv_eq_ediv_of_nonneg (by omega)]
  exact w64 (by omega) (by omega)

theorem up_loopI (n : Nat) (hn : n ≤ 100000) (c m : Int) (R : Tw Int) (X : Bool) (f0 p0 : Nat) (T0 : Tw Int) (h0 : p0 ≤ f0) (h1 : 2 * p0 < n) (h2 : Tw.upL n f0 p0 T0 = R) (h3 : Tw.upE n f0 p0 T0 = X) :
    CodeOk Try.prog 2 (.loop (loopOf Try.f31 0)) (mkSt 93 [(0, .nv (.one (.ptr 0 0))), (4, iA p0)] (twMI n T0 c m)) (if X = true then .ret else .exit 0) (mkSt 93 [] (twMI n R c m)) := by
  refine loop_ok (α := Nat × Nat × Tw Int) (fun z => mkSt 93 [(0, .nv (.one (.ptr 0 0))), (4, iA z.2.1)] (twMI n z.2.2 c m))
    (fun z => z.2.1 ≤ z.1 ∧ 2 * z.2.1 < n ∧ Tw.upL n z.1 z.2.1 z.2.2 = R ∧ Tw.upE n z.1 z.2.1 z.2.2 = X) (fun z => z.2.1) (by split <;> simp) ?_ (x := (f0, p0, T0)) ⟨h0, h1, h2, h3⟩
  rintro ⟨f, p, T⟩ ⟨i0, i1, i2, i3⟩
  simp only at i0 i1 i2 i3
  by_cases hp : p = 0
  · subst hp
    refine .inr ?_
    have e1 : T = R := by cases f <;> simpa [Tw.upL] using i2
    have e2 : X = false := by cases f <;> simpa [Tw.upE] using i3.symm
    subst e1; subst e2
    exact up_eI n T c m
  · obtain ⟨f, rfl⟩ : ∃ g, f = g + 1 := ⟨f - 1, by omega⟩
    have l1 := hiP_lt (n := n) (p := p) (by omega)
    have l2 := hiP_lt (n := n) (p := (p - 1) / 2) (by omega)
    have hq := half_eq (p := p) (by omega) (by omega)
    simp only [Tw.upL, Tw.upE, if_neg hp] at i2 i3
    by_cases a : T.ah (2 * p) (2 * ((p - 1) / 2)) = true
    · rw [if_pos a] at i2 i3
      exact .inl ⟨(f, (p - 1) / 2, _), ⟨by simp only; omega, by simp only; omega, i2, i3⟩, (show (p - 1) / 2 < p by omega), up_aI n p ((p - 1) / 2) T c m (by omega) hn i1 hq (by omega) a l1 l2⟩
    · rw [if_neg a] at i2 i3
      by_cases b : T.ah (hiP n ((p - 1) / 2)) (hiP n p) = true
      · rw [if_pos b] at i2 i3
        exact .inl ⟨(f, (p - 1) / 2, _), ⟨by simp only; omega, by simp only; omega, i2, i3⟩, (show (p - 1) / 2 < p by omega), up_bI n p ((p - 1) / 2) T c m (by omega) hn i1 hq (by omega) (by simpa using a) b l1 l2⟩
      · rw [if_neg b] at i2 i3
        subst i2; subst i3
        exact .inr (up_dI n p ((p - 1) / 2) T c m (by omega) hn i1 hq (by omega) (by simpa using a) (by simpa using b) l1 l2)
theorem fnUpI (n i : Nat) (T : Tw Int) (c m : Int) (hi : i < n) (hn : n ≤ 100000) : FnOk Try.prog 31 [.nv (.one (.ptr 0 0)), iA i] (twMI n T c m) .any (twMI n (T.up n i) c m) := by
  have e0 : Int.tmod (i : Int) 2 = ((i % 2 : Nat) : Int) := by rw [Int.tmod_eq_emod_of_nonneg (by omega)]; omega
  have e2 : IntKind.wrap IntKind.i64 (Int.tdiv (i : Int) 2) = ((i / 2 : Nat) : Int) := by rw [Int.tdiv_eq_ediv_of_nonneg (by omega)]; exact w64 (by omega) (by omega)
  have l := up_loopI n hn c m _ _ (i / 2) (i / 2) (T.up0 i) (Nat.le_refl _) (by omega) rfl rfl
  unfold Tw.up
  generalize hR : Tw.upL n (i / 2) (i / 2) (T.up0 i) = R at *
  generalize Tw.upE n (i / 2) (i / 2) (T.up0 i) = X at *
  unfold Tw.up0 at l
  by_cases e : i % 2 = 1
  · have e1 : IntKind.wrap IntKind.i64 ((i : Int) - 1) = ((i - 1 : Nat) : Int) := w64 (by omega) (by omega)
    rw [if_pos e] at l
    by_cases h : T.ah i (i - 1) = true
    · rw [if_pos h] at l
      cases X
      · exact up_x3I n i T R c m hi hn e0 e2 (by omega) h e1 (by omega) l
      · exact up_r3I n i T R c m hi hn e0 e2 (by omega) h e1 (by omega) l
    · rw [if_neg h] at l
      cases X
      · exact up_x2I n i T R c m hi hn e0 e2 (by omega) (by simpa using h) e1 (by omega) l
      · exact up_r2I n i T R c m hi hn e0 e2 (by omega) (by simpa using h) e1 (by omega) l
  · rw [if_neg e] at l
    cases X
    · exact up_x1I n i T R c m hi hn e0 e2 (by omega) l
    · exact up_r1I n i T R c m hi hn e0 e2 (by omega) l
def gUpI : List SV → List Seg → Option (CS × List Prop)
  | [.nv (.one (.ptr h 0)), .nv (.one (.val (.int .i64 i)))], mem => match twAt mem h with
    | some (n, g, c, m) => some (⟨[.nv (.one (.ptr 0 0)), iA i], twMI n (twI g) c m, .any, twMI n ((twI g).up n i.toNat) c m⟩, [0 ≤ i, i.toNat < n, n ≤ 100000])
    | none => none
  | _, _ => none
theorem spUpI : SpOk Try.prog 31 (.lift gUpI) := by
  intro args mem cs obl h ho
  unfold gUpI at h
  split at h
  · split at h
    · simp only [Option.some.injEq, Prod.mk.injEq] at h
      obtain ⟨rfl, rfl⟩ := h
      obtain ⟨o1, o2, o3, _⟩ := ho
      obtain ⟨i, rfl⟩ := Int.eq_ofNat_of_zero_le o1
      exact fnUpI _ i _ _ _ o2 o3
    · cases h
  · cases h

theorem up_loopS (n : Nat) (hn : n ≤ 100000) (c m : Int) (R : Tw ByteArray) (X : Bool) (f0 p0 : Nat) (T0 : Tw ByteArray) (h0 : p0 ≤ f0) (h1 : 2 * p0 < n) (h2 : Tw.upL n f0 p0 T0 = R) (h3 : Tw.upE n f0 p0 T0 = X) :
    CodeOk Try.prog 2 (.loop (loopOf Try.f35 0)) (mkSt 93 [(0, .nv (.one (.ptr 0 0))), (4, iA p0)] (twMS n T0 c m)) (if X = true then .ret else .exit 0) (mkSt 93 [] (twMS n R c m)) := by
  refine loop_ok (α := Nat × Nat × Tw ByteArray) (fun z => mkSt 93 [(0, .nv (.one (.ptr 0 0))), (4, iA z.2.1)] (twMS n z.2.2 c m))
    (fun z => z.2.1 ≤ z.1 ∧ 2 * z.2.1 < n ∧ Tw.upL n z.1 z.2.1 z.2.2 = R ∧ Tw.upE n z.1 z.2.1 z.2.2 = X) (fun z => z.2.1) (by split <;> simp) ?_ (x := (f0, p0, T0)) ⟨h0, h1, h2, h3⟩
  rintro ⟨f, p, T⟩ ⟨i0, i1, i2, i3⟩
  simp only at i0 i1 i2 i3
  by_cases hp : p = 0
  · subst hp
    refine .inr ?_
    have e1 : T = R := by cases f <;> simpa [Tw.upL] using i2
    have e2 : X = false := by cases f <;> simpa [Tw.upE] using i3.symm
    subst e1; subst e2
    exact up_eS n T c m
  · obtain ⟨f, rfl⟩ : ∃ g, f = g + 1 := ⟨f - 1, by omega⟩
    have l1 := hiP_lt (n := n) (p := p) (by omega)
    have l2 := hiP_lt (n := n) (p := (p - 1) / 2) (by omega)
    have hq := half_eq (p := p) (by omega) (by omega)
    simp only [Tw.upL, Tw.upE, if_neg hp] at i2 i3
    by_cases a : T.ah (2 * p) (2 * ((p - 1) / 2)) = true
    · rw [if_pos a] at i2 i3
      exact .inl ⟨(f, (p - 1) / 2, _), ⟨by simp only; omega, by simp only; omega, i2, i3⟩, (show (p - 1) / 2 < p by omega), up_aS n p ((p - 1) / 2) T c m (by omega) hn i1 hq (by omega) a l1 l2⟩
    · rw [if_neg a] at i2 i3
      by_cases b : T.ah (hiP n ((p - 1) / 2)) (hiP n p) = true
      · rw [if_pos b] at i2 i3
        exact .inl ⟨(f, (p - 1) / 2, _), ⟨by simp only; omega, by simp only; omega, i2, i3⟩, (show (p - 1) / 2 < p by omega), up_bS n p ((p - 1) / 2) T c m (by omega) hn i1 hq (by omega) (by simpa using a) b l1 l2⟩
      · rw [if_neg b] at i2 i3
        subst i2; subst i3
        exact .inr (up_dS n p ((p - 1) / 2) T c m (by omega) hn i1 hq (by omega) (by simpa using a) (by simpa using b) l1 l2)
theorem fnUpS (n i : Nat) (T : Tw ByteArray) (c m : Int) (hi : i < n) (hn : n ≤ 100000) : FnOk Try.prog 35 [.nv (.one (.ptr 0 0)), iA i] (twMS n T c m) .any (twMS n (T.up n i) c m) := by
  have e0 : Int.tmod (i : Int) 2 = ((i % 2 : Nat) : Int) := by rw [Int.tmod_eq_emod_of_nonneg (by omega)]; omega
  have e2 : IntKind.wrap IntKind.i64 (Int.tdiv (i : Int) 2) = ((i / 2 : Nat) : Int) := by rw [Int.tdiv_eq_ediv_of_nonneg (by omega)]; exact w64 (by omega) (by omega)
  have l := up_loopS n hn c m _ _ (i / 2) (i / 2) (T.up0 i) (Nat.le_refl _) (by omega) rfl rfl
  unfold Tw.up
  generalize hR : Tw.upL n (i / 2) (i / 2) (T.up0 i) = R at *
  generalize Tw.upE n (i / 2) (i / 2) (T.up0 i) = X at *
  unfold Tw.up0 at l
  by_cases e : i % 2 = 1
  · have e1 : IntKind.wrap IntKind.i64 ((i : Int) - 1) = ((i - 1 : Nat) : Int) := w64 (by omega) (by omega)
    rw [if_pos e] at l
    by_cases h : T.ah i (i - 1) = true
    · rw [if_pos h] at l
      cases X
      · exact up_x3S n i T R c m hi hn e0 e2 (by omega) h e1 (by omega) l
      · exact up_r3S n i T R c m hi hn e0 e2 (by omega) h e1 (by omega) l
    · rw [if_neg h] at l
      cases X
      · exact up_x2S n i T R c m hi hn e0 e2 (by omega) (by simpa using h) e1 (by omega) l
      · exact up_r2S n i T R c m hi hn e0 e2 (by omega) (by simpa using h) e1 (by omega) l
  · rw [if_neg e] at l
    cases X
    · exact up_x1S n i T R c m hi hn e0 e2 (by omega) l
    · exact up_r1S n i T R c m hi hn e0 e2 (by omega) l
def gUpS : List SV → List Seg → Option (CS × List Prop)
  | [.nv (.one (.ptr h 0)), .nv (.one (.val (.int .i64 i)))], mem => match twAt mem h with
    | some (n, g, c, m) => some (⟨[.nv (.one (.ptr 0 0)), iA i], twMS n (twS g) c m, .any, twMS n ((twS g).up n i.toNat) c m⟩, [0 ≤ i, i.toNat < n, n ≤ 100000])
    | none => none
  | _, _ => none
theorem spUpS : SpOk Try.prog 35 (.lift gUpS) := by
  intro args mem cs obl h ho
  unfold gUpS at h
  split at h
  · split at h
    · simp only [Option.some.injEq, Prod.mk.injEq] at h
      obtain ⟨rfl, rfl⟩ := h
      obtain ⟨o1, o2, o3, _⟩ := ho
      obtain ⟨i, rfl⟩ := Int.eq_ofNat_of_zero_le o1
      exact fnUpS _ i _ _ _ o2 o3
    · cases h
  · cases h
def Gt1 : List (FuncId × Sp) := (31, .lift gUpI) :: (35, .lift gUpS) :: Gt0
theorem Gt1_ok : CtxOk Try.prog Gt1 := ctx_cons (enter_of Try.func31 (by kernel_rfl) (by kernel_rfl)) spUpI <|
  ctx_cons (enter_of Try.func35 (by kernel_rfl) (by kernel_rfl)) spUpS Gt0_ok
end Go.Proofs.Ytakpokccjgoapaa

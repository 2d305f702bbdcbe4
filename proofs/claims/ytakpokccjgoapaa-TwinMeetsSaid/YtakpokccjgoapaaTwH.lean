/- Twins: entries sink. No condition. -/
import Derived.Test.YtakpokccjgoapaaTwF
import Derived.Test.YtakpokccjgoapaaTwG
import Derived.Test.YtakpokccjgoapaaTwI
import Derived.Test.YtakpokccjgoapaaTwE
namespace Go.Proofs.Ytakpokccjgoapaa
set_option linter.unusedVariables false
set_option linter.unusedSimpArgs false
open Go.RowKit E

section
variable {α : Type}
/-- A pair is in order. -/
def Tw.in2 (n p : Nat) (T : Tw α) : Tw α := if T.ah (hiP n p) (2 * p) = true then T.swap (hiP n p) (2 * p) else T
def Tw.lw (n p : Nat) (T : Tw α) : Nat := if 2 * (2 * p + 2) < n ∧ T.ah (2 * (2 * p + 2)) (2 * (2 * p + 1)) = true then 2 * p + 2 else 2 * p + 1
def Tw.hw (n p : Nat) (T : Tw α) : Nat := if 2 * (2 * p + 2) < n ∧ T.ah (hiP n (2 * p + 1)) (hiP n (2 * p + 2)) = true then 2 * p + 2 else 2 * p + 1
def Tw.slL (n : Nat) : Nat → Nat → Tw α → Tw α
  | 0, _, T => T
  | f + 1, p, T => if ¬ 2 * (2 * p + 1) < n then T.in2 n p else
    if (T.in2 n p).ah (2 * (T.in2 n p).lw n p) (2 * p) = true then Tw.slL n f ((T.in2 n p).lw n p) ((T.in2 n p).swap (2 * (T.in2 n p).lw n p) (2 * p)) else T.in2 n p
def Tw.shL (n : Nat) : Nat → Nat → Tw α → Tw α
  | 0, _, T => T
  | f + 1, p, T => if ¬ 2 * (2 * p + 1) < n then T.in2 n p else
    if (T.in2 n p).ah (hiP n p) (hiP n ((T.in2 n p).hw n p)) = true then Tw.shL n f ((T.in2 n p).hw n p) ((T.in2 n p).swap (hiP n p) (hiP n ((T.in2 n p).hw n p))) else T.in2 n p
def Tw.sinkL (T : Tw α) (n : Nat) : Tw α := Tw.slL n n 0 T
def Tw.sinkH (T : Tw α) (n : Nat) : Tw α := Tw.shL n n 0 T
end
theorem under_eq {p : Nat} (hp : p ≤ 100000) : IntKind.wrap IntKind.i64 (IntKind.wrap IntKind.i64 (2 * (p : Int)) + 1) = ((2 * p + 1 : Nat) : Int) := by
  rw [show IntKind.wrap IntKind.i64 ((2 : Int) * (↑p : Int)) = 2 * p from w64 rfl (by omega)]; exact w64 (by omega) (by omega)
theorem under_eq2 {p : Nat} (hp : p ≤ 100000) : IntKind.wrap IntKind.i64 (((2 * p + 1 : Nat) : Int) + 1) = ((2 * p + 2 : Nat) : Int) := w64 (by omega) (by omega)

theorem sl_loopI (n : Nat) (hn : n ≤ 100000) (c m : Int) (R : Tw Int) (f0 p0 : Nat) (T0 : Tw Int) (h0 : n ≤ p0 + f0) (h1 : 2 * p0 < n) (h2 : Tw.slL n f0 p0 T0 = R) :
    CodeOk Try.prog 2 (.loop (loopOf Try.f33 0)) (mkSt 96 [(0, .nv (.one (.ptr 0 0))), (2, iA p0)] (twMI n T0 c m)) .ret (mkSt 96 [] (twMI n R c m)) := by
  refine loop_ok (α := Nat × Nat × Tw Int) (fun z => mkSt 96 [(0, .nv (.one (.ptr 0 0))), (2, iA z.2.1)] (twMI n z.2.2 c m))
    (fun z => n ≤ z.2.1 + z.1 ∧ 2 * z.2.1 < n ∧ Tw.slL n z.1 z.2.1 z.2.2 = R) (fun z => z.1) (by simp) ?_ (x := (f0, p0, T0)) ⟨h0, h1, h2⟩
  rintro ⟨f, p, T⟩ ⟨i0, i1, i2⟩
  simp only at i0 i1 i2
  obtain ⟨f, rfl⟩ : ∃ g, f = g + 1 := ⟨f - 1, by omega⟩
  have hu := under_eq (p := p) (by omega)
  have hv := under_eq2 (p := p) (by omega)
  have l1 := hiP_lt (n := n) (p := p) (by omega)
  have l2 := hiP_lt (n := n) (p := 2 * p + 1) (by omega)
  have l3 := hiP_lt (n := n) (p := 2 * p + 2) (by omega)
  simp only [Tw.slL] at i2
  by_cases a : T.ah (hiP n p) (2 * p) = true
  · have hT : T.in2 n p = T.swap (hiP n p) (2 * p) := if_pos a
    rw [hT] at i2
    by_cases g : ¬ 2 * (2 * p + 1) < n
    · rw [if_pos g] at i2
      subst i2
      exact .inr (sl_1_eI n p (2 * p + 1) (2 * p + 2) T c m hn i1 rfl rfl hu hv l1 l2 l3 a g)
    · rw [if_neg g] at i2
      have g : 2 * (2 * p + 1) < n := by omega
      by_cases g2 : 2 * (2 * p + 2) < n
      · by_cases z2 : (T.swap (hiP n p) (2 * p)).ah (2 * (2 * p + 2)) (2 * (2 * p + 1)) = true
        · have hw : Tw.lw n p (T.swap (hiP n p) (2 * p)) = 2 * p + 2 := if_pos ⟨g2, z2⟩
          rw [hw] at i2
          by_cases q : (T.swap (hiP n p) (2 * p)).ah (2 * (2 * p + 2)) (2 * p) = true
          · rw [if_pos q] at i2
            exact .inl ⟨(f, (2 * p + 2), _), ⟨(show n ≤ (2 * p + 2) + f by omega), (show 2 * (2 * p + 2) < n by omega), i2⟩, (show f < f + 1 by omega), sl_1_3nI n p (2 * p + 1) (2 * p + 2) T c m hn i1 rfl rfl hu hv l1 l2 l3 a g g2 z2 q⟩
          · rw [if_neg q] at i2
            subst i2
            exact .inr (sl_1_3rI n p (2 * p + 1) (2 * p + 2) T c m hn i1 rfl rfl hu hv l1 l2 l3 a g g2 z2 (Bool.eq_false_iff.2 q))
          
        · have hw : Tw.lw n p (T.swap (hiP n p) (2 * p)) = 2 * p + 1 := if_neg (fun e => z2 e.2)
          rw [hw] at i2
          by_cases q : (T.swap (hiP n p) (2 * p)).ah (2 * (2 * p + 1)) (2 * p) = true
          · rw [if_pos q] at i2
            exact .inl ⟨(f, (2 * p + 1), _), ⟨(show n ≤ (2 * p + 1) + f by omega), (show 2 * (2 * p + 1) < n by omega), i2⟩, (show f < f + 1 by omega), sl_1_2nI n p (2 * p + 1) (2 * p + 2) T c m hn i1 rfl rfl hu hv l1 l2 l3 a g g2 (Bool.eq_false_iff.2 z2) q⟩
          · rw [if_neg q] at i2
            subst i2
            exact .inr (sl_1_2rI n p (2 * p + 1) (2 * p + 2) T c m hn i1 rfl rfl hu hv l1 l2 l3 a g g2 (Bool.eq_false_iff.2 z2) (Bool.eq_false_iff.2 q))
          
      · have hw : Tw.lw n p (T.swap (hiP n p) (2 * p)) = 2 * p + 1 := if_neg (fun e => g2 e.1)
        rw [hw] at i2
        by_cases q : (T.swap (hiP n p) (2 * p)).ah (2 * (2 * p + 1)) (2 * p) = true
        · rw [if_pos q] at i2
          exact .inl ⟨(f, (2 * p + 1), _), ⟨(show n ≤ (2 * p + 1) + f by omega), (show 2 * (2 * p + 1) < n by omega), i2⟩, (show f < f + 1 by omega), sl_1_1nI n p (2 * p + 1) (2 * p + 2) T c m hn i1 rfl rfl hu hv l1 l2 l3 a g g2 q⟩
        · rw [if_neg q] at i2
          subst i2
          exact .inr (sl_1_1rI n p (2 * p + 1) (2 * p + 2) T c m hn i1 rfl rfl hu hv l1 l2 l3 a g g2 (Bool.eq_false_iff.2 q))
        
  · have hT : T.in2 n p = T := if_neg a
    have a := Bool.eq_false_iff.2 a
    rw [hT] at i2
    by_cases g : ¬ 2 * (2 * p + 1) < n
    · rw [if_pos g] at i2
      subst i2
      exact .inr (sl_0_eI n p (2 * p + 1) (2 * p + 2) T c m hn i1 rfl rfl hu hv l1 l2 l3 a g)
    · rw [if_neg g] at i2
      have g : 2 * (2 * p + 1) < n := by omega
      by_cases g2 : 2 * (2 * p + 2) < n
      · by_cases z2 : T.ah (2 * (2 * p + 2)) (2 * (2 * p + 1)) = true
        · have hw : Tw.lw n p T = 2 * p + 2 := if_pos ⟨g2, z2⟩
          rw [hw] at i2
          by_cases q : T.ah (2 * (2 * p + 2)) (2 * p) = true
          · rw [if_pos q] at i2
            exact .inl ⟨(f, (2 * p + 2), _), ⟨(show n ≤ (2 * p + 2) + f by omega), (show 2 * (2 * p + 2) < n by omega), i2⟩, (show f < f + 1 by omega), sl_0_3nI n p (2 * p + 1) (2 * p + 2) T c m hn i1 rfl rfl hu hv l1 l2 l3 a g g2 z2 q⟩
          · rw [if_neg q] at i2
            subst i2
            exact .inr (sl_0_3rI n p (2 * p + 1) (2 * p + 2) T c m hn i1 rfl rfl hu hv l1 l2 l3 a g g2 z2 (Bool.eq_false_iff.2 q))
          
        · have hw : Tw.lw n p T = 2 * p + 1 := if_neg (fun e => z2 e.2)
          rw [hw] at i2
          by_cases q : T.ah (2 * (2 * p + 1)) (2 * p) = true
          · rw [if_pos q] at i2
            exact .inl ⟨(f, (2 * p + 1), _), ⟨(show n ≤ (2 * p + 1) + f by omega), (show 2 * (2 * p + 1) < n by omega), i2⟩, (show f < f + 1 by omega), sl_0_2nI n p (2 * p + 1) (2 * p + 2) T c m hn i1 rfl rfl hu hv l1 l2 l3 a g g2 (Bool.eq_false_iff.2 z2) q⟩
          · rw [if_neg q] at i2
            subst i2
            exact .inr (sl_0_2rI n p (2 * p + 1) (2 * p + 2) T c m hn i1 rfl rfl hu hv l1 l2 l3 a g g2 (Bool.eq_false_iff.2 z2) (Bool.eq_false_iff.2 q))
          
      · have hw : Tw.lw n p T = 2 * p + 1 := if_neg (fun e => g2 e.1)
        rw [hw] at i2
        by_cases q : T.ah (2 * (2 * p + 1)) (2 * p) = true
        · rw [if_pos q] at i2
          exact .inl ⟨(f, (2 * p + 1), _), ⟨(show n ≤ (2 * p + 1) + f by omega), (show 2 * (2 * p + 1) < n by omega), i2⟩, (show f < f + 1 by omega), sl_0_1nI n p (2 * p + 1) (2 * p + 2) T c m hn i1 rfl rfl hu hv l1 l2 l3 a g g2 q⟩
        · rw [if_neg q] at i2
          subst i2
          exact .inr (sl_0_1rI n p (2 * p + 1) (2 * p + 2) T c m hn i1 rfl rfl hu hv l1 l2 l3 a g g2 (Bool.eq_false_iff.2 q))
        
theorem fnslI (n : Nat) (T : Tw Int) (c m : Int) (h : 0 < n) (hn : n ≤ 100000) : FnOk Try.prog 33 [.nv (.one (.ptr 0 0))] (twMI n T c m) .any (twMI n (T.sinkL n) c m) :=
  slfI n T _ c m (sl_loopI n hn c m _ n 0 T (by omega) (by omega) rfl)
def gslI : List SV → List Seg → Option (CS × List Prop)
  | [.nv (.one (.ptr h 0))], mem => match twAt mem h with
    | some (n, g, c, m) => some (⟨[.nv (.one (.ptr 0 0))], twMI n (twI g) c m, .any, twMI n ((twI g).sinkL n) c m⟩, [0 < n, n ≤ 100000])
    | none => none
  | _, _ => none
theorem spslI : SpOk Try.prog 33 (.lift gslI) := by
  intro args mem cs obl h ho
  unfold gslI at h
  split at h
  · split at h
    · simp only [Option.some.injEq, Prod.mk.injEq] at h
      obtain ⟨rfl, rfl⟩ := h
      obtain ⟨o1, o2, _⟩ := ho
      exact fnslI _ _ _ _ o1 o2
    · cases h
  · cases h

theorem sh_loopI (n : Nat) (hn : n ≤ 100000) (c m : Int) (R : Tw Int) (f0 p0 : Nat) (T0 : Tw Int) (h0 : n ≤ p0 + f0) (h1 : 2 * p0 < n) (h2 : Tw.shL n f0 p0 T0 = R) :
    CodeOk Try.prog 2 (.loop (loopOf Try.f34 0)) (mkSt 98 [(0, .nv (.one (.ptr 0 0))), (2, iA p0)] (twMI n T0 c m)) .ret (mkSt 98 [] (twMI n R c m)) := by
  refine loop_ok (α := Nat × Nat × Tw Int) (fun z => mkSt 98 [(0, .nv (.one (.ptr 0 0))), (2, iA z.2.1)] (twMI n z.2.2 c m))
    (fun z => n ≤ z.2.1 + z.1 ∧ 2 * z.2.1 < n ∧ Tw.shL n z.1 z.2.1 z.2.2 = R) (fun z => z.1) (by simp) ?_ (x := (f0, p0, T0)) ⟨h0, h1, h2⟩
  rintro ⟨f, p, T⟩ ⟨i0, i1, i2⟩
  simp only at i0 i1 i2
  obtain ⟨f, rfl⟩ : ∃ g, f = g + 1 := ⟨f - 1, by omega⟩
  have hu := under_eq (p := p) (by omega)
  have hv := under_eq2 (p := p) (by omega)
  have l1 := hiP_lt (n := n) (p := p) (by omega)
  have l2 := hiP_lt (n := n) (p := 2 * p + 1) (by omega)
  have l3 := hiP_lt (n := n) (p := 2 * p + 2) (by omega)
  simp only [Tw.shL] at i2
  by_cases a : T.ah (hiP n p) (2 * p) = true
  · have hT : T.in2 n p = T.swap (hiP n p) (2 * p) := if_pos a
    rw [hT] at i2
    by_cases g : ¬ 2 * (2 * p + 1) < n
    · rw [if_pos g] at i2
      subst i2
      exact .inr (sh_1_eI n p (2 * p + 1) (2 * p + 2) T c m hn i1 rfl rfl hu hv l1 l2 l3 a g)
    · rw [if_neg g] at i2
      have g : 2 * (2 * p + 1) < n := by omega
      by_cases g2 : 2 * (2 * p + 2) < n
      · by_cases z2 : (T.swap (hiP n p) (2 * p)).ah (hiP n (2 * p + 1)) (hiP n (2 * p + 2)) = true
        · have hw : Tw.hw n p (T.swap (hiP n p) (2 * p)) = 2 * p + 2 := if_pos ⟨g2, z2⟩
          rw [hw] at i2
          by_cases q : (T.swap (hiP n p) (2 * p)).ah (hiP n p) (hiP n (2 * p + 2)) = true
          · rw [if_pos q] at i2
            exact .inl ⟨(f, (2 * p + 2), _), ⟨(show n ≤ (2 * p + 2) + f by omega), (show 2 * (2 * p + 2) < n by omega), i2⟩, (show f < f + 1 by omega), sh_1_3nI n p (2 * p + 1) (2 * p + 2) T c m hn i1 rfl rfl hu hv l1 l2 l3 a g g2 z2 q⟩
          · rw [if_neg q] at i2
            subst i2
            exact .inr (sh_1_3rI n p (2 * p + 1) (2 * p + 2) T c m hn i1 rfl rfl hu hv l1 l2 l3 a g g2 z2 (Bool.eq_false_iff.2 q))
          
        · have hw : Tw.hw n p (T.swap (hiP n p) (2 * p)) = 2 * p + 1 := if_neg (fun e => z2 e.2)
          rw [hw] at i2
          by_cases q : (T.swap (hiP n p) (2 * p)).ah (hiP n p) (hiP n (2 * p + 1)) = true
          · rw [if_pos q] at i2
            exact .inl ⟨(f, (2 * p + 1), _), ⟨(show n ≤ (2 * p + 1) + f by omega), (show 2 * (2 * p + 1) < n by omega), i2⟩, (show f < f + 1 by omega), sh_1_2nI n p (2 * p + 1) (2 * p + 2) T c m hn i1 rfl rfl hu hv l1 l2 l3 a g g2 (Bool.eq_false_iff.2 z2) q⟩
          · rw [if_neg q] at i2
            subst i2
            exact .inr (sh_1_2rI n p (2 * p + 1) (2 * p + 2) T c m hn i1 rfl rfl hu hv l1 l2 l3 a g g2 (Bool.eq_false_iff.2 z2) (Bool.eq_false_iff.2 q))
          
      · have hw : Tw.hw n p (T.swap (hiP n p) (2 * p)) = 2 * p + 1 := if_neg (fun e => g2 e.1)
        rw [hw] at i2
        by_cases q : (T.swap (hiP n p) (2 * p)).ah (hiP n p) (hiP n (2 * p + 1)) = true
        · rw [if_pos q] at i2
          exact .inl ⟨(f, (2 * p + 1), _), ⟨(show n ≤ (2 * p + 1) + f by omega), (show 2 * (2 * p + 1) < n by omega), i2⟩, (show f < f + 1 by omega), sh_1_1nI n p (2 * p + 1) (2 * p + 2) T c m hn i1 rfl rfl hu hv l1 l2 l3 a g g2 q⟩
        · rw [if_neg q] at i2
          subst i2
          exact .inr (sh_1_1rI n p (2 * p + 1) (2 * p + 2) T c m hn i1 rfl rfl hu hv l1 l2 l3 a g g2 (Bool.eq_false_iff.2 q))
        
  · have hT : T.in2 n p = T := if_neg a
    have a := Bool.eq_false_iff.2 a
    rw [hT] at i2
    by_cases g : ¬ 2 * (2 * p + 1) < n
    · rw [if_pos g] at i2
      subst i2
      exact .inr (sh_0_eI n p (2 * p + 1) (2 * p + 2) T c m hn i1 rfl rfl hu hv l1 l2 l3 a g)
    · rw [if_neg g] at i2
      have g : 2 * (2 * p + 1) < n := by omega
      by_cases g2 : 2 * (2 * p + 2) < n
      · by_cases z2 : T.ah (hiP n (2 * p + 1)) (hiP n (2 * p + 2)) = true
        · have hw : Tw.hw n p T = 2 * p + 2 := if_pos ⟨g2, z2⟩
          rw [hw] at i2
          by_cases q : T.ah (hiP n p) (hiP n (2 * p + 2)) = true
          · rw [if_pos q] at i2
            exact .inl ⟨(f, (2 * p + 2), _), ⟨(show n ≤ (2 * p + 2) + f by omega), (show 2 * (2 * p + 2) < n by omega), i2⟩, (show f < f + 1 by omega), sh_0_3nI n p (2 * p + 1) (2 * p + 2) T c m hn i1 rfl rfl hu hv l1 l2 l3 a g g2 z2 q⟩
          · rw [if_neg q] at i2
            subst i2
            exact .inr (sh_0_3rI n p (2 * p + 1) (2 * p + 2) T c m hn i1 rfl rfl hu hv l1 l2 l3 a g g2 z2 (Bool.eq_false_iff.2 q))
          
        · have hw : Tw.hw n p T = 2 * p + 1 := if_neg (fun e => z2 e.2)
          rw [hw] at i2
          by_cases q : T.ah (hiP n p) (hiP n (2 * p + 1)) = true
          · rw [if_pos q] at i2
            exact .inl ⟨(f, (2 * p + 1), _), ⟨(show n ≤ (2 * p + 1) + f by omega), (show 2 * (2 * p + 1) < n by omega), i2⟩, (show f < f + 1 by omega), sh_0_2nI n p (2 * p + 1) (2 * p + 2) T c m hn i1 rfl rfl hu hv l1 l2 l3 a g g2 (Bool.eq_false_iff.2 z2) q⟩
          · rw [if_neg q] at i2
            subst i2
            exact .inr (sh_0_2rI n p (2 * p + 1) (2 * p + 2) T c m hn i1 rfl rfl hu hv l1 l2 l3 a g g2 (Bool.eq_false_iff.2 z2) (Bool.eq_false_iff.2 q))
          
      · have hw : Tw.hw n p T = 2 * p + 1 := if_neg (fun e => g2 e.1)
        rw [hw] at i2
        by_cases q : T.ah (hiP n p) (hiP n (2 * p + 1)) = true
        · rw [if_pos q] at i2
          exact .inl ⟨(f, (2 * p + 1), _), ⟨(show n ≤ (2 * p + 1) + f by omega), (show 2 * (2 * p + 1) < n by omega), i2⟩, (show f < f + 1 by omega), sh_0_1nI n p (2 * p + 1) (2 * p + 2) T c m hn i1 rfl rfl hu hv l1 l2 l3 a g g2 q⟩
        · rw [if_neg q] at i2
          subst i2
          exact .inr (sh_0_1rI n p (2 * p + 1) (2 * p + 2) T c m hn i1 rfl rfl hu hv l1 l2 l3 a g g2 (Bool.eq_false_iff.2 q))
        
theorem fnshI (n : Nat) (T : Tw Int) (c m : Int) (h : 0 < n) (hn : n ≤ 100000) : FnOk Try.prog 34 [.nv (.one (.ptr 0 0))] (twMI n T c m) .any (twMI n (T.sinkH n) c m) :=
  shfI n T _ c m (sh_loopI n hn c m _ n 0 T (by omega) (by omega) rfl)
def gshI : List SV → List Seg → Option (CS × List Prop)
  | [.nv (.one (.ptr h 0))], mem => match twAt mem h with
    | some (n, g, c, m) => some (⟨[.nv (.one (.ptr 0 0))], twMI n (twI g) c m, .any, twMI n ((twI g).sinkH n) c m⟩, [0 < n, n ≤ 100000])
    | none => none
  | _, _ => none
theorem spshI : SpOk Try.prog 34 (.lift gshI) := by
  intro args mem cs obl h ho
  unfold gshI at h
  split at h
  · split at h
    · simp only [Option.some.injEq, Prod.mk.injEq] at h
      obtain ⟨rfl, rfl⟩ := h
      obtain ⟨o1, o2, _⟩ := ho
      exact fnshI _ _ _ _ o1 o2
    · cases h
  · cases h
def Gt2 : List (FuncId × Sp) := (33, .lift gslI) :: (34, .lift gshI) :: Gt1
theorem Gt2_ok : CtxOk Try.prog Gt2 := ctx_cons (enter_of Try.func33 (by kernel_rfl) (by kernel_rfl)) spslI <|
  ctx_cons (enter_of Try.func34 (by kernel_rfl) (by kernel_rfl)) spshI Gt1_ok
end Go.Proofs.Ytakpokccjgoapaa

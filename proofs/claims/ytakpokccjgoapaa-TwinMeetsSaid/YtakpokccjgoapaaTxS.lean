/- Twins: an act, as a specification. No condition. -/
import Derived.Test.YtakpokccjgoapaaTxR
namespace Go.Proofs.Ytakpokccjgoapaa
set_option linter.unusedVariables false
set_option linter.unusedSimpArgs false
open Go.RowKit E
section
variable (n : Nat) (T : Tw Int) (c : Int) (L : It) (k r x m : Int)
def acN : Nat := if k ≤ 2 then pushN n m else if k ≤ 4 then n - 1 else if k ≤ 6 then sqN T n r m else n
def acT : Tw Int := if k ≤ 2 then T.push n r c m x else if k = 3 then T.popL n else if k = 4 then T.popH n else if k ≤ 6 then T.sqz n r c m x else T
def acC : Int := if k ≤ 2 then pushC n c m else if k ≤ 4 then c else if k ≤ 6 then sqC T n r c m else c
def acL : It := if k ≤ 2 then (if (n : Int) < m then L.ins (L.pos r n) r x else L) else if k = 3 then L.rest else if k = 4 then L else if k ≤ 6 then rsqL L n r m x else L
end
/-- What an act takes for granted. -/
structure ActOk (n : Nat) (T : Tw Int) (c : Int) (L : It) (kd m : Int) : Prop where
  sim : Sim n T c L
  r : room c m n
  m1 : 1 ≤ m
  nm : (n : Int) ≤ m
  kd : 0 ≤ kd ∧ kd ≤ 255
theorem act_sim {n : Nat} {T : Tw Int} {c : Int} {L : It} {kd m : Int} (h : ActOk n T c L kd m) (r x : Int) :
    Sim (acN n T (Int.tmod kd 8) r m) (acT n T c (Int.tmod kd 8) r x m) (acC n T c (Int.tmod kd 8) r m) (acL n L (Int.tmod kd 8) r x m) ∧ ((acN n T (Int.tmod kd 8) r m : Nat) : Int) ≤ m ∧ c ≤ acC n T c (Int.tmod kd 8) r m ∧ acC n T c (Int.tmod kd 8) r m ≤ c + 1 := by
  obtain ⟨hs, ⟨r1, r2, r3, r4⟩, m1, nm, kd1⟩ := h
  have hk : Int.tmod kd 8 = kd % 8 := Int.tmod_eq_emod_of_nonneg kd1.1
  rw [hk]
  generalize hk' : kd % 8 = k
  have hk0 : 0 ≤ k ∧ k ≤ 7 := by omega
  unfold acN acT acC acL
  by_cases h1 : k ≤ 2
  · simp only [if_pos h1]
    by_cases q : (n : Int) < m
    · rw [if_pos q]
      refine ⟨hs.push r x m q r3 (by omega), ?_⟩
      unfold pushN pushC; rw [if_pos q, if_pos q]; omega
    · rw [if_neg q]
      refine ⟨hs.full r x m q, ?_⟩
      unfold pushN pushC; rw [if_neg q, if_neg q]; omega
  · simp only [if_neg h1]
    by_cases h3 : k = 3
    · subst h3
      simp only [if_pos (show (3 : Int) ≤ 4 by omega), if_pos rfl]
      exact ⟨hs.popL, by omega, by omega, by omega⟩
    · by_cases h4 : k = 4
      · subst h4
        simp only [if_pos (show (4 : Int) ≤ 4 by omega), if_neg (show ¬ (4 : Int) = 3 by omega), if_pos rfl]
        exact ⟨hs.popH, by omega, by omega, by omega⟩
      · simp only [if_neg (show ¬ k ≤ 4 by omega), if_neg h3, if_neg h4]
        by_cases h6 : k ≤ 6
        · simp only [if_pos h6]
          refine ⟨(hs.sqz r x m m1 nm r3 (by omega)).2.2, ?_⟩
          unfold sqN sqC pushN pushC
          (repeat' split) <;> omega
        · simp only [if_neg h6]
          exact ⟨hs, by omega, by omega, by omega⟩
theorem fnStep {n : Nat} {T : Tw Int} {c : Int} {L : It} {kd m : Int} (h : ActOk n T c L kd m) (r x : Int) : FnOk Try.prog 10 (stArgs kd r x m) (stMem n n T L c m) (bA true)
    (stPost (acN n T (Int.tmod kd 8) r m) (acN n T (Int.tmod kd 8) r m) (acT n T c (Int.tmod kd 8) r x m) (acL n L (Int.tmod kd 8) r x m) (acC n T c (Int.tmod kd 8) r m) m) := by
  obtain ⟨hs, hr, m1, nm, kd1⟩ := h
  have hk : Int.tmod kd 8 = kd % 8 := Int.tmod_eq_emod_of_nonneg kd1.1
  have hn : n ≤ 100000 := by have := hr.1; omega
  obtain ⟨f1, f2, f3⟩ := hs.first
  obtain ⟨l1, l2, l3⟩ := hs.last
  obtain ⟨s1, s2, _⟩ := hs.sqz r x m m1 nm hr.2.2.1 (by have := hr.2.2.2; omega)
  rcases (by omega : kd % 8 = 0 ∨ kd % 8 = 1 ∨ kd % 8 = 2 ∨ kd % 8 = 3 ∨ kd % 8 = 4 ∨ kd % 8 = 5 ∨ kd % 8 = 6 ∨ kd % 8 = 7) with k | k | k | k | k | k | k | k <;> rw [k] at hk <;> rw [hk]
  · by_cases q : (n : Int) < m
    · rw [show acN n T 0 r m = pushN n m from rfl, show acT n T c 0 r x m = T.push n r c m x from rfl, show acC n T c 0 r m = pushC n c m from rfl, show acL n L 0 r x m = L.ins (L.pos r n) r x from if_pos q, show pushN n m = n + 1 from if_pos q]
      have := st_f0 kd r x c m n T L hr m1 hn hk q (decide_eq_true q)
      rw [show pushN n m = n + 1 from if_pos q] at this
      exact this
    · rw [show acN n T 0 r m = pushN n m from rfl, show acT n T c 0 r x m = T.push n r c m x from rfl, show acC n T c 0 r m = pushC n c m from rfl, show acL n L 0 r x m = L from if_neg q, show pushN n m = n from if_neg q]
      have := st_n0 kd r x c m n T L hr m1 hn hk q (decide_eq_false q)
      rw [show pushN n m = n from if_neg q] at this
      exact this
  · by_cases q : (n : Int) < m
    · rw [show acN n T 1 r m = pushN n m from rfl, show acT n T c 1 r x m = T.push n r c m x from rfl, show acC n T c 1 r m = pushC n c m from rfl, show acL n L 1 r x m = L.ins (L.pos r n) r x from if_pos q, show pushN n m = n + 1 from if_pos q]
      have := st_f1 kd r x c m n T L hr m1 hn hk q (decide_eq_true q)
      rw [show pushN n m = n + 1 from if_pos q] at this
      exact this
    · rw [show acN n T 1 r m = pushN n m from rfl, show acT n T c 1 r x m = T.push n r c m x from rfl, show acC n T c 1 r m = pushC n c m from rfl, show acL n L 1 r x m = L from if_neg q, show pushN n m = n from if_neg q]
      have := st_n1 kd r x c m n T L hr m1 hn hk q (decide_eq_false q)
      rw [show pushN n m = n from if_neg q] at this
      exact this
  · by_cases q : (n : Int) < m
    · rw [show acN n T 2 r m = pushN n m from rfl, show acT n T c 2 r x m = T.push n r c m x from rfl, show acC n T c 2 r m = pushC n c m from rfl, show acL n L 2 r x m = L.ins (L.pos r n) r x from if_pos q, show pushN n m = n + 1 from if_pos q]
      have := st_f2 kd r x c m n T L hr m1 hn hk q (decide_eq_true q)
      rw [show pushN n m = n + 1 from if_pos q] at this
      exact this
    · rw [show acN n T 2 r m = pushN n m from rfl, show acT n T c 2 r x m = T.push n r c m x from rfl, show acC n T c 2 r m = pushC n c m from rfl, show acL n L 2 r x m = L from if_neg q, show pushN n m = n from if_neg q]
      have := st_n2 kd r x c m n T L hr m1 hn hk q (decide_eq_false q)
      rw [show pushN n m = n from if_neg q] at this
      exact this
  · exact st_min kd r x c m n T L hr m1 hn hk f1 f2 f3
  · exact st_max kd r x c m n T L hr m1 hn hk l1 l2 l3
  · have := st_s5 kd r x c m n T L hr m1 hn hk s1
    rw [s2] at this
    exact this
  · have := st_s6 kd r x c m n T L hr m1 hn hk s1
    rw [s2] at this
    exact this
  · exact st_o kd r x c m n T L hr m1 hn hk
def gStep : List SV → List Seg → Option (CS × List Prop)
  | [.nv (.one (.ptr h 0)), .nv (.one (.ptr h2 0)), .nv (.one (.val (.int .i64 m))), .nv (.agg [.val (.int .u8 kd), .val (.int .u64 r), .val (.int .i64 x)])], mem => match twAt mem h, boxAt mem h2 with
    | some (n, g, c, m'), some [a] => match srcOf mem 2 a with
      | some (n2, g2, _) => some (⟨stArgs kd r x m, stMem n n (twI g) (itOf g2) c m, bA true,
          stPost (acN n (twI g) (Int.tmod kd 8) r m) (acN n (twI g) (Int.tmod kd 8) r m) (acT n (twI g) c (Int.tmod kd 8) r x m) (acL n (itOf g2) (Int.tmod kd 8) r x m) (acC n (twI g) c (Int.tmod kd 8) r m) m⟩, [ActOk n (twI g) c (itOf g2) kd m])
      | none => none
    | _, _ => none
  | _, _ => none
theorem spStep : SpOk Try.prog 10 (.lift gStep) := by
  intro args mem cs obl h ho
  unfold gStep at h
  split at h
  · split at h
    · split at h
      · simp only [Option.some.injEq, Prod.mk.injEq] at h
        obtain ⟨rfl, rfl⟩ := h
        exact fnStep ho.1 _ _
      · cases h
    · cases h
  · cases h
def Gi2 : List (FuncId × Sp) := (10, .lift gStep) :: Gi1
theorem Gi2_ok : CtxOk Try.prog Gi2 := ctx_cons (enter_of Try.func10 (by kernel_rfl) (by kernel_rfl)) spStep Gi1_ok
def Gpn : List (FuncId × Sp) := (7, .lift gNewI) :: Gi2
theorem Gpn_ok : CtxOk Try.prog Gpn := ctx_cons (enter_of Try.func7 (by kernel_rfl) (by kernel_rfl)) spNewI Gi2_ok
def Gpx : List (FuncId × Sp) := (7, .lift gNewXI) :: Gi2
theorem Gpx_ok : CtxOk Try.prog Gpx := ctx_cons (enter_of Try.func7 (by kernel_rfl) (by kernel_rfl)) spNewXI Gi2_ok
end Go.Proofs.Ytakpokccjgoapaa

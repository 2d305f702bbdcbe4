/- TwinBest: rows that grow by insertion. No condition. -/
import Derived.Test.YtakpokccjgoapaaTxS
namespace Go.Proofs.Ytakpokccjgoapaa
set_option linter.unusedVariables false
set_option linter.unusedSimpArgs false
open Go.RowKit E

abbrev rkT (R : Nat → Int) : Nat → List At := fun k => [.val (.int .u64 (R k))]
/-- What was given, in order: the first i of them. -/
def srtIt (F : It) : Nat → It
  | 0 => ⟨fun _ => 0, fun _ => 0⟩
  | i + 1 => (srtIt F i).ins ((srtIt F i).pos (F.r i) i) (F.r i) (F.x i)
theorem It.pos_ge {L : It} {r : Int} {n k : Nat} (hk : n ≤ k) (h : ∀ j, j < n → ¬ r < L.r j) : n ≤ L.pos r k := by
  have hle := It.pos_le L r k
  by_cases a : L.pos r k < k
  · have := It.pos_up L r k a
    by_cases b : n ≤ L.pos r k
    · exact b
    · exact absurd this (h _ (by omega))
  · omega
theorem It.pos_cut {L : It} {r : Int} {n k : Nat} (hk : n < k) (h : r < L.r n) : L.pos r k = L.pos r n := by
  have hle := It.pos_le L r k
  have hle' := It.pos_le L r n
  have h1 : L.pos r k ≤ n := by
    by_cases a : L.pos r k ≤ n
    · exact a
    · exact absurd h (It.pos_low L r k n (by omega))
  have h2 := It.pos_up L r k (by omega)
  by_cases b : L.pos r n < n
  · have h3 := It.pos_up L r n b
    by_cases c : L.pos r k < L.pos r n
    · exact absurd h2 (It.pos_low L r n _ c)
    · by_cases d : L.pos r n < L.pos r k
      · exact absurd h3 (It.pos_low L r k _ d)
      · omega
  · by_cases c : L.pos r k < n
    · exact absurd h2 (It.pos_low L r n _ (by omega))
    · omega
theorem Sim.congr {n : Nat} {T : Tw Int} {c : Int} {L L' : It} (h : Sim n T c L) (e : ∀ j, j < n → L.r j = L'.r j ∧ L.x j = L'.x j) : Sim n T c L' := by
  obtain ⟨S, h1, h2, h3⟩ := h.s
  exact ⟨h.hp, h.cb, h.big, S, h1, h2, fun i hi => ⟨(h3 i hi).1.trans (e i hi).1, (h3 i hi).2.trans (e i hi).2⟩⟩
theorem Sim.mono {n : Nat} {T : Tw Int} {c : Int} {L : It} (h : Sim n T c L) {i j : Nat} (hij : i ≤ j) (hj : j < n) : L.r i ≤ L.r j := by
  obtain ⟨S, ⟨f, g, h1, h2⟩, hs, hl⟩ := h.s
  have scb : ∀ i, i < n → 0 ≤ S.c i ∧ S.c i < c := fun i hi => by rw [(h2 i hi).2.1]; exact h.cb _ (h1 i hi).1
  rcases Nat.lt_or_eq_of_le hij with q | q
  · have := hs i j q hj
    have a := scb i (by omega)
    have b := scb j hj
    have := h.big
    rw [← (hl i (by omega)).1, ← (hl j hj).1]
    unfold Tw.key at *
    omega
  · subst q; exact Int.le_refl _
/-- A thing is squeezed in: the twin has the first ones of all. -/
theorem Sim.best {n i : Nat} {T : Tw Int} {c : Int} (F : It) (h : Sim (min n i) T c (srtIt F i)) (hn : 1 ≤ n) (hc0 : 0 ≤ c) (hb : c + 1 < 18446744073709551616) :
    Sim (sqN T (min n i) (F.r i) n) (T.sqz (min n i) (F.r i) c n (F.x i)) (sqC T (min n i) (F.r i) c n) (srtIt F (i + 1)) ∧ sqN T (min n i) (F.r i) n = min n (i + 1) ∧ c ≤ sqC T (min n i) (F.r i) c n ∧ sqC T (min n i) (F.r i) c n ≤ c + 1 := by
  obtain ⟨_, e2, s⟩ := h.sqz (F.r i) (F.x i) n (by omega) (by omega) hc0 hb
  have hN : sqN T (min n i) (F.r i) n = min n (i + 1) := by
    rw [← e2]; unfold rsqN
    (repeat' split) <;> omega
  refine ⟨s.congr fun j hj => ?_, hN, ?_⟩
  · rw [hN] at hj
    show _ = ((srtIt F i).ins ((srtIt F i).pos (F.r i) i) (F.r i) (F.x i)).r j ∧ _ = ((srtIt F i).ins ((srtIt F i).pos (F.r i) i) (F.r i) (F.x i)).x j
    unfold rsqL
    by_cases q : ((min n i : Nat) : Int) < n
    · have : min n i = i := by omega
      rw [if_pos q, this]; exact ⟨rfl, rfl⟩
    · have hm : min n i = n := by omega
      have hni : n ≤ i := by omega
      rw [if_neg q]
      by_cases w : laR (srtIt F i) (min n i) ≤ F.r i
      · rw [if_pos w]
        have hp : n ≤ (srtIt F i).pos (F.r i) i := It.pos_ge hni (fun j hj => by
          have := h.mono (i := j) (j := n - 1) (by omega) (by omega)
          unfold laR at w
          rw [hm, if_pos (by omega)] at w
          omega)
        unfold It.ins
        simp only
        rw [if_pos (by omega), if_pos (by omega)]
        exact ⟨rfl, rfl⟩
      · rw [if_neg w]
        unfold laR at w
        rw [hm, if_pos (by omega)] at w
        have hp : (srtIt F i).pos (F.r i) i = (srtIt F i).pos (F.r i) (n - 1) := It.pos_cut (by omega) (by omega)
        rw [hm, hp]
        exact ⟨rfl, rfl⟩
  · unfold sqC pushC
    (repeat' split) <;> omega
end Go.Proofs.Ytakpokccjgoapaa

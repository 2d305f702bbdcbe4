/- invert: the loops as they count; the search's closure. No condition. -/
import Derived.Test.YtffkakkijifoaaaIvH
namespace Go.Proofs.Ytffkakkijifoaaa
set_option linter.unusedVariables false
set_option linter.unusedSimpArgs false
open Go.RowKit E
abbrev roU (N : Nat) (L : Nat → Int) : Seg := .ro 1 N (gU L)
abbrev rwI (N : Nat) (F : Nat → Int) : Seg := .row 3 1 N (gI F)
theorem sorted_loop (N : Nat) (L : Nat → Int) (hN : N ≤ 1000) : CodeOk Try.prog 1 (.loop (loopOf Try.f16 0)) (mkSt 30 [(0, .nv (.one (.own 0))), (2, .nv (.one (.own 1))), (3, .nv (.one (.own 2))), (12, iA N), (13, iA (0 : Nat))] [roU N L, rwI N (idT 0), rwI N z0]) (.exit 0) (mkSt 30 [(0, .nv (.one (.own 0))), (2, .nv (.one (.own 1))), (3, .nv (.one (.own 2)))] [roU N L, rwI N (idT N), rwI N z0]) := by
  refine loop_ok (α := Nat) (fun i => mkSt 30 [(0, .nv (.one (.own 0))), (2, .nv (.one (.own 1))), (3, .nv (.one (.own 2))), (12, iA N), (13, iA i)] [roU N L, rwI N (idT i), rwI N z0]) (fun i => i ≤ N) (fun i => N - i) (by simp) ?_ (x := 0) (Nat.zero_le _)
  intro i hi
  by_cases q : i < N
  · exact .inl ⟨i + 1, q, (show N - (i + 1) < N - i by omega), so_r N L hN i q⟩
  · have e : i = N := Nat.le_antisymm hi (by omega)
    subst e
    exact .inr (so_e _ L hN)
theorem fnSorted (N : Nat) (L : Nat → Int) (hN : N ≤ 1000) : FnOk Try.prog 16 [.nv (.one (.own 0))] [roU N L] (.tup [.one (.own 1), .one (.own 2)]) [.gone, rwI N (srt L N).p, rwI N (srt L N).d] :=
  so_f N L hN (srt L N) rfl (idT_inN N) (sorted_loop N L hN)
def gSrt : List SV → List Seg → Option (CS × List Prop)
  | [.nv (.one a)], mem => match srcOf mem 1 a with
    | some (n, g, _) => some (⟨[.nv (.one (.own 0))], [roU n (cF g)], .tup [.one (.own 1), .one (.own 2)], [.gone, rwI n (srt (cF g) n).p, rwI n (srt (cF g) n).d]⟩, [n ≤ 1000])
    | none => none
  | _, _ => none
theorem spSrt : SpOk Try.prog 16 (.lift gSrt) := by
  intro args mem cs obl h ho
  unfold gSrt at h
  split at h
  · split at h
    · simp only [Option.some.injEq, Prod.mk.injEq] at h
      obtain ⟨rfl, rfl⟩ := h
      exact fnSorted _ _ ho.1
    · cases h
  · cases h
/-! the document's Late -/
theorem late_in (N : Nat) (L : Nat → Int) (hN : N ≤ 1000) (i : Nat) (F : Nat → Int) (hi : i < N) : CodeOk Try.prog 1 (.loop (loopOf Try.f13 1)) (mkSt 34 [(0, .nv (.one (.own 0))), (3, .nv (.one (.own 1))), (4, iA i), (5, iA 0), (6, iA (0 : Nat))] [roU N L, rwI i F]) (.exit 2) (mkSt 34 [(0, .nv (.one (.own 0))), (3, .nv (.one (.own 1))), (4, iA i), (5, iA (cGt L i i : Nat))] [roU N L, rwI i F]) := by
  refine loop_ok (α := Nat) (fun k => mkSt 34 [(0, .nv (.one (.own 0))), (3, .nv (.one (.own 1))), (4, iA i), (5, iA (cGt L i k : Nat)), (6, iA k)] [roU N L, rwI i F]) (fun k => k ≤ i) (fun k => i - k) (by simp) ?_ (x := 0) (Nat.zero_le _)
  intro k hk
  by_cases q : k < i
  · refine .inl ⟨k + 1, q, (show i - (k + 1) < i - k by omega), ?_⟩
    have hb := cGt_le L i k
    have hc : (0 : Int) ≤ (cGt L i k : Nat) ∧ ((cGt L i k : Nat) : Int) ≤ 1000 := by omega
    by_cases hg : L i < L k
    · have e : cGt L i (k + 1) = cGt L i k + 1 := by simp [cGt, hg]
      rw [e]
      exact lt_y N L hN i k F hi q _ hc hg
    · have e : cGt L i (k + 1) = cGt L i k := by simp [cGt, hg]
      rw [e]
      exact lt_n N L hN i k F hi q _ hc hg
  · have e : k = i := Nat.le_antisymm hk (by omega)
    subst e
    exact .inr (lt_e N L hN k F _)
/-- The first i of the late ones; behind them 0. -/
def lateT (L : Nat → Int) : Nat → Nat → Int
  | 0 => z0
  | i + 1 => putF (lateT L i) i (cGt L i i : Nat)
theorem fnLateD (N : Nat) (L : Nat → Int) (hN : N ≤ 1000) : FnOk Try.prog 13 [.nv (.one (.own 0))] [roU N L] (.nv (.one (.own 1))) [.gone, rwI N (lateT L N)] := by
  refine lt_f N L hN _ ?_
  refine loop_ok (α := Nat) (fun i => mkSt 34 [(0, .nv (.one (.own 0))), (3, .nv (.one (.own 1))), (4, iA i)] [roU N L, rwI i (lateT L i)]) (fun i => i ≤ N) (fun i => N - i) (by simp) ?_ (x := 0) (Nat.zero_le _)
  intro i hi
  by_cases q : i < N
  · exact .inl ⟨i + 1, q, (show N - (i + 1) < N - i by omega), lt_r N L hN i _ q _ (late_in N L hN i _ q)⟩
  · have e : i = N := Nat.le_antisymm hi (by omega)
    subst e
    exact .inr (lt_x _ L hN _)
/-! the document's Count -/
theorem count_in (N : Nat) (L : Nat → Int) (hN : N ≤ 1000) (i : Nat) (hi : i < N) (c : Int) (hc : 0 ≤ c ∧ c ≤ 1000000) : CodeOk Try.prog 1 (.loop (loopOf Try.f8 1)) (mkSt 32 [(0, .nv (.one (.own 0))), (3, uA c), (4, iA i), (5, iA (i + 1 : Nat))] [roU N L]) (.exit 2) (mkSt 32 [(0, .nv (.one (.own 0))), (3, uA (c + (cAft L i (N - (i + 1)) : Nat))), (4, iA i)] [roU N L]) := by
  have := loop_ok (P := Try.prog) (m0 := 1) (c := loopOf Try.f8 1) (ex := .exit 2) (post := mkSt 32 [(0, .nv (.one (.own 0))), (3, uA (c + (cAft L i (N - (i + 1)) : Nat))), (4, iA i)] [roU N L]) (α := Nat) (fun k => mkSt 32 [(0, .nv (.one (.own 0))), (3, uA (c + (cAft L i k : Nat))), (4, iA i), (5, iA (i + 1 + k : Nat))] [roU N L]) (fun k => k ≤ N - (i + 1)) (fun k => N - (i + 1) - k) (by simp) (fun k hk => ?_) (x := 0) (Nat.zero_le _)
  · have e0 : c + ((cAft L i 0 : Nat) : Int) = c := by simp [cAft]
    simp only [e0, Nat.add_zero] at this
    exact this
  · have hb := cAft_le L i k
    by_cases q : k < N - (i + 1)
    · refine .inl ⟨k + 1, q, (show N - (i + 1) - (k + 1) < N - (i + 1) - k by omega), ?_⟩
      by_cases hg : L (i + 1 + k) < L i
      · have e : c + ((cAft L i (k + 1) : Nat) : Int) = c + (cAft L i k : Nat) + 1 := by simp [cAft, hg]; omega
        simp only [e]
        exact rc_y N L hN i (i + 1 + k) hi (by omega) _ (by omega) hg
      · have e : cAft L i (k + 1) = cAft L i k := by simp [cAft, hg]
        simp only [e]
        exact rc_n N L hN i (i + 1 + k) hi (by omega) _ (by omega) hg
    · have e : k = N - (i + 1) := Nat.le_antisymm hk (by omega)
      rw [e, show i + 1 + (N - (i + 1)) = N by omega]
      exact .inr (rc_e N L hN i _)
theorem fnCountD (N : Nat) (L : Nat → Int) (hN : N ≤ 1000) : FnOk Try.prog 8 [.nv (.one (.own 0))] [roU N L] (uA (invD L N N : Nat)) [.gone] := by
  refine rc_f N L hN _ ?_
  refine loop_ok (α := Nat) (fun i => mkSt 32 [(0, .nv (.one (.own 0))), (3, uA (invD L N i : Nat)), (4, iA i)] [roU N L]) (fun i => i ≤ N) (fun i => N - i) (by simp) ?_ (x := 0) (Nat.zero_le _)
  intro i hi
  by_cases q : i < N
  · refine .inl ⟨i + 1, q, (show N - (i + 1) < N - i by omega), rc_r N L hN i q _ _ ?_⟩
    have h1 := invD_le L N i
    have h2 : i * N ≤ 1000 * 1000 := Nat.mul_le_mul (by omega) hN
    have := count_in N L hN i q (invD L N i : Nat) (by omega)
    have e : ((invD L N (i + 1) : Nat) : Int) = ((invD L N i : Nat) : Int) + (cAft L i (N - (i + 1)) : Nat) := by rw [show invD L N (i + 1) = invD L N i + cAft L i (N - (i + 1)) from rfl]; omega
    rw [e]; exact this
  · have e : i = N := Nat.le_antisymm hi (by omega)
    subst e
    exact .inr (rc_x _ L hN _)
/-! the document's Order -/
theorem order_in (N : Nat) (L : Nat → Int) (hN : N ≤ 1000) (i : Nat) (F : Nat → Int) (hi : i < N) : CodeOk Try.prog 1 (.loop (loopOf Try.f11 2)) (mkSt 61 [(0, .nv (.one (.own 0))), (3, .nv (.one (.own 1))), (5, iA i), (6, iA 0), (7, iA (0 : Nat))] [roU N L, rwI N F]) (.exit 4) (mkSt 61 [(0, .nv (.one (.own 0))), (3, .nv (.one (.own 1))), (5, iA i), (6, iA (cRk L i N : Nat))] [roU N L, rwI N F]) := by
  refine loop_ok (α := Nat) (fun k => mkSt 61 [(0, .nv (.one (.own 0))), (3, .nv (.one (.own 1))), (5, iA i), (6, iA (cRk L i k : Nat)), (7, iA k)] [roU N L, rwI N F]) (fun k => k ≤ N) (fun k => N - k) (by simp) ?_ (x := 0) (Nat.zero_le _)
  intro k hk
  by_cases q : k < N
  · refine .inl ⟨k + 1, q, (show N - (k + 1) < N - k by omega), ?_⟩
    have hb := cRk_le L i k
    have hc : (0 : Int) ≤ (cRk L i k : Nat) ∧ ((cRk L i k : Nat) : Int) ≤ 1000 := by omega
    by_cases hg : L k < L i
    · have e : cRk L i (k + 1) = cRk L i k + 1 := by simp [cRk, hg]
      rw [e]
      exact oi_y N L hN i k F hi q _ hc hg
    · by_cases he : L k = L i
      · by_cases hl : k < i
        · have e : cRk L i (k + 1) = cRk L i k + 1 := by simp [cRk, he, hl]
          rw [e]
          exact oi_z N L hN i k F hi q _ hc hg he hl
        · have e : cRk L i (k + 1) = cRk L i k := by simp [cRk, he, hl]
          rw [e]
          exact oi_m N L hN i k F hi q _ hc hg he hl
      · have e : cRk L i (k + 1) = cRk L i k := by simp [cRk, hg, he]
        rw [e]
        exact oi_n N L hN i k F hi q _ hc hg he
  · have e : k = N := Nat.le_antisymm hk (by omega)
    subst e
    exact .inr (oi_e k L hN i F _)
theorem fnOrderD (N : Nat) (L : Nat → Int) (hN : N ≤ 1000) : FnOk Try.prog 11 [.nv (.one (.own 0))] [roU N L] (.nv (.one (.own 1))) [.gone, rwI N (ordF L N N)] := by
  refine oo_f N L hN _ ?_ ?_
  · refine loop_ok (α := Nat) (fun i => mkSt 61 [(0, .nv (.one (.own 0))), (3, .nv (.one (.own 1))), (4, iA i)] [roU N L, rwI i z0]) (fun i => i ≤ N) (fun i => N - i) (by simp) ?_ (x := 0) (Nat.zero_le _)
    intro i hi
    by_cases q : i < N
    · exact .inl ⟨i + 1, q, (show N - (i + 1) < N - i by omega), oz_r N L hN i q⟩
    · have e : i = N := Nat.le_antisymm hi (by omega)
      subst e
      exact .inr (oz_e _ L hN)
  · refine loop_ok (α := Nat) (fun i => mkSt 61 [(0, .nv (.one (.own 0))), (3, .nv (.one (.own 1))), (5, iA i)] [roU N L, rwI N (ordF L N i)]) (fun i => i ≤ N) (fun i => N - i) (by simp) ?_ (x := 0) (Nat.zero_le _)
    intro i hi
    by_cases q : i < N
    · exact .inl ⟨i + 1, q, (show N - (i + 1) < N - i by omega), oo_r N L hN i (cRk L i N) _ q (cRk_lt L i N q) (order_in N L hN i _ q)⟩
    · have e : i = N := Nat.le_antisymm hi (by omega)
      subst e
      exact .inr (oo_e _ L hN _)
/-! the document's Longest -/
theorem long_in (N : Nat) (L : Nat → Int) (hN : N ≤ 1000) (i : Nat) (hi : i < N) (m : Int) : CodeOk Try.prog 1 (.loop (loopOf Try.f15 1)) (mkSt 51 [(0, .nv (.one (.own 0))), (3, .nv (.one (.own 1))), (4, iA m), (5, iA i), (6, iA 1), (7, iA (0 : Nat))] [roU N L, rwI i (eR L i)]) (.exit 2) (mkSt 51 [(0, .nv (.one (.own 0))), (3, .nv (.one (.own 1))), (4, iA m), (5, iA i), (6, iA (lo L (eR L i) i i))] [roU N L, rwI i (eR L i)]) := by
  refine loop_ok (α := Nat) (fun k => mkSt 51 [(0, .nv (.one (.own 0))), (3, .nv (.one (.own 1))), (4, iA m), (5, iA i), (6, iA (lo L (eR L i) i k)), (7, iA k)] [roU N L, rwI i (eR L i)]) (fun k => k ≤ i) (fun k => i - k) (by simp) ?_ (x := 0) (Nat.zero_le _)
  intro k hk
  by_cases q : k < i
  · refine .inl ⟨k + 1, q, (show i - (k + 1) < i - k by omega), ?_⟩
    have hb := eR_bd L i k
    have hf : 0 ≤ eR L i k ∧ eR L i k ≤ 1000 := by omega
    by_cases hg : L k ≤ L i
    · by_cases hq : lo L (eR L i) i k < eR L i k + 1
      · have e : lo L (eR L i) i (k + 1) = eR L i k + 1 := by unfold lo; rw [if_pos ⟨hg, hq⟩]
        rw [e]
        exact li_y N L hN i k _ hi q _ m hf hg hq
      · have e : lo L (eR L i) i (k + 1) = lo L (eR L i) i k := by rw [lo, if_neg (fun h => hq h.2)]
        rw [e]
        exact li_n N L hN i k _ hi q _ m hf hg hq
    · have e : lo L (eR L i) i (k + 1) = lo L (eR L i) i k := by rw [lo, if_neg (fun h => hg h.1)]
      rw [e]
      exact li_m N L hN i k _ hi q _ m hf hg
  · have e : k = i := Nat.le_antisymm hk (by omega)
    subst e
    exact .inr (li_e N L hN k _ _ m)
theorem fnLongD (N : Nat) (L : Nat → Int) (hN : N ≤ 1000) : FnOk Try.prog 15 [.nv (.one (.own 0))] [roU N L] (iA (moR L N)) [.gone] := by
  refine lr_f N L hN _ ?_
  refine loop_ok (α := Nat) (fun i => mkSt 51 [(0, .nv (.one (.own 0))), (3, .nv (.one (.own 1))), (4, iA (moR L i)), (5, iA i)] [roU N L, rwI i (eR L i)]) (fun i => i ≤ N) (fun i => N - i) (by simp) ?_ (x := 0) (Nat.zero_le _)
  intro i hi
  by_cases q : i < N
  · refine .inl ⟨i + 1, q, (show N - (i + 1) < N - i by omega), ?_⟩
    by_cases hq : moR L i < lo L (eR L i) i i
    · have e : moR L (i + 1) = lo L (eR L i) i i := by rw [moR, if_pos hq]
      simp only [e]
      exact lr_y N L hN i _ q _ _ hq (long_in N L hN i q _)
    · have e : moR L (i + 1) = moR L i := by rw [moR, if_neg hq]
      simp only [e]
      exact lr_n N L hN i _ q _ _ hq (long_in N L hN i q _)
  · have e : i = N := Nat.le_antisymm hi (by omega)
    subst e
    exact .inr (lr_e _ L hN _ _)
end Go.Proofs.Ytffkakkijifoaaa

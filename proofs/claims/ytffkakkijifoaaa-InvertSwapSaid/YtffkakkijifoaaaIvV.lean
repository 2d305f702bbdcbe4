/- InvertTells, InvertNone, InvertSwap: the walks. No condition. -/
import Derived.Test.YtffkakkijifoaaaIvQ
import Derived.Test.YtffkakkijifoaaaIvU
import Derived.Test.YtffkakkijifoaaaEB
namespace Go.Proofs.Ytffkakkijifoaaa
set_option linter.unusedVariables false
set_option linter.unusedSimpArgs false
open Go.RowKit E
theorem tells_law (N : Nat) (L : Nat → Int) : LawOk Try.prog 3 [.nv (.one (.own 0))] [.ro 1 N (gU L)] (bA true) := by
  by_cases h : 400 < N
  · exact te_l N L h
  have hN : N ≤ 400 := by omega
  refine te_f N L hN (count_eq L (by omega)) (same_order L (by omega)) (same_late L (by omega)) (long_eq L N) ?_
  refine loop_ok (α := Nat) (fun i => mkSt 61 [(0, .nv (.one (.own 0))), (3, .nv (.one (.own 1))), (4, bA true), (40, iA N), (41, iA i)] [.ro 1 N (gU L), .row 24 1 N (gU L)]) (fun i => i ≤ N) (fun i => N - i) (by simp) ?_ (x := 0) (Nat.zero_le _)
  intro i hi
  by_cases q : i < N
  · exact .inl ⟨i + 1, q, (show N - (i + 1) < N - i by omega), te_r N L hN i q⟩
  · have e : i = N := Nat.le_antisymm hi (by omega)
    subst e
    exact .inr (te_e _ L hN)
theorem none_law (N : Nat) (L : Nat → Int) : LawOk Try.prog 4 [.nv (.one (.own 0))] [.ro 1 N (gU L)] (bA true) := by
  by_cases h : 400 < N
  · exact no_l N L h
  have hN : N ≤ 400 := by omega
  refine no_f N L hN (fallsB L N) (sumW (srt L N).d N) _ _ (ordM L N N) rfl rfl (beq_self_eq_true _) (none_zero L (by omega)) (none_long L N) (none_ord L (by omega)) ?_ ?_ ?_
  · refine loop_ok (α := Nat) (fun i => mkSt 109 [(0, .nv (.one (.own 0))), (3, bA (fallsB L i)), (16, iA N), (17, iA i)] [.ro 1 N (gU L)]) (fun i => i ≤ N) (fun i => N - i) (by simp) ?_ (x := 0) (Nat.zero_le _)
    intro i hi
    by_cases q : i < N
    · refine .inl ⟨i + 1, q, (show N - (i + 1) < N - i by omega), ?_⟩
      cases hf : fallsB L i
      · by_cases h0 : i = 0
        · subst h0
          exact nf_0 N L hN q
        · by_cases hg : L i < L (i - 1)
          · have e : fallsB L (i + 1) = true := by simp [fallsB, hg]; omega
            rw [e]
            exact nf_y N L hN i q (by omega) hg
          · have e : fallsB L (i + 1) = false := by simp [fallsB, hf, hg]
            rw [e]
            exact nf_n N L hN i q (by omega) hg
      · have e : fallsB L (i + 1) = true := by simp [fallsB, hf]
        rw [e]
        exact nf_t N L hN i q
    · have e : i = N := Nat.le_antisymm hi (by omega)
      subst e
      exact .inr (nf_e _ L hN _)
  · refine loop_ok (α := Nat) (fun i => mkSt 109 [(0, .nv (.one (.own 0))), (3, bA (fallsB L N)), (5, uA (sumW (srt L N).d i)), (39, .nv (.one (.own 1))), (40, iA N), (41, iA i)] [.ro 1 N (gU L), .row 3 1 N (gI (srt L N).d)]) (fun i => i ≤ N) (fun i => N - i) (by simp) ?_ (x := 0) (Nat.zero_le _)
    intro i hi
    by_cases q : i < N
    · exact .inl ⟨i + 1, q, (show N - (i + 1) < N - i by omega), ns_r N L hN _ _ _ i q⟩
    · have e : i = N := Nat.le_antisymm hi (by omega)
      subst e
      exact .inr (ns_e _ L hN _ _ _)
  · refine loop_ok (α := Nat) (fun i => mkSt 109 [(0, .nv (.one (.own 0))), (3, bA (fallsB L N)), (5, uA (sumW (srt L N).d N)), (8, .nv (.one (.own 2))), (51, .nv (.one (.own 1))), (52, iA N), (53, iA i)] [.ro 1 N (gU L), .row 3 1 N (gI (srt L N).p), .row 24 1 i (gU (ordM L N i))]) (fun i => i ≤ N) (fun i => N - i) (by simp) ?_ (x := 0) (Nat.zero_le _)
    intro i hi
    by_cases q : i < N
    · obtain ⟨p1, p2⟩ := p_nat L (show N ≤ 1000 by omega) i q
      exact .inl ⟨i + 1, q, (show N - (i + 1) < N - i by omega), no_r N L hN _ _ _ _ i q (by omega) (by omega)⟩
    · have e : i = N := Nat.le_antisymm hi (by omega)
      subst e
      exact .inr (no_e _ L hN _ _ _ _)
theorem swap_law (N : Nat) (L : Nat → Int) (x : Int) : LawOk Try.prog 5 [.nv (.one (.own 0)), iA x] [.ro 1 N (gU L)] (bA true) := by
  by_cases h : 400 < N
  · exact sw_l N L x h
  have hN : N ≤ 400 := by omega
  by_cases h2 : N < 2
  · exact sw_s N L x h2
  have e1 : IntKind.wrap IntKind.u64 (IntKind.wrap IntKind.i64 ((N : Int) - 1)) = (N : Int) - 1 := by
    rw [w64 (a := (N : Int) - 1) rfl (by omega)]; exact wU64 rfl (by omega)
  have ub : 0 ≤ IntKind.wrap IntKind.u64 x := by rw [show IntKind.wrap IntKind.u64 x = x % 18446744073709551616 from rfl]; omega
  have em : Int.tmod (IntKind.wrap IntKind.u64 x) ((N : Int) - 1) = IntKind.wrap IntKind.u64 x % ((N : Int) - 1) := Int.tmod_eq_emod_of_nonneg ub
  have b0 := Int.emod_nonneg (IntKind.wrap IntKind.u64 x) (show (N : Int) - 1 ≠ 0 by omega)
  have b1 := Int.emod_lt_of_pos (IntKind.wrap IntKind.u64 x) (show 0 < (N : Int) - 1 by omega)
  obtain ⟨k, hk⟩ := Int.eq_ofNat_of_zero_le b0
  have ek : IntKind.wrap IntKind.i64 (Int.tmod (IntKind.wrap IntKind.u64 x) (IntKind.wrap IntKind.u64 (IntKind.wrap IntKind.i64 ((N : Int) - 1)))) = (k : Int) := by
    rw [e1, em, hk]; exact w64 rfl (by omega)
  have hkN : k + 1 < N := by omega
  have hA := sumW_eq L (show N ≤ 1000 by omega) N (Nat.le_refl _)
  have hB := sumW_eq (swpF L k) (show N ≤ 1000 by omega) N (Nat.le_refl _)
  have hs := swap_eq L k N hkN
  have bA' := sS_le L N
  have bB' := sS_le (swpF L k) N
  have hm : N * N ≤ 400 * 400 := Nat.mul_le_mul hN hN
  by_cases hg : L k < L (k + 1)
  · rw [if_neg (by omega), if_pos hg] at hs
    exact sw_a N L hN x k (by omega) ek hkN (by rw [e1]; omega) _ _ hA hB hg (beq_iff_eq.2 (by rw [wU64 (a := ((sS L N : Nat) : Int) + 1) rfl (by omega)]; omega))
  · by_cases hg2 : L (k + 1) < L k
    · rw [if_pos hg2, if_neg hg] at hs
      exact sw_b N L hN x k (by omega) ek hkN (by rw [e1]; omega) _ _ hA hB hg hg2 (beq_iff_eq.2 (by rw [wU64 (a := ((sS (swpF L k) N : Nat) : Int) + 1) rfl (by omega)]; omega))
    · rw [if_neg hg2, if_neg hg] at hs
      exact sw_c N L hN x k (by omega) ek hkN (by rw [e1]; omega) _ _ hA hB hg hg2 (beq_iff_eq.2 (by omega))
theorem row_u64 {a1 : Option Addr} {len cap : Nat} {w : World} (r1 : Reads w (.slice 1 (.int .u64)) (Value.slice a1 len cap).cells.toList) : ∃ R : Nat → Int, SegOk (noEnv.put 0 (.slice a1 len cap)) w 0 (.ro 1 len (gU R)) := by
  obtain ⟨es, b1, hs⟩ := vals_seg (h := 0) (s := .int .u64) (Env.put_same (env := noEnv) 0 (.slice a1 len cap)) rfl r1
  exact ⟨fun k => cI (es k) 0, hs⟩
theorem tells_i_walk (a1 : Option Addr) (len cap : Nat) (w : World) (r1 : Reads w (.slice 1 (.int .u64)) (Value.slice a1 len cap).cells.toList) :
    Calls Try.prog 3 #[.slice a1 len cap] w fun e w' => e = .returned (.bool true) ∧ Ext w w' := by
  obtain ⟨R, hs⟩ := row_u64 r1
  refine (tells_law len R _ [.slice a1 len cap] w ⟨⟨Env.put_same (env := noEnv) 0 (.slice a1 len cap), _, _, _, rfl⟩, trivial⟩ (one_ro hs)).mono ?_
  rintro e w' ⟨u, rfl, hu, hx⟩
  exact ⟨by rw [show u = .bool true from hu], hx⟩
theorem none_i_walk (a1 : Option Addr) (len cap : Nat) (w : World) (r1 : Reads w (.slice 1 (.int .u64)) (Value.slice a1 len cap).cells.toList) :
    Calls Try.prog 4 #[.slice a1 len cap] w fun e w' => e = .returned (.bool true) ∧ Ext w w' := by
  obtain ⟨R, hs⟩ := row_u64 r1
  refine (none_law len R _ [.slice a1 len cap] w ⟨⟨Env.put_same (env := noEnv) 0 (.slice a1 len cap), _, _, _, rfl⟩, trivial⟩ (one_ro hs)).mono ?_
  rintro e w' ⟨u, rfl, hu, hx⟩
  exact ⟨by rw [show u = .bool true from hu], hx⟩
theorem swap_i_walk (a1 : Option Addr) (len cap : Nat) (x : Int) (w : World) (r1 : Reads w (.slice 1 (.int .u64)) (Value.slice a1 len cap).cells.toList) (hx : (Lit.int .i64 x).wf = true) :
    Calls Try.prog 5 #[.slice a1 len cap, .int .i64 x] w fun e w' => e = .returned (.bool true) ∧ Ext w w' := by
  obtain ⟨R, hs⟩ := row_u64 r1
  refine (swap_law len R x _ [.slice a1 len cap, .int .i64 x] w ⟨⟨Env.put_same (env := noEnv) 0 (.slice a1 len cap), _, _, _, rfl⟩, rfl, trivial⟩ (one_ro hs)).mono ?_
  rintro e w' ⟨u, rfl, hu, hx⟩
  exact ⟨by rw [show u = .bool true from hu], hx⟩
end Go.Proofs.Ytffkakkijifoaaa

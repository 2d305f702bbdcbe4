/- GateTicks: the walk. No condition. -/
import Derived.Test.YtoincoicgfnbiaaGbE
namespace Go.Proofs.Ytoincoicgfnbiaa
set_option linter.unusedVariables false
set_option linter.unusedSimpArgs false
open Go.RowKit E
theorem tmj_10 {n : Nat} {S : Nat → Int} (h : okN n S = true) (h10 : ∀ k, k < n → S k ≤ 10) (t : Int) : ∀ j, tmj n S t j ≤ 10 * j
  | 0 => by simp [tmj]
  | j + 1 => by
    have hn := (okN_iff.1 h).1
    have := tmj_10 h h10 t j
    have e : tmj n S t (j + 1) = tmj n S t j + spn n S t j := rfl
    have : spn n S t j ≤ 10 := by
      unfold spn
      split
      · have := lft_bd h t
        have := h10 _ (slt_spec h t).1
        omega
      · exact h10 _ (Nat.mod_lt _ (by omega))
    omega
theorem gticks_law (m mo : Nat) (P U : Nat → Int) (x0 x1 x2 : Int) (hP : ∀ k, k < m → 0 ≤ P k ∧ P k ≤ 255) (hU : ∀ k, k < mo → 0 ≤ U k ∧ U k ≤ 255) (h0 : 0 ≤ x0 ∧ x0 ≤ 255) (h1 : 0 ≤ x1 ∧ x1 ≤ 255) (h2 : 0 ≤ x2 ∧ x2 ≤ 255) :
    LawOk Try.prog 5 [.nv (.one (.own 0)), .nv (.one (.own 1)), .nv (.agg [.val (.int .u8 x0), .val (.int .u8 x1), .val (.int .u8 x2)])] [.ro 1 m (gB8 P), .ro 1 mo (gB8 U)] (bA true) := by
  by_cases hm0 : m = 0
  · subst hm0; exact gt_a mo P U x0 x1 x2 (by omega)
  by_cases hm : 12 < m
  · exact gt_b m mo P U x0 x1 x2 hm
  by_cases hmo : mo < m
  · exact gt_c m mo P U x0 x1 x2 (by omega) (by omega) hmo
  have hmm : 1 ≤ m ∧ m ≤ 12 := by omega
  have hok := ok_sp hmm hP
  have hR := round_pos hok
  have hU' : ∀ k, k < m → 0 ≤ U k ∧ U k ≤ 255 := fun k hk => hU k (by omega)
  obtain ⟨L, hL⟩ := Int.eq_ofNat_of_zero_le (show 0 ≤ pre (spF P) m by omega)
  have hp10 := pre_10 (P := P) hP m (Nat.le_refl _)
  have e0 := Int.tmod_eq_emod_of_nonneg (b := 8) h0.1
  have e2 := Int.tmod_eq_emod_of_nonneg (b := 30) h2.1
  have eC : IntKind.wrap .i64 (Int.tmod x0 8) = Int.tmod x0 8 := w64 rfl (by omega)
  have eW : IntKind.wrap .i64 (IntKind.wrap .i64 (Int.tmod x2 30) + 1) = Int.tmod x2 30 + 1 := by
    rw [w64 (a := Int.tmod x2 30) rfl (by omega)]; exact w64 rfl (by omega)
  generalize hCd : Int.tmod x0 8 = C at *
  generalize hWd : Int.tmod x2 30 + 1 = W at *
  have g : Gt m mo L P U C x1 W := ⟨hmm.1, hmm.2, by omega, by omega, by omega, by omega, by omega, h1.1, h1.2, by omega, by omega, hP, hU', hL.symm⟩
  have hc : 0 ≤ C ∧ C ≤ 7 := ⟨g.C0, g.C7⟩
  have hgm := g.gm
  have l1 := build_ok hmm (show m ≤ mo by omega) (U := U) hP x0 x1 x2 L hL.symm
  have l3 := lp3 g
  have ealw := alw_eq (n := m) hc hU'
  have hW0 := g.W1
  have eF : IntKind.wrap .i64 x1 = x1 := w64 rfl (by omega)
  have wF : IntKind.wrap .u64 x1 = x1 := wU64 rfl (by omega)
  have wW : IntKind.wrap .u64 W = W := wU64 rfl (by have := g.W2; omega)
  have wL : IntKind.wrap .u64 (L : Int) = (L : Int) := wU64 rfl (by omega)
  have hRd : rndN m (spF P) = (L : Int) := by rw [rndN_ok hok]; exact hL
  cases hal : alwR U C.toNat m with
  | true =>
    rw [hal] at ealw
    have e1 := nn_alw (d := W) hgm ealw (by omega : x1 ≤ 9223372036854775808)
    have hall : allT m U (spF P) C (x1.toNat : Nat) W.toNat = true := by
      rw [allT_iff]
      intro k _
      unfold tkO
      have hi := (slt_spec hok ((x1.toNat : Int) + k)).1
      rw [(op_is (hU' _ hi) hc).1]
      exact alwR_iff.1 hal _ hi
    have l4 := lp4_some g x1.toNat (by omega) (by omega) hall (fun t q1 q2 => by omega)
    exact gm_y0 m mo L x0 x1 x2 P U C x1 W g.m1 g.m2 g.L1 g.L2 g.C0 g.C7 g.F0 g.F2 g.W1 g.W2 (by omega) (by rw [hCd]; exact eC) eF eW x1.toNat (by omega) e1.1 (by rw [e1.2]; omega) (by exact wU64 rfl (by omega)) wF wW wL hok hRd hgm (sy_alw (t := x1) (S := spF P) ealw).1 l1 l3 l4
  | false =>
    rw [hal] at ealw
    have hs := sy_yes (t := x1) hgm ealw
    rw [pSt_eq hok hc hU' x1] at hs
    obtain ⟨e, g1, g2, g3, g4, g5⟩ := rSt_run hok hal x1 0
    have ez : x1 + tmj m (spF P) x1 0 = x1 := by simp [tmj]
    rw [ez] at g5
    have ez2 : tmj m (spF P) x1 0 = 0 := rfl
    rw [g5, ez2, Int.sub_zero] at hs
    have hb := tmj_bd hok x1 e
    have h10 := tmj_10 hok (fun k hk => (spB_bd (hP k hk)).2) x1 e
    have heb := spn_bd hok x1 e
    have hee : tmj m (spF P) x1 (e + 1) = tmj m (spF P) x1 e + spn m (spF P) x1 e := rfl
    have l6 := lp6 g (tmj m (spF P) x1 e) (by omega) (by omega) (fun k hk => by
      obtain ⟨j, j1, j2⟩ := find_slot hok x1 (k := (k : Int)) (by omega)
      rw [tkO_slot hok hc hU' x1 j1 j2]
      refine g4 j (Nat.zero_le _) ?_
      rcases Nat.lt_or_ge j e with p | p
      · exact p
      · have := tmj_mono hok x1 e j p; omega)
    have hshut : opB (tkF m P U (Int.tmod (x1 + tmj m (spF P) x1 e) (L : Int)).toNat) C = false := by
      rw [tick_eq hmm hP hL.symm (by omega)]
      have := tkO_slot hok hc hU' x1 (k := tmj m (spF P) x1 e) (j := e) (Int.le_refl _) (by omega)
      rw [g3] at this
      exact this
    have hmin : List.foldl (fun (x y : Int) => if y < x then y else x) (tmj m (spF P) x1 e) [500] = tmj m (spF P) x1 e := by
      simp only [List.foldl_cons, List.foldl_nil]
      rw [if_neg (by omega)]
    have h1' := nn_yes (d := W) hgm ealw (by omega : x1 ≤ 9223372036854775808)
    have h2' := pn_eq hok hc hU' h1.1 (by omega : x1 ≤ 9223372036854775808) (q := max W 1) (by omega) hal
    rw [h2'.1, h2'.2, show max W 1 = W by omega] at h1'
    rcases nxI_cases m U (spF P) C.toNat x1 W with ⟨hI, hlt⟩ | ⟨hI, hge, hlt⟩
    · -- there is none
      have hB : nxB m U (spF P) C.toNat x1 W = false := by unfold nxB; exact decide_eq_false (fun h => by omega)
      rw [hB] at h1'
      have hno := none_all hok x1 hlt
      have l4 := lp4_none g (fun t q1 q2 => by
        rw [Bool.eq_false_iff]
        intro ha
        rw [show (t : Int) = x1 + ((t - x1.toNat : Nat) : Int) by omega] at ha
        obtain ⟨r, _, r2⟩ := allT_run hok hc hU' hal x1 (q := W.toNat) (by omega) ha
        have := hno r
        omega)
      exact gm_n1 m mo L x0 x1 x2 P U C x1 W g.m1 g.m2 g.L1 g.L2 g.C0 g.C7 g.F0 g.F2 g.W1 g.W2 (by omega) (by rw [hCd]; exact eC) eF eW h1'.1 wF wW wL hok hRd hgm (tmj m (spF P) x1 e) (by omega) (by omega) hs.1 hs.2 (w64 rfl (by omega)) hmin (w64 rfl (by omega)) (by omega) hshut l6 l1 l3 l4
    · generalize hIe : nxI m U (spF P) C.toNat x1 W = I at hI hge hlt
      have hTn := tmj_round hok x1
      have hTI := tmj_mono hok x1 I m hI
      have hbI := tmj_bd hok x1 I
      have hB : nxB m U (spF P) C.toNat x1 W = true := by unfold nxB; rw [hIe]; exact decide_eq_true ⟨hI, by omega⟩
      have hV : nxV m U (spF P) C.toNat x1 W = x1 + tmj m (spF P) x1 I := by unfold nxV; rw [hIe, if_pos hI]
      rw [hB, hV] at h1'
      simp only [if_true] at h1'
      have hall := allT_at hok hc hU' hal x1 (i := I) (q := W.toNat) (by omega)
      have ht0 : ((x1 + tmj m (spF P) x1 I).toNat : Int) = x1 + tmj m (spF P) x1 I := by omega
      have l4 := lp4_some g (x1 + tmj m (spF P) x1 I).toNat (by omega) (by omega) (by rw [ht0]; exact hall) (fun t q1 q2 => by
        rw [Bool.eq_false_iff]
        intro ha
        rw [show (t : Int) = x1 + ((t - x1.toNat : Nat) : Int) by omega] at ha
        obtain ⟨r, r1, r2⟩ := allT_run hok hc hU' hal x1 (q := W.toNat) (by omega) ha
        rcases Nat.lt_or_ge r I with p | p
        · have := hlt r p; omega
        · have := tmj_mono hok x1 I r p; omega)
      exact gm_y1 m mo L x0 x1 x2 P U C x1 W g.m1 g.m2 g.L1 g.L2 g.C0 g.C7 g.F0 g.F2 g.W1 g.W2 (by omega) (by rw [hCd]; exact eC) eF eW (x1 + tmj m (spF P) x1 I).toNat (by omega) h1'.1 (by rw [h1'.2]; omega) (by exact wU64 rfl (by omega)) wF wW wL hok hRd hgm (tmj m (spF P) x1 e) (by omega) (by omega) hs.1 hs.2 (w64 rfl (by omega)) hmin (w64 rfl (by omega)) (by omega) hshut l6 l1 l3 l4
theorem ask3_args {w : World} {a0 : Array Value} (r0 : Reads w (.agg 3 (.cons 0 1 (.int .u8) (.cons 1 1 (.int .u8) (.cons 2 1 (.int .u8) .nil)))) (Value.agg a0).cells.toList) : ∃ x y z : Int, a0 = #[.int .u8 x, .int .u8 y, .int .u8 z] ∧ (0 ≤ x ∧ x ≤ 255) ∧ (0 ≤ y ∧ y ≤ 255) ∧ (0 ≤ z ∧ z ≤ 255) := by
  obtain ⟨hl, ⟨a, e0, k0⟩, ⟨b, e1, k1⟩, ⟨c, e2, k2⟩, _⟩ := r0
  refine ⟨a, b, c, ?_, wf_u8 k0, wf_u8 k1, wf_u8 k2⟩
  apply Array.ext'
  have hl' : a0.toList.length = 3 := hl
  obtain ⟨x, y, z, q⟩ := list3 hl'
  simp only [Value.cells] at e0 e1 e2
  rw [q] at e0 e1 e2 ⊢
  simp at e0 e1 e2
  rw [e0, e1, e2]
theorem gticks_walk (a0 : Option Addr) (l0 c0 : Nat) (a1 : Option Addr) (l1 c1 : Nat) (a2 : Array Value) (w : World) (r0 : Reads w (.slice 1 (.int .u8)) (Value.slice a0 l0 c0).cells.toList) (r1 : Reads w (.slice 1 (.int .u8)) (Value.slice a1 l1 c1).cells.toList) (r2 : Reads w (.agg 3 (.cons 0 1 (.int .u8) (.cons 1 1 (.int .u8) (.cons 2 1 (.int .u8) .nil)))) (Value.agg a2).cells.toList) :
    Calls Try.prog 5 #[.slice a0 l0 c0, .slice a1 l1 c1, .agg a2] w fun e w' => e = .returned (.bool true) ∧ Ext w w' := by
  obtain ⟨x0, x1, x2, rfl, h0, h1, h2⟩ := ask3_args r2
  obtain ⟨es, b1, s1⟩ := vals_seg (h := 0) (s := .int .u8) (env2_0 (.slice a0 l0 c0) (.slice a1 l1 c1)) rfl r0
  obtain ⟨fs, b2, s2⟩ := vals_seg (h := 1) (s := .int .u8) (env2_1 (.slice a0 l0 c0) (.slice a1 l1 c1)) rfl r1
  refine (gticks_law l0 l1 (fun k => cI (es k) 0) (fun k => cI (fs k) 0) x0 x1 x2 (fun k hk => b1 k hk) (fun k hk => b2 k hk) h0 h1 h2 _ [.slice a0 l0 c0, .slice a1 l1 c1, .agg #[.int .u8 x0, .int .u8 x1, .int .u8 x2]] w ⟨⟨env2_0 _ _, _, _, _, rfl⟩, ⟨env2_1 _ _, _, _, _, rfl⟩, ⟨_, rfl, rfl, rfl, rfl, trivial⟩, trivial⟩ (two_ro s1 s2)).mono ?_
  rintro e w' ⟨u, rfl, hu, hx⟩
  exact ⟨by rw [show u = .bool true from hu], hx⟩
end Go.Proofs.Ytoincoicgfnbiaa

/- gate: GatePlays, GateRound. No condition. -/
import Derived.Test.YtoincoicgfnbiaaGaX
import Derived.Test.YtoincoicgfnbiaaEB
namespace Go.Proofs.Ytoincoicgfnbiaa
set_option linter.unusedVariables false
set_option linter.unusedSimpArgs false
open Go.RowKit E
theorem ndQ_max {d : Int} (h : 0 ≤ d) : max d 1 = ndQ d := by unfold ndQ; split <;> omega
theorem rndN_no {n : Nat} {S : Nat → Int} (h : okN n S = false) : rndN n S = 0 := by unfold rndN; rw [if_neg (by rw [h]; simp)]
theorem opnN_no {n : Nat} {O S : Nat → Int} {t : Int} (h : okN n S = false) : opnN n O S t = 0 := by unfold opnN; rw [if_neg (by rw [h]; simp)]
theorem opnN_ok {n : Nat} {O S : Nat → Int} {t : Int} (h : okN n S = true) : opnN n O S t = O (slt n S t) := by unfold opnN; rw [if_pos h]
theorem gmB_no {n : Nat} {S : Nat → Int} {c : Int} (h : okN n S = false) : gmB n S c = false := by unfold gmB; rw [h]; rfl
section
variable {n : Nat} {c t d : Int} {O S : Nat → Int}
theorem sy_no (h : gmB n S c = false) : syB n O S c = false ∧ syV n O S c t = 0 := by
  have e : syB n O S c = false := by unfold syB; rw [h]; rfl
  exact ⟨e, by unfold syV; rw [e]; rfl⟩
theorem nn_no (h : gmB n S c = false) : nnB n O S c t d = false ∧ nnV n O S c t d = 0 := by
  have e : nnB n O S c t d = false := by unfold nnB; rw [h]; rfl
  exact ⟨e, by unfold nnV; rw [e]; rfl⟩
theorem nn_late (h : t > 9223372036854775808) : nnB n O S c t d = false ∧ nnV n O S c t d = 0 := by
  have e : nnB n O S c t d = false := by unfold nnB; rw [decide_eq_false (by omega : ¬ t ≤ 9223372036854775808), Bool.and_false]; rfl
  exact ⟨e, by unfold nnV; rw [e]; rfl⟩
theorem sy_alw (h : alwB O c n = true) : syB n O S c = false ∧ syV n O S c t = 0 := by
  have e : syB n O S c = false := by unfold syB; rw [h]; simp
  exact ⟨e, by unfold syV; rw [e]; rfl⟩
theorem nn_alw (hm : gmB n S c = true) (h : alwB O c n = true) (ht : t ≤ 9223372036854775808) : nnB n O S c t d = true ∧ nnV n O S c t d = t := by
  have e : nnB n O S c t d = true := by unfold nnB; rw [hm, h, decide_eq_true ht]; rfl
  exact ⟨e, by unfold nnV; rw [e, if_pos rfl, if_pos h]⟩
theorem sy_yes (hm : gmB n S c = true) (h : alwB O c n = false) : syB n O S c = true ∧ syV n O S c t = pSt n O S c t := by
  have e : syB n O S c = true := by unfold syB; rw [hm, h]; rfl
  exact ⟨e, by unfold syV; rw [e]; rfl⟩
theorem nn_yes (hm : gmB n S c = true) (h : alwB O c n = false) (ht : t ≤ 9223372036854775808) : nnB n O S c t d = pnB n c t (max d 1) O S ∧ nnV n O S c t d = if pnB n c t (max d 1) O S = true then pnV n c t (max d 1) O S else 0 := by
  have e : nnB n O S c t d = pnB n c t (max d 1) O S := by unfold nnB; rw [hm, h, decide_eq_true ht]; rfl
  refine ⟨e, ?_⟩
  unfold nnV; rw [e, h]; simp
end
theorem gplays_law (n : Nat) (c t d : Int) (O S : Nat → Int) (hO : ∀ k, k < n → 0 ≤ O k ∧ O k ≤ 255) (ht : 0 ≤ t) (hd : 0 ≤ d) :
    LawOk Try.prog 3 [.nv (.one (.own 0)), .nv (.agg [.val (.int .i64 c), .val (.int .u64 t), .val (.int .u64 d)])] [.ro 2 n (gSl O S)] (bA true) := by
  by_cases hn : 100 < n
  · exact gp_a n c t d O S hn
  cases hk : okN n S with
  | false =>
    have hm := gmB_no (c := c) hk
    exact gp_b n c t d O S (by omega) ht hk (sy_no hm).2 (sy_no (t := t) (O := O) hm).1 (nn_no hm).2 (nn_no (t := t) (d := d) (O := O) hm).1 hm (chk_no (by rw [hk]; simp)) (rndN_no hk) (opnN_no hk)
  | true =>
    have h64 := (okN_iff.1 hk).1
    have hi := (slt_spec hk t).1
    cases hm : gmB n S c with
    | false => exact gp_c n c t d O S (by omega) ht hk (chk_ok hk) hi (rndN_ok hk) (opnN_ok hk) (sy_no hm).2 (sy_no (t := t) (O := O) hm).1 (nn_no hm).2 (nn_no (t := t) (d := d) (O := O) hm).1 hm
    | true =>
      have hc := (gmB_spec hm).2
      have ealw := alw_eq (n := n) hc hO
      cases hal : alwR O c.toNat n with
      | true =>
        rw [hal] at ealw
        by_cases ht2 : t > 9223372036854775808
        · exact gp_d n c t d O S (by omega) ht hk (chk_ok hk) hi (rndN_ok hk) (opnN_ok hk) hm (by omega) (by omega) hal (sy_alw ealw).2 (sy_alw (t := t) (S := S) ealw).1 (nn_late ht2).2 (nn_late (n := n) (c := c) (d := d) (O := O) (S := S) ht2).1 ht2
        · have := nn_alw (d := d) hm ealw (by omega : t ≤ 9223372036854775808)
          exact gp_e n c t d O S (by omega) ht hk (chk_ok hk) hi (rndN_ok hk) (opnN_ok hk) hm (by omega) (by omega) hal (sy_alw ealw).2 (sy_alw (t := t) (S := S) ealw).1 this.2 this.1 ht2 (by omega)
      | false =>
        rw [hal] at ealw
        have hs := sy_yes (t := t) hm ealw
        rw [pSt_eq hk hc hO t] at hs
        by_cases ht2 : t > 9223372036854775808
        · exact gp_f n c t d O S (by omega) ht hk (chk_ok hk) hi (rndN_ok hk) (opnN_ok hk) hm (by omega) (by omega) hal hs.2 hs.1 (nn_late ht2).2 (nn_late (n := n) (c := c) (d := d) (O := O) (S := S) ht2).1 ht2
        · have h1 := nn_yes (d := d) hm ealw (by omega : t ≤ 9223372036854775808)
          have h2 := pn_eq hk hc hO ht (by omega : t ≤ 9223372036854775808) (q := max d 1) (by omega) hal
          rw [h2.1, h2.2, ndQ_max hd] at h1
          cases hX : nxB n O S c.toNat t (ndQ d) with
          | true =>
            rw [hX] at h1
            simp only [if_true] at h1
            exact gp_g n c t d O S (by omega) ht hk (chk_ok hk) hi (rndN_ok hk) (opnN_ok hk) hm (by omega) (by omega) hal hs.2 hs.1 h1.2 h1.1 hX ht2 (by omega)
          | false =>
            rw [hX] at h1
            simp only [Bool.false_eq_true, if_false] at h1
            exact gp_h n c t d O S (by omega) ht hk (chk_ok hk) hi (rndN_ok hk) (opnN_ok hk) hm (by omega) (by omega) hal hs.2 hs.1 h1.2 h1.1 hX ht2 (by omega)
theorem nx_round {n : Nat} {O S : Nat → Int} (hk : okN n S = true) {c : Nat} {a b : Int} (h1 : slt n S a = slt n S b) (h2 : lft n S a = lft n S b) (q : Int) : nxI n O S c a q = nxI n O S c b q ∧ ∀ i, tmj n S a i = tmj n S b i := by
  have hT := tmj_congr (n := n) (S := S) h1 h2
  refine ⟨?_, hT⟩
  unfold nxI
  refine stF_congr (fun i => ?_) _ _
  have e : rSt n O S c (a + tmj n S a i) = rSt n O S c (b + tmj n S b i) := by
    have h3 := slt_tmj hk a i
    have h4 := slt_tmj hk b i
    exact rSt_congr (by rw [h3.1, h4.1, h1]) (by rw [h3.2, h4.2, spn_congr h1 h2])
  rw [e]
theorem ground_law (n : Nat) (c t d k : Int) (O S : Nat → Int) (hO : ∀ k, k < n → 0 ≤ O k ∧ O k ≤ 255) (ht : 0 ≤ t) (hd : 0 ≤ d) (hk0 : 0 ≤ k ∧ k ≤ 255) (hn : n ≤ 9223372036854775807) :
    LawOk Try.prog 4 [.nv (.one (.own 0)), .nv (.agg [.val (.int .i64 c), .val (.int .u64 t), .val (.int .u64 d)]), .nv (.one (.val (.int .u8 k)))] [.ro 2 n (gSl O S)] (bA true) := by
  have hm : gmB n S c = true ∨ gmB n S c = false := by cases gmB n S c <;> simp
  rcases hm with hm | hm
  case inr => exact gr_a n c t d k O S hn hm
  obtain ⟨hok, hc⟩ := gmB_spec hm
  have h64 := (okN_iff.1 hok).1
  have hR := round_pos hok
  have ha1 := Int.emod_nonneg t (show (4294967296 : Int) ≠ 0 by omega)
  have ha2 := Int.emod_lt_of_pos t (show (0 : Int) < 4294967296 by omega)
  have ea : Int.tmod t 4294967296 = t % 4294967296 := Int.tmod_eq_emod_of_nonneg ht
  have hkR : 0 ≤ k * pre S n ∧ k * pre S n ≤ 255 * 274877906944 := ⟨Int.mul_nonneg hk0.1 (by omega), Int.mul_le_mul hk0.2 hR.2 (by omega) (by omega)⟩
  generalize t % 4294967296 = a at *
  have eb : IntKind.wrap .u64 (a + IntKind.wrap .u64 (k * pre S n)) = a + k * pre S n := by
    rw [wU64 (a := k * pre S n) rfl (by omega)]; exact wU64 rfl (by omega)
  have hmod : a % pre S n = (a + k * pre S n) % pre S n := by rw [Int.add_mul_emod_self_right]
  obtain ⟨h1, h2⟩ := slt_congr (n := n) (S := S) hmod
  have eo : opnN n O S a = opnN n O S (a + k * pre S n) := by unfold opnN; rw [h1]
  have hT := tmj_congr (n := n) (S := S) h1 h2
  have ealw := alw_eq (n := n) hc hO
  have hs : syV n O S c a = syV n O S c (a + k * pre S n) := by
    unfold syV
    split
    · unfold pSt; rw [h1, hT]
    · rfl
  generalize hb : a + k * pre S n = b at *
  have hN : nnB n O S c a d = nnB n O S c b d ∧ (nnB n O S c b d = true → IntKind.wrap .u64 (nnV n O S c b d - b) = IntKind.wrap .u64 (nnV n O S c a d - a)) := by
    cases hal : alwR O c.toNat n with
    | true =>
      rw [hal] at ealw
      have e1 := nn_alw (d := d) hm ealw (by omega : a ≤ 9223372036854775808)
      have e2 := nn_alw (d := d) hm ealw (by omega : b ≤ 9223372036854775808)
      rw [e1.1, e2.1, e1.2, e2.2, Int.sub_self, Int.sub_self]
      exact ⟨rfl, fun _ => rfl⟩
    | false =>
      rw [hal] at ealw
      have e1 := nn_yes (d := d) hm ealw (by omega : a ≤ 9223372036854775808)
      have e2 := nn_yes (d := d) hm ealw (by omega : b ≤ 9223372036854775808)
      have e3 := pn_eq hok hc hO (t := a) (by omega) (by omega) (q := max d 1) (by omega) hal
      have e4 := pn_eq hok hc hO (t := b) (by omega) (by omega) (q := max d 1) (by omega) hal
      obtain ⟨e5, e6⟩ := nx_round (O := O) hok (c := c.toNat) h1 h2 (max d 1)
      have e7 : nxB n O S c.toNat a (max d 1) = nxB n O S c.toNat b (max d 1) := by
        unfold nxB
        rw [e5, e6]
        refine decide_eq_decide.2 ⟨fun h => ⟨h.1, ?_⟩, fun h => ⟨h.1, ?_⟩⟩
        · have := tmj_bd hok b (nxI n O S c.toNat b (max d 1)); omega
        · have := tmj_bd hok b (nxI n O S c.toNat b (max d 1)); omega
      rw [e3.1, e3.2] at e1
      rw [e4.1, e4.2] at e2
      rw [e1.1, e2.1, e1.2, e2.2, e7]
      refine ⟨rfl, fun hX => ?_⟩
      have hI : nxI n O S c.toNat b (max d 1) ≤ n := by
        unfold nxB at hX
        exact (of_decide_eq_true hX).1
      simp only [hX, if_true]
      unfold nxV
      rw [e5, if_pos hI, if_pos hI, e6]
      congr 1
      omega
  cases hB2 : nnB n O S c b d with
  | false => exact gr_b n c t d k O S (by omega) hm a b (pre S n) ea (by exact wU64 rfl (by omega)) (rndN_ok hok) eb (by omega) (by omega) eo hs hN.1 hB2
  | true => exact gr_c n c t d k O S (by omega) hm a b (pre S n) ea (by exact wU64 rfl (by omega)) (rndN_ok hok) eb (by omega) (by omega) eo hs hN.1 hB2 (hN.2 hB2)
abbrev psSl : Shs := .cons 0 1 (.int .u8) (.cons 1 1 (.int .u64) .nil)
abbrev shAsk : Sh := .agg 3 (.cons 0 1 (.int .i64) (.cons 1 1 (.int .u64) (.cons 2 1 (.int .u64) .nil)))
theorem ask_args {w : World} {a0 : Array Value} (r0 : Reads w shAsk (Value.agg a0).cells.toList) : ∃ c t d : Int, a0 = #[.int .i64 c, .int .u64 t, .int .u64 d] ∧ 0 ≤ t ∧ 0 ≤ d := by
  obtain ⟨hl, ⟨a, e0, k0⟩, ⟨b, e1, k1⟩, ⟨c, e2, k2⟩, _⟩ := r0
  refine ⟨a, b, c, ?_, (wf_u64 k1).1, (wf_u64 k2).1⟩
  apply Array.ext'
  have hl' : a0.toList.length = 3 := hl
  obtain ⟨x, y, z, q⟩ := list3 hl'
  simp only [Value.cells] at e0 e1 e2
  rw [q] at e0 e1 e2 ⊢
  simp at e0 e1 e2
  rw [e0, e1, e2]
theorem row_gate {a1 : Option Addr} {len cap : Nat} {w : World} (r1 : Reads w (.slice 2 (.agg 2 psSl)) (Value.slice a1 len cap).cells.toList) : ∃ O S : Nat → Int, (∀ k, k < len → 0 ≤ O k ∧ O k ≤ 255) ∧ len ≤ maxLen ∧ SegOk (noEnv.put 0 (.slice a1 len cap)) w 0 (.ro 2 len (gSl O S)) := by
  have hl : len ≤ maxLen := by
    obtain ⟨ao', len', cap', es, e0, h1, h2, h3, _⟩ := r1
    simp only [Value.cells] at e0
    simp at e0
    omega
  obtain ⟨es, b1, hs⟩ := rows_seg (h := 0) (n := 2) (ps := psSl) (Env.put_same (env := noEnv) 0 (.slice a1 len cap)) rfl rfl r1
  exact ⟨fun k => cI (es k) 0, fun k => cI (es k) 1, fun k hk => (b1 k hk).1, hl, hs⟩
theorem gplays_walk (a0 : Option Addr) (len cap : Nat) (a1 : Array Value) (w : World) (r0 : Reads w (.slice 2 (.agg 2 psSl)) (Value.slice a0 len cap).cells.toList) (r1 : Reads w shAsk (Value.agg a1).cells.toList) :
    Calls Try.prog 3 #[.slice a0 len cap, .agg a1] w fun e w' => e = .returned (.bool true) ∧ Ext w w' := by
  obtain ⟨O, S, hO, hl, hs⟩ := row_gate r0
  obtain ⟨c, t, d, rfl, ht, hd⟩ := ask_args r1
  refine (gplays_law len c t d O S hO ht hd _ [.slice a0 len cap, .agg #[.int .i64 c, .int .u64 t, .int .u64 d]] w ⟨⟨Env.put_same (env := noEnv) 0 (.slice a0 len cap), _, _, _, rfl⟩, ⟨_, rfl, rfl, rfl, rfl, trivial⟩, trivial⟩ (one_ro hs)).mono ?_
  rintro e w' ⟨u, rfl, hu, hx⟩
  exact ⟨by rw [show u = .bool true from hu], hx⟩
theorem ground_walk (a0 : Option Addr) (len cap : Nat) (a1 : Array Value) (k : Int) (w : World) (r0 : Reads w (.slice 2 (.agg 2 psSl)) (Value.slice a0 len cap).cells.toList) (r1 : Reads w shAsk (Value.agg a1).cells.toList) (hk : (Lit.int .u8 k).wf = true) :
    Calls Try.prog 4 #[.slice a0 len cap, .agg a1, .int .u8 k] w fun e w' => e = .returned (.bool true) ∧ Ext w w' := by
  obtain ⟨O, S, hO, hl, hs⟩ := row_gate r0
  obtain ⟨c, t, d, rfl, ht, hd⟩ := ask_args r1
  refine (ground_law len c t d k O S hO ht hd (wf_u8 hk) (Nat.le_trans hl (by decide)) _ [.slice a0 len cap, .agg #[.int .i64 c, .int .u64 t, .int .u64 d], .int .u8 k] w ⟨⟨Env.put_same (env := noEnv) 0 (.slice a0 len cap), _, _, _, rfl⟩, ⟨_, rfl, rfl, rfl, rfl, trivial⟩, rfl, trivial⟩ (one_ro hs)).mono ?_
  rintro e w' ⟨u, rfl, hu, hx⟩
  exact ⟨by rw [show u = .bool true from hu], hx⟩
end Go.Proofs.Ytoincoicgfnbiaa

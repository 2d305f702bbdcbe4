/- AdmitNever: the walk. No condition. -/
import Derived.Test.YtmhkbepnankopaaAeU
import Derived.Test.YtmhkbepnankopaaAeP
namespace Go.Proofs.Ytmhkbepnankopaa
set_option linter.unusedVariables false
set_option linter.unusedSimpArgs false
open Go.RowKit E
section
variable {c : Cf} {n : Nat} {F : Fl} {x : Ga} {P B : Nat → Int}
theorem fit_facts {y k : Int} (h : x.fit y k = 0) : k ≠ 0 ∧ ¬ x.U < k ∧ gtU x.M x.T y = true := by
  have hu := fit_us h
  unfold Ga.fit at h
  split at h
  · cases h
  rename_i q
  exact ⟨by omega, by omega, hu⟩
theorem Sim.at_id (hc : COk c n F) (h : Sim c n F x P B) (j : Nat) (hj : j < n) : gtP x.M x.T (F.id j) = P j ∧ gtB x.M x.T (F.id j) = B j := by
  have e : ¬ idx F.id (F.id j) n < 0 := by
    intro q
    have := (idx_bd F.id (F.id j) n).1
    have q2 : idx F.id (F.id j) n = -1 := by omega
    exact idx_none q2 j hj rfl
  obtain ⟨i0, i1, i2⟩ := idx_k e
  have a1 := idx_at (T := F.id) (x := F.id j) i0
  have ej : (idx F.id (F.id j) n).toNat = j := by
    rcases Nat.lt_trichotomy (idx F.id (F.id j) n).toNat j with q | q | q
    · exact absurd a1.symm (hc.id j _ hj q)
    · exact q
    · exact absurd a1 (hc.id _ j i2 q)
  obtain ⟨g1, g2⟩ := h.own (F.id j)
  have g1 : gtP x.M x.T (F.id j) = P (idx F.id (F.id j) n).toNat := g1.trans (if_neg e)
  have g2 : gtB x.M x.T (F.id j) = B (idx F.id (F.id j) n).toNat := g2.trans (if_neg e)
  rw [ej] at g1 g2
  exact ⟨g1, g2⟩
/-- The totals are within their bounds. -/
theorem Sim.bounds (hc : COk c n F) (h : Sim c n F x P B) : decide (x.n < 0) = false ∧ decide (x.n > c.P) = false ∧ decide (x.b > c.B) = false := by
  have := h.hn; have := h.hb; have := tS_nn h.p0; have := h.pT; have := h.bT
  exact ⟨decide_eq_false (by omega), decide_eq_false (by omega), decide_eq_false (by omega)⟩
end
theorem never_j (c : Cf) (n len i : Nat) (F : Fl) (A : Ac17) (x : Ga) {P B : Nat → Int} (hi : i < len) (hl : len ≤ 200) (hc : COk c n F) (hs : Sim c n F x P B) :
    CodeOk Try.prog 2 (.loop (loopOf Try.f4 1)) (mkSt 128 [(2, .nv (.one (.ptr 2 0))), (5, .nv (.one (.ptr 3 0))), (31, .nv (.one (.own 1))), (32, iA len), (33, iA i), (9, iA x.n), (10, uA x.b), (94, .nv (.one (.own 0))), (95, iA n), (96, iA (0 : Nat))] [.ro 5 n (gFl F), .ro 3 len (gA17 A), .box 25 (cfC c (.own 0)), .box 60 (gtD x.P x.B x.S x.U x.n x.b 4), .box 78 [.own 5, .val (.int .i64 x.m), .val (.int .i64 64)], .row 80 5 x.M (gS x.T)]) (.exit 2) (mkSt 128 [(2, .nv (.one (.ptr 2 0))), (5, .nv (.one (.ptr 3 0))), (31, .nv (.one (.own 1))), (32, iA len), (33, iA i)] [.ro 5 n (gFl F), .ro 3 len (gA17 A), .box 25 (cfC c (.own 0)), .box 60 (gtD x.P x.B x.S x.U x.n x.b 4), .box 78 [.own 5, .val (.int .i64 x.m), .val (.int .i64 64)], .row 80 5 x.M (gS x.T)]) :=
  count_loop (P := Try.prog) (m0 := 2) (c := loopOf Try.f4 1) (n := n) (fun j => mkSt 128 [(2, .nv (.one (.ptr 2 0))), (5, .nv (.one (.ptr 3 0))), (31, .nv (.one (.own 1))), (32, iA len), (33, iA i), (9, iA x.n), (10, uA x.b), (94, .nv (.one (.own 0))), (95, iA n), (96, iA j)] [.ro 5 n (gFl F), .ro 3 len (gA17 A), .box 25 (cfC c (.own 0)), .box 60 (gtD x.P x.B x.S x.U x.n x.b 4), .box 78 [.own 5, .val (.int .i64 x.m), .val (.int .i64 64)], .row 80 5 x.M (gS x.T)]) (X := .exit 2) (by simp)
    (fun j hj => by
      obtain ⟨g1, g2⟩ := hs.at_id hc j hj
      have := hs.b1 j hj; have := hs.p0 j hj; have := tS_le hs.p0 j hj; have := tS_le hs.b0 j hj; have := hs.hn; have := hs.hb
      exact nv_j c n len i F A x hc.n1 hi hl j hj hs.ok (decide_eq_false (by omega)) (decide_eq_false (by omega)) (decide_eq_false (by omega)) (decide_eq_false (by omega)))
    (nv_je c n len i F A x hc.n1 hi hl)
theorem never17_law (c : Cf) (n len : Nat) (F : Fl) (A : Ac17) (hB : 0 ≤ c.B ∧ c.B ≤ 18446744073709551615) (hF : ∀ j, j < n → 0 ≤ F.ca j ∧ F.ca j ≤ 18446744073709551615) (hA : ∀ i, i < len → (0 ≤ A.ki i ∧ A.ki i ≤ 255) ∧ (0 ≤ A.n i ∧ A.n i ≤ 18446744073709551615)) :
    LawOk Try.prog 4 [cfV c (.own 0), .nv (.one (.own 1))] [.ro 5 n (gFl F), .ro 3 len (gA17 A)] (bA true) := by
  by_cases hl : 200 < len
  · exact nv_l c n len F A hl
  have hl : len ≤ 200 := by omega
  by_cases he : chkA c n F = 0
  case neg => exact nv_x c n len F A hl he
  have hc := cok_of he hB hF
  refine nv_f c n len F A hl he ?_
  refine loop_ok (α := Nat × Ga × (Nat → Int) × (Nat → Int)) (fun p => mkSt 128 [(2, .nv (.one (.ptr 2 0))), (5, .nv (.one (.ptr 3 0))), (31, .nv (.one (.own 1))), (32, iA len), (33, iA p.1)] [.ro 5 n (gFl F), .ro 3 len (gA17 A), .box 25 (cfC c (.own 0)), .box 60 (gtD p.2.1.P p.2.1.B p.2.1.S p.2.1.U p.2.1.n p.2.1.b 4), .box 78 [.own 5, .val (.int .i64 p.2.1.m), .val (.int .i64 64)], .row 80 5 p.2.1.M (gS p.2.1.T)]) (fun p => p.1 ≤ len ∧ Sim c n F p.2.1 p.2.2.1 p.2.2.2) (fun p => len - p.1) (ex := .exit 0) (post := mkSt 128 [] [.ro 5 n (gFl F), .ro 3 len (gA17 A)]) (by simp) ?_ (x := (0, (Ga.mk c.P c.B c.S c.U 0 0 n (tbF F n).1 (tbF F n).2), (fun _ => 0), (fun _ => 0))) ⟨Nat.zero_le _, sim_new hc⟩
  rintro ⟨i, x, P, B⟩ ⟨hi, hs⟩
  simp only at hi hs
  by_cases hi' : i < len
  case neg =>
    have e : i = len := by omega
    subst e
    exact .inr (nv_e c n i F A x hl)
  have hi := hi'
  obtain ⟨⟨a0, a1⟩, q0, q1⟩ := hA i hi
  have s0 : 0 ≤ x.S := by rw [hs.eS]; exact hc.S0
  have s1 : x.S.toNat ≤ 16 := by rw [hs.eS]; have := hc.S1; omega
  by_cases kv : Int.tmod (A.ki i) 4 = 2
  · have hs' := hs.out hc q0 q1 (y := A.id i)
    rw [← out_norm x] at hs'
    obtain ⟨t0, t1, t2⟩ := hs'.bounds hc
    exact .inl ⟨(i + 1, _, _, _), ⟨by simp only; omega, hs'⟩, by simp only; omega, nv_o c n len i F A x hc.n1 hi hl hs.ok kv t0 t1 t2 (never_j c n len i F A _ hi hl hc hs')⟩
  · have hs' := hs.inn' hc q0 q1 (y := A.id i)
    rw [← inn_norm x] at hs'
    obtain ⟨t0, t1, t2⟩ := hs'.bounds hc
    by_cases e : x.may (A.id i) (A.n i) = 0
    · obtain ⟨f1, f2, f3⟩ := fit_facts (may_fit e)
      have f4 : ¬ idx F.id (A.id i) n < 0 := by
        intro q
        have ht := hs.tab (A.id i)
        rw [if_pos q] at ht
        rw [(gt_none ht).1] at f3
        cases f3
      rw [hs.eU] at f2
      exact .inl ⟨(i + 1, _, _, _), ⟨by simp only; omega, hs'⟩, by simp only; omega, nv_iy c n len i F A x hc.n1 hi hl hs.ok (hs.ok2 hc) s0 s1 (beq_eq_false_iff_ne.2 kv) e (beq_eq_false_iff_ne.2 f1) (decide_eq_false (by omega)) (decide_eq_false f4) t0 t1 t2 (never_j c n len i F A _ hi hl hc hs')⟩
    · exact .inl ⟨(i + 1, _, _, _), ⟨by simp only; omega, hs'⟩, by simp only; omega, nv_in c n len i F A x hc.n1 hi hl hs.ok (hs.ok2 hc) s0 s1 (beq_eq_false_iff_ne.2 kv) e t0 t1 t2 (never_j c n len i F A _ hi hl hc hs')⟩
theorem never17_walk (a0 : Array Value) (a2 : Option Addr) (len cap2 : Nat) (w : World) (r0 : Reads w shCf (Value.agg a0).cells.toList) (r2 : Reads w (.slice 3 (.agg 3 psA17)) (Value.slice a2 len cap2).cells.toList) :
    Calls Try.prog 4 #[.agg a0, .slice a2 len cap2] w fun e w' => e = .returned (.bool true) ∧ Ext w w' := by
  obtain ⟨c, ao, n, cap, rfl, hB, r1⟩ := cf_args r0
  obtain ⟨F, A, hF, hA, hm⟩ := came17 r1 r2
  refine (never17_law c n len F A hB hF hA _ [.agg (cfA c ao n cap), .slice a2 len cap2] w ⟨⟨_, rfl, rfl, rfl, rfl, rfl, rfl, rfl, rfl, rfl, rfl, rfl, ⟨env2_0 _ _, _, _, _, rfl⟩, trivial⟩, ⟨env2_1 _ _, _, _, _, rfl⟩, trivial⟩ hm).mono ?_
  rintro e w' ⟨u, rfl, hu, hx⟩
  exact ⟨by rw [show u = .bool true from hu], hx⟩
end Go.Proofs.Ytmhkbepnankopaa

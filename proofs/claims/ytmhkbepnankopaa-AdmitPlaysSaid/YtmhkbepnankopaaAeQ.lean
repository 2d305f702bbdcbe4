/- AdmitPlays: the walk. No condition. -/
import Derived.Test.YtmhkbepnankopaaAeO
import Derived.Test.YtmhkbepnankopaaAeP
namespace Go.Proofs.Ytmhkbepnankopaa
set_option linter.unusedVariables false
set_option linter.unusedSimpArgs false
open Go.RowKit E
theorem plays17_law (c : Cf) (n len : Nat) (F : Fl) (A : Ac17) (hB : 0 ≤ c.B ∧ c.B ≤ 18446744073709551615) (hF : ∀ j, j < n → 0 ≤ F.ca j ∧ F.ca j ≤ 18446744073709551615) (hA : ∀ i, i < len → (0 ≤ A.ki i ∧ A.ki i ≤ 255) ∧ (0 ≤ A.n i ∧ A.n i ≤ 18446744073709551615)) :
    LawOk Try.prog 5 [cfV c (.own 0), .nv (.one (.own 1))] [.ro 5 n (gFl F), .ro 3 len (gA17 A)] (bA true) := by
  by_cases hn : 100 < n
  · exact pl_l c n len F A hn
  have hn : n ≤ 100 := by omega
  by_cases hl : 200 < len
  · exact pl_l2 c n len F A hn hl
  have hl : len ≤ 200 := by omega
  by_cases he : chkA c n F = 0
  case neg => exact pl_x c n len F A hn hl he
  have hc := cok_of he hB hF
  refine pl_f c n len F A hn hl he ?_
  refine loop_ok (α := Nat × Ga × (Nat → Int) × (Nat → Int)) (fun p => mkSt 174 [(5, .nv (.one (.ptr 2 0))), (8, .nv (.one (.ptr 5 0))), (59, .nv (.one (.own 1))), (60, iA len), (61, iA p.1)] [.ro 5 n (gFl F), .ro 3 len (gA17 A), .box 60 (gtD p.2.1.P p.2.1.B p.2.1.S p.2.1.U p.2.1.n p.2.1.b 3), .box 78 [.own 4, .val (.int .i64 p.2.1.m), .val (.int .i64 64)], .row 80 5 p.2.1.M (gS p.2.1.T), .box 74 (cfC c (.own 0) ++ [.own 6, .own 7]), .row 3 1 n (gI p.2.2.1), .row 22 1 n (gU64 p.2.2.2)]) (fun p => p.1 ≤ len ∧ Sim c n F p.2.1 p.2.2.1 p.2.2.2) (fun p => len - p.1) (ex := .exit 0) (post := mkSt 174 [] [.ro 5 n (gFl F), .ro 3 len (gA17 A)]) (by simp) ?_ (x := (0, (Ga.mk c.P c.B c.S c.U 0 0 n (tbF F n).1 (tbF F n).2), (fun _ => 0), (fun _ => 0))) ⟨Nat.zero_le _, sim_new hc⟩
  rintro ⟨i, x, P, B⟩ ⟨hi, hs⟩
  simp only at hi hs
  by_cases hi' : i < len
  case neg =>
    have e : i = len := by omega
    subst e
    exact .inr (pe c n i F A x P B hl)
  have hi := hi'
  obtain ⟨⟨a0, a1⟩, q0, q1⟩ := hA i hi
  have s0 : 0 ≤ x.S := by rw [hs.eS]; exact hc.S0
  have s1 : x.S.toNat ≤ 16 := by rw [hs.eS]; have := hc.S1; omega
  have z0 := hc.S0
  have z1 : c.S.toNat ≤ 16 := by have := hc.S1; omega
  have ek : Int.tmod (A.ki i) 8 = A.ki i % 8 := Int.tmod_eq_emod_of_nonneg a0
  have kk : Int.tmod (A.ki i) 8 = 0 ∨ Int.tmod (A.ki i) 8 = 1 ∨ Int.tmod (A.ki i) 8 = 2 ∨ Int.tmod (A.ki i) 8 = 3 ∨ Int.tmod (A.ki i) 8 = 4 ∨ Int.tmod (A.ki i) 8 = 5 ∨ Int.tmod (A.ki i) 8 = 6 ∨ Int.tmod (A.ki i) 8 = 7 := by omega
  rcases kk with kv | kv | kv | kv | kv | kv | kv | kv
  · have hs' := hs.inn' hc q0 q1 (y := A.id i)
    rw [← inn_norm x, ← rinn_norm (Rg.mk c n F P B)] at hs'
    obtain ⟨e1, e2, e3, e4⟩ := hs'.same hc (A.id i)
    exact .inl ⟨(i + 1, _, _, _), ⟨by simp only; omega, hs'⟩, by simp only; omega, pi0 c n len i F A x P B hn hi hl hs.ok (hs.ok2 hc) s0 s1 (hs.bd hc) q0 q1 z0 z1 hs'.ok (hs'.bd hc) (bne_eq_false_iff_eq.2 (hs.may hc _ _ q0 q1)) e1 e2 e3 e4 kv⟩
  · have hs' := hs.inn' hc q0 q1 (y := A.id i)
    rw [← inn_norm x, ← rinn_norm (Rg.mk c n F P B)] at hs'
    obtain ⟨e1, e2, e3, e4⟩ := hs'.same hc (A.id i)
    exact .inl ⟨(i + 1, _, _, _), ⟨by simp only; omega, hs'⟩, by simp only; omega, pi1 c n len i F A x P B hn hi hl hs.ok (hs.ok2 hc) s0 s1 (hs.bd hc) q0 q1 z0 z1 hs'.ok (hs'.bd hc) (bne_eq_false_iff_eq.2 (hs.may hc _ _ q0 q1)) e1 e2 e3 e4 kv⟩
  · have hs' := hs.out hc q0 q1 (y := A.id i)
    rw [← out_norm x, ← rout_norm (Rg.mk c n F P B)] at hs'
    obtain ⟨e1, e2, e3, e4⟩ := hs'.same hc (A.id i)
    exact .inl ⟨(i + 1, _, _, _), ⟨by simp only; omega, hs'⟩, by simp only; omega, po2 c n len i F A x P B hn hi hl hs.ok (hs.ok2 hc) s0 s1 (hs.bd hc) q0 q1 z0 z1 hs'.ok (hs'.bd hc) (bne_eq_false_iff_eq.2 (hs.outE _ _)) e1 e2 e3 e4 kv⟩
  · obtain ⟨e1, e2, e3, e4⟩ := hs.same hc (A.id i)
    exact .inl ⟨(i + 1, x, P, B), ⟨by simp only; omega, hs⟩, by simp only; omega, pm3 c n len i F A x P B hn hi hl hs.ok (hs.ok2 hc) s0 s1 (hs.bd hc) q0 q1 z0 z1 hs.ok (hs.bd hc) (bne_eq_false_iff_eq.2 (hs.may hc _ _ q0 q1)) e1 e2 e3 e4 kv⟩
  · have hs' := hs.inn' hc q0 q1 (y := A.id i)
    rw [← inn_norm x, ← rinn_norm (Rg.mk c n F P B)] at hs'
    obtain ⟨e1, e2, e3, e4⟩ := hs'.same hc (A.id i)
    exact .inl ⟨(i + 1, _, _, _), ⟨by simp only; omega, hs'⟩, by simp only; omega, pi4 c n len i F A x P B hn hi hl hs.ok (hs.ok2 hc) s0 s1 (hs.bd hc) q0 q1 z0 z1 hs'.ok (hs'.bd hc) (bne_eq_false_iff_eq.2 (hs.may hc _ _ q0 q1)) e1 e2 e3 e4 kv⟩
  · have hs' := hs.lay hc q0 q1 (y := A.id i)
    rw [← lay_norm x, ← rlay_norm (Rg.mk c n F P B)] at hs'
    obtain ⟨e1, e2, e3, e4⟩ := hs'.same hc (A.id i)
    exact .inl ⟨(i + 1, _, _, _), ⟨by simp only; omega, hs'⟩, by simp only; omega, pa5 c n len i F A x P B hn hi hl hs.ok (hs.ok2 hc) s0 s1 (hs.bd hc) q0 q1 z0 z1 hs'.ok (hs'.bd hc) (bne_eq_false_iff_eq.2 (hs.fit hc _ _ q0 q1)) e1 e2 e3 e4 kv⟩
  · have hs' := hs.out hc q0 q1 (y := A.id i)
    rw [← out_norm x, ← rout_norm (Rg.mk c n F P B)] at hs'
    obtain ⟨e1, e2, e3, e4⟩ := hs'.same hc (A.id i)
    exact .inl ⟨(i + 1, _, _, _), ⟨by simp only; omega, hs'⟩, by simp only; omega, po6 c n len i F A x P B hn hi hl hs.ok (hs.ok2 hc) s0 s1 (hs.bd hc) q0 q1 z0 z1 hs'.ok (hs'.bd hc) (bne_eq_false_iff_eq.2 (hs.outE _ _)) e1 e2 e3 e4 kv⟩
  · obtain ⟨e1, e2, e3, e4⟩ := hs.same hc (A.id i)
    exact .inl ⟨(i + 1, x, P, B), ⟨by simp only; omega, hs⟩, by simp only; omega, pm7 c n len i F A x P B hn hi hl hs.ok (hs.ok2 hc) s0 s1 (hs.bd hc) q0 q1 z0 z1 hs.ok (hs.bd hc) (bne_eq_false_iff_eq.2 (hs.may hc _ _ q0 q1)) e1 e2 e3 e4 kv⟩
theorem plays17_walk (a0 : Array Value) (a2 : Option Addr) (len cap2 : Nat) (w : World) (r0 : Reads w shCf (Value.agg a0).cells.toList) (r2 : Reads w (.slice 3 (.agg 3 psA17)) (Value.slice a2 len cap2).cells.toList) :
    Calls Try.prog 5 #[.agg a0, .slice a2 len cap2] w fun e w' => e = .returned (.bool true) ∧ Ext w w' := by
  obtain ⟨c, ao, n, cap, rfl, hB, r1⟩ := cf_args r0
  obtain ⟨F, A, hF, hA, hm⟩ := came17 r1 r2
  refine (plays17_law c n len F A hB hF hA _ [.agg (cfA c ao n cap), .slice a2 len cap2] w ⟨⟨_, rfl, rfl, rfl, rfl, rfl, rfl, rfl, rfl, rfl, rfl, rfl, ⟨env2_0 _ _, _, _, _, rfl⟩, trivial⟩, ⟨env2_1 _ _, _, _, _, rfl⟩, trivial⟩ hm).mono ?_
  rintro e w' ⟨u, rfl, hu, hx⟩
  exact ⟨by rw [show u = .bool true from hu], hx⟩
end Go.Proofs.Ytmhkbepnankopaa

/- AdmitBack: the walk. No condition. -/
import Derived.Test.YtmhkbepnankopaaAeW
import Derived.Test.YtmhkbepnankopaaAeP
namespace Go.Proofs.Ytmhkbepnankopaa
set_option linter.unusedVariables false
set_option linter.unusedSimpArgs false
open Go.RowKit E
/-- The gate behind the first i packets. -/
def bkX (c : Cf) (n : Nat) (F : Fl) (A : Ac17) : Nat → Ga
  | 0 => (Ga.mk c.P c.B c.S c.U 0 0 n (tbF F n).1 (tbF F n).2)
  | i + 1 => Ga.norm ((bkX c n F A i).inn' (A.id i) (A.n i)) (bkX c n F A i)
theorem bkX_sim {c : Cf} {n len : Nat} {F : Fl} {A : Ac17} (hc : COk c n F) (hA : ∀ i, i < len → (0 ≤ A.ki i ∧ A.ki i ≤ 255) ∧ (0 ≤ A.n i ∧ A.n i ≤ 18446744073709551615)) : ∀ i, i ≤ len → ∃ P B, Sim c n F (bkX c n F A i) P B
  | 0, _ => ⟨_, _, sim_new hc⟩
  | i + 1, h => by
    obtain ⟨P, B, hs⟩ := bkX_sim hc hA i (by omega)
    obtain ⟨_, q0, q1⟩ := hA i (by omega)
    have hs' := hs.inn' hc q0 q1 (y := A.id i)
    rw [← inn_norm] at hs'
    exact ⟨_, _, hs'⟩
section
variable {c : Cf} {n : Nat} {F : Fl} {x : Ga} {P B : Nat → Int}
theorem fit_left {y k : Int} (h : x.fit y k = 0) : k ≤ x.B - x.b := by
  unfold Ga.fit at h
  split at h
  · cases h
  split at h
  · cases h
  split at h
  · cases h
  split at h
  · cases h
  omega
/-- In and out again: all is as it was. -/
theorem back_eq (hc : COk c n F) (hs : Sim c n F x P B) {y k : Int} (q0 : 0 ≤ k) (q1 : k ≤ 18446744073709551615) (e : x.may y k = 0) :
    ((Rg.mk c n F ((Rg.mk c n F P B).inn y k).P ((Rg.mk c n F P B).inn y k).B).outE y k = 0) ∧
    ((Rg.mk c n F ((Rg.mk c n F P B).inn y k).P ((Rg.mk c n F P B).inn y k).B).out y k).P = P ∧ ((Rg.mk c n F ((Rg.mk c n F P B).inn y k).P ((Rg.mk c n F P B).inn y k).B).out y k).B = B := by
  have hf := may_fit e
  have hr : (Rg.mk c n F P B).may y k = 0 := by rw [← hs.may hc y k q0 q1]; exact e
  have hi : ¬ idx F.id y n < 0 := rfit_at (rmay_fit hr)
  obtain ⟨i0, i1, i2⟩ := idx_k hi
  have h1 := hs.p0 _ i2; have h2 := hs.b0 _ i2; have h3 := tS_le hs.p0 _ i2; have h4 := tS_le hs.b0 _ i2; have h5 := hs.pT; have h6 := hs.bT; have h7 := hc.P1; have h8 := hc.B1; have h9 := hs.hb; have h10 := hs.eB
  have hl := fit_left hf
  have ei : (Rg.mk c n F P B).inn y k = (Rg.mk c n F P B).put y k := if_pos hr
  rw [ei]
  have ep : IntKind.wrap IntKind.i64 (P (idx F.id y n).toNat + 1) = P (idx F.id y n).toNat + 1 := i64_id (by omega) (by omega)
  have eb : IntKind.wrap IntKind.u64 (B (idx F.id y n).toNat + k) = B (idx F.id y n).toNat + k := u64_id (by omega) (by omega)
  have pP : ((Rg.mk c n F P B).put y k).P = putF P (idx F.id y n).toNat (P (idx F.id y n).toNat + 1) := by
    show putF P (idx F.id y n).toNat (IntKind.wrap IntKind.i64 (P (idx F.id y n).toNat + 1)) = _
    rw [ep]
  have pB : ((Rg.mk c n F P B).put y k).B = putF B (idx F.id y n).toNat (B (idx F.id y n).toNat + k) := by
    show putF B (idx F.id y n).toNat (IntKind.wrap IntKind.u64 (B (idx F.id y n).toNat + k)) = _
    rw [eb]
  rw [pP, pB]
  have pf : ∀ (G : Nat → Int) (v : Int), putF G (idx F.id y n).toNat v (idx F.id y n).toNat = v := fun _ _ => if_pos rfl
  have back : ∀ (G : Nat → Int) (v : Int), putF (putF G (idx F.id y n).toNat v) (idx F.id y n).toNat (G (idx F.id y n).toNat) = G := fun G v => by
    funext j
    unfold putF
    split
    · rename_i q; rw [q]
    · rfl
  have eo : (Rg.mk c n F (putF P (idx F.id y n).toNat (P (idx F.id y n).toNat + 1)) (putF B (idx F.id y n).toNat (B (idx F.id y n).toNat + k))).outE y k = 0 := by
    unfold Rg.outE Rg.at'
    simp only
    rw [if_neg hi]
    refine if_neg ?_
    show ¬ (putF P (idx F.id y n).toNat (P (idx F.id y n).toNat + 1) (idx F.id y n).toNat = 0 ∨ putF B (idx F.id y n).toNat (B (idx F.id y n).toNat + k) (idx F.id y n).toNat < k)
    rw [pf, pf]
    omega
  refine ⟨eo, ?_, ?_⟩
  · unfold Rg.out
    rw [if_pos eo]
    show putF (putF P (idx F.id y n).toNat (P (idx F.id y n).toNat + 1)) (idx F.id y n).toNat (IntKind.wrap .i64 (putF P (idx F.id y n).toNat (P (idx F.id y n).toNat + 1) (idx F.id y n).toNat - 1)) = P
    rw [pf, show P (idx F.id y n).toNat + 1 - 1 = P (idx F.id y n).toNat by omega, i64_id (a := P (idx F.id y n).toNat) (by omega) (by omega)]
    exact back P _
  · unfold Rg.out
    rw [if_pos eo]
    show putF (putF B (idx F.id y n).toNat (B (idx F.id y n).toNat + k)) (idx F.id y n).toNat (IntKind.wrap .u64 (putF B (idx F.id y n).toNat (B (idx F.id y n).toNat + k) (idx F.id y n).toNat - k)) = B
    rw [pf, show B (idx F.id y n).toNat + k - k = B (idx F.id y n).toNat by omega, u64_id (a := B (idx F.id y n).toNat) (by omega) (by omega)]
    exact back B _
end
theorem back17_law (c : Cf) (n len : Nat) (F : Fl) (A : Ac17) (k1 i1 n1 k2 i2 n2 : Int) (q0 : 0 ≤ n1) (q1 : n1 ≤ 18446744073709551615) (q2 : 0 ≤ n2) (q3 : n2 ≤ 18446744073709551615) (hB : 0 ≤ c.B ∧ c.B ≤ 18446744073709551615) (hF : ∀ j, j < n → 0 ≤ F.ca j ∧ F.ca j ≤ 18446744073709551615) (hA : ∀ i, i < len → (0 ≤ A.ki i ∧ A.ki i ≤ 255) ∧ (0 ≤ A.n i ∧ A.n i ≤ 18446744073709551615)) :
    LawOk Try.prog 3 [cfV c (.own 0), .nv (.one (.own 1)), .nv (.agg [.val (.int .u8 k1), .val (.int .u32 i1), .val (.int .u64 n1), .val (.int .u8 k2), .val (.int .u32 i2), .val (.int .u64 n2)])] [.ro 5 n (gFl F), .ro 3 len (gA17 A)] (bA true) := by
  by_cases hl : 200 < len
  · exact bk_l c n len F A k1 i1 n1 k2 i2 n2 hl
  have hl : len ≤ 200 := by omega
  by_cases he : chkA c n F = 0
  case neg => exact bk_x c n len F A k1 i1 n1 k2 i2 n2 hl he
  have hc := cok_of he hB hF
  have sS : ∀ {x : Ga} {P B : Nat → Int}, Sim c n F x P B → 0 ≤ x.S ∧ x.S.toNat ≤ 16 := fun hs => by
    have := hs.eS; have := hc.S0; have := hc.S1
    omega
  have l := count_loop (P := Try.prog) (m0 := 2) (c := loopOf Try.f3 0) (n := len) (fun i => mkSt 104 [(7, .nv (.one (.ptr 2 0))), (8, .nv (.one (.ptr 3 0))), (9, .nv (.one (.ptr 4 0))), (38, .nv (.one (.own 1))), (39, iA len), (40, iA i)] [.ro 5 n (gFl F), .ro 3 len (gA17 A), .box 29 [.val (.int .u8 k1), .val (.int .u32 i1), .val (.int .u64 n1)], .box 29 [.val (.int .u8 k2), .val (.int .u32 i2), .val (.int .u64 n2)], .box 60 (gtD (bkX c n F A i).P (bkX c n F A i).B (bkX c n F A i).S (bkX c n F A i).U (bkX c n F A i).n (bkX c n F A i).b 5), .box 78 [.own 6, .val (.int .i64 (bkX c n F A i).m), .val (.int .i64 64)], .row 80 5 (bkX c n F A i).M (gS (bkX c n F A i).T)]) (X := .exit 0) (by simp)
    (fun i hi => by
      obtain ⟨P, B, hs⟩ := bkX_sim hc hA i (by omega)
      exact bk_n c n len F A k1 i1 n1 k2 i2 n2 i _ hi hl hs.ok (hs.ok2 hc) (sS hs).1 (sS hs).2) (bk_e c n len F A k1 i1 n1 k2 i2 n2 _ hl)
  obtain ⟨P, B, hs⟩ := bkX_sim hc hA len (Nat.le_refl _)
  generalize bkX c n F A len = x at l hs
  have h1 := hs.inn' hc q0 q1 (y := i1)
  by_cases e : x.may i1 n1 = 0
  · obtain ⟨b1, b2, b3⟩ := back_eq hc hs q0 q1 e
    rw [← inn_norm x] at h1
    have h2 := h1.out hc q0 q1 (y := i1)
    have t3 := h1.outE i1 n1
    rw [b1] at t3
    rw [b2, b3, ← out_norm] at h2
    have t0 := h2.hn; have t1 := h2.hb; have t0' := hs.hn; have t1' := hs.hb
    have m1 := h2.may hc i2 n2 q2 q3
    have m2 := hs.may hc i2 n2 q2 q3
    exact bk_b c n len F A k1 i1 n1 k2 i2 n2 x hl he hs.ok (hs.ok2 hc) (sS hs).1 (sS hs).2 h1.ok (h1.ok2 hc) h2.ok (h2.ok2 hc) e t3 (beq_iff_eq.2 (t0'.trans t0.symm)) (beq_iff_eq.2 (t1'.trans t1.symm)) (beq_iff_eq.2 (m1.trans m2.symm)) l
  · have ex : x.inn' i1 n1 = x := if_neg e
    rw [← inn_norm x] at h1
    have ex' : Ga.norm (x.inn' i1 n1) x = x := by rw [inn_norm]; exact ex
    exact bk_a c n len F A k1 i1 n1 k2 i2 n2 x hl he hs.ok (hs.ok2 hc) (sS hs).1 (sS hs).2 h1.ok (h1.ok2 hc) e (by rw [ex']; exact beq_self_eq_true _) (by rw [ex']; exact beq_self_eq_true _) (by rw [ex']; exact beq_self_eq_true _) l
abbrev shTw : Sh := .agg 6 (.cons 0 3 (.agg 3 psA17) (.cons 3 3 (.agg 3 psA17) .nil))
theorem list6b {α : Type} {l : List α} (h : l.length = 6) : ∃ a b c d e f, l = [a, b, c, d, e, f] := by
  match l, h with
  | [a, b, c, d, e, f], _ => exact ⟨a, b, c, d, e, f, rfl⟩
theorem tw_args {w : World} {a0 : Array Value} (r0 : Reads w shTw (Value.agg a0).cells.toList) : ∃ k1 i1 n1 k2 i2 n2 : Int, a0 = #[.int .u8 k1, .int .u32 i1, .int .u64 n1, .int .u8 k2, .int .u32 i2, .int .u64 n2] ∧ (0 ≤ n1 ∧ n1 ≤ 18446744073709551615) ∧ (0 ≤ n2 ∧ n2 ≤ 18446744073709551615) := by
  obtain ⟨hl, ⟨_, ⟨a, e0, k0⟩, ⟨b, e1, k1⟩, ⟨c, e2, k2⟩, _⟩, ⟨_, ⟨d, e3, k3⟩, ⟨e, e4, k4⟩, ⟨f, e5, k5⟩, _⟩, _⟩ := r0
  refine ⟨a, b, c, d, e, f, ?_, wf_u64 k2, wf_u64 k5⟩
  apply Array.ext'
  have hl' : a0.toList.length = 6 := hl
  obtain ⟨x0, x1, x2, x3, x4, x5, hq⟩ := list6b hl'
  simp only [Value.cells] at e0 e1 e2 e3 e4 e5
  rw [hq] at e0 e1 e2 e3 e4 e5 ⊢
  simp at e0 e1 e2 e3 e4 e5
  rw [e0, e1, e2, e3, e4, e5]
theorem back17_walk (a0 : Array Value) (a2 : Option Addr) (len cap2 : Nat) (a3 : Array Value) (w : World) (r0 : Reads w shCf (Value.agg a0).cells.toList) (r2 : Reads w (.slice 3 (.agg 3 psA17)) (Value.slice a2 len cap2).cells.toList) (r3 : Reads w shTw (Value.agg a3).cells.toList) :
    Calls Try.prog 3 #[.agg a0, .slice a2 len cap2, .agg a3] w fun e w' => e = .returned (.bool true) ∧ Ext w w' := by
  obtain ⟨c, ao, n, cap, rfl, hB, r1⟩ := cf_args r0
  obtain ⟨k1, i1, n1, k2, i2, n2, rfl, ⟨q0, q1⟩, q2, q3⟩ := tw_args r3
  obtain ⟨F, A, hF, hA, hm⟩ := came17 r1 r2
  refine (back17_law c n len F A k1 i1 n1 k2 i2 n2 q0 q1 q2 q3 hB hF hA _ [.agg (cfA c ao n cap), .slice a2 len cap2, .agg #[.int .u8 k1, .int .u32 i1, .int .u64 n1, .int .u8 k2, .int .u32 i2, .int .u64 n2]] w ⟨⟨_, rfl, rfl, rfl, rfl, rfl, rfl, rfl, rfl, rfl, rfl, rfl, ⟨env2_0 _ _, _, _, _, rfl⟩, trivial⟩, ⟨env2_1 _ _, _, _, _, rfl⟩, ⟨_, rfl, rfl, rfl, rfl, rfl, rfl, rfl, trivial⟩, trivial⟩ hm).mono ?_
  rintro e w' ⟨u, rfl, hu, hx⟩
  exact ⟨by rw [show u = .bool true from hu], hx⟩
end Go.Proofs.Ytmhkbepnankopaa

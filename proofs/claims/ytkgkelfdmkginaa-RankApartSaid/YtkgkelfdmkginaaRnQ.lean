/- RankApart returns true. No condition. -/
import Derived.Test.YtkgkelfdmkginaaRnP
namespace Go.Proofs.Ytkgkelfdmkginaa
set_option linter.unusedVariables false
set_option linter.unusedSimpArgs false
open Go.RowKit E

theorem apart_loop (k id : Int) (n len : Nat) (F : Fl) (A : Ac) (hl : len ≤ 200) (hk : 2 ≤ k ∧ k ≤ 3) (h1 : 1 ≤ n) (hn : n ≤ 64) (bF : rkB n F (tag0 k F)) (bA : ∀ i, i < len → u64B (A.sz i) ∧ (0 ≤ A.la i ∧ A.la i ≤ 4294967295)) :
    CodeOk Try.prog 2 (.loop (loopOf Try.f4 0)) (apartS k id n len F A 0 0 (tag0 k F) (tag0 k F)) (.exit 0) (mkSt 101 [] [.gone, .gone]) := by
  refine loop_ok (α := Nat × Int × (Nat → Int) × (Nat → Int)) (fun p => apartS k id n len F A p.1 p.2.1 p.2.2.1 p.2.2.2)
    (fun p => p.1 ≤ len ∧ (0 ≤ p.2.1 ∧ p.2.1 ≤ p.1 * 4294967295) ∧ rkB n F p.2.2.1 ∧ rkB n F p.2.2.2 ∧ (0 ≤ idx F.id id n → p.2.2.1 (idx F.id id n).toNat = p.2.2.2 (idx F.id id n).toNat))
    (fun p => len - p.1) (by simp) ?_ (x := (0, 0, tag0 k F, tag0 k F)) ⟨Nat.zero_le _, by simp, bF, bF, fun _ => rfl⟩
  rintro ⟨i, now, Ta, Tb⟩ ⟨i1, i2, i3, i4, i5⟩
  simp only at i1 i2 i3 i4 i5
  by_cases e : i = len
  · subst e
    exact .inr (ap_e k id n i F A now Ta Tb hl)
  have hi : i < len := by omega
  obtain ⟨a1, a2⟩ := bA i hi
  have e1 : IntKind.wrap IntKind.u64 (A.la i) = A.la i := wU64 rfl (by omega)
  have hnw : IntKind.wrap IntKind.u64 (now + IntKind.wrap IntKind.u64 (A.la i)) = now + A.la i := by rw [e1]; exact wU64 rfl (by omega)
  have bw : u64B (now + A.la i) := by unfold u64B; omega
  have bz : u64B 0 := by unfold u64B; omega
  have hnow : 0 ≤ now + A.la i ∧ now + A.la i ≤ ((i + 1 : Nat) : Int) * 4294967295 := by omega
  have hk' : 1 ≤ k ∧ k ≤ 3 := by omega
  have k1 : ¬ k = 1 := by omega
  have bTa := nextT_bd (k := k) (x := A.id i) i3 bz a1
  have bTb := nextT_bd (k := k) (x := A.id i) i4 bz a1
  by_cases h : A.id i = id
  · have hR : nextR k F Ta 0 (now + A.la i) (A.id i) n = nextR k F Tb 0 (now + A.la i) (A.id i) n := by
      rw [h]
      unfold nextR
      by_cases q : idx F.id id n < 0
      · rw [if_pos q, if_pos q]
      · simp only [if_neg q, if_neg k1, i5 (by omega)]
    refine .inl ⟨(i + 1, now + A.la i, nextT k F Ta 0 (A.id i) (A.sz i) n, nextT k F Tb 0 (A.id i) (A.sz i) n), ⟨by simp only; omega, hnow, bTa, bTb, fun q => ?_⟩, by simp only; omega, ?_⟩
    · have := i5 q
      simp only
      unfold nextT
      simp only [h, this]
    · exact ap_s k id n len i F A now _ Ta Tb hi hl hk' h1 hn hnw bw bz a1 i3 i4 h hR
  · refine .inl ⟨(i + 1, now + A.la i, nextT k F Ta 0 (A.id i) (A.sz i) n, Tb), ⟨by simp only; omega, hnow, bTa, i4, fun q => ?_⟩, by simp only; omega, ?_⟩
    · have := i5 q
      simp only
      have hne : ((idx F.id id n).toNat : Int) ≠ idx F.id (A.id i) n := by
        intro hq
        have p1 : F.id (idx F.id id n).toNat = id := idx_at q
        have p2 : 0 ≤ idx F.id (A.id i) n := by omega
        have p3 : F.id (idx F.id (A.id i) n).toNat = A.id i := idx_at p2
        rw [← hq, Int.toNat_natCast] at p3
        exact h (p3.symm.trans p1)
      unfold nextT
      rw [if_neg hne, this]
    · exact ap_o k id n len i F A now _ Ta Tb hi hl hk' h1 hn hnw bw bz a1 i3 i4 h

theorem act_args {w : World} {c : Array Value} (h : Reads w (.agg 5 psAc) (Value.agg c).cells.toList) : ∃ (kd id sz la : Int) (ta : Option Addr) (tl tc : Nat), c = #[.int .u8 kd, .int .u32 id, .int .u64 sz, .int .u32 la, .slice ta tl tc] ∧ (0 ≤ kd ∧ kd ≤ 255) := by
  obtain ⟨hl, ⟨kd, e0, k0⟩, ⟨id, e1, k1⟩, ⟨sz, e2, k2⟩, ⟨la, e3, k3⟩, ⟨ta, tl, tc, es, e4, _⟩, _⟩ := h
  refine ⟨kd, id, sz, la, ta, tl, tc, ?_, wf_u8 k0⟩
  apply Array.ext'
  have hl' : c.toList.length = 5 := hl
  obtain ⟨x0, x1, x2, x3, x4, q⟩ := list5 hl'
  have q' : (Value.agg c).cells.toList = [x0, x1, x2, x3, x4] := q
  rw [q'] at e0 e1 e2 e3 e4
  simp at e0 e1 e2 e3 e4
  rw [q, e0, e1, e2, e3, e4]
theorem apart_walk (c : Array Value) (a1 : Option Addr) (n cap1 : Nat) (a2 : Option Addr) (len cap2 : Nat) (w : World) (r0 : Reads w (.agg 5 psAc) (Value.agg c).cells.toList) (r1 : Reads w (.slice 5 (.agg 5 psFl)) (Value.slice a1 n cap1).cells.toList) (r2 : Reads w (.slice 5 (.agg 5 psAc)) (Value.slice a2 len cap2).cells.toList) :
    Calls Try.prog 4 #[.agg c, .slice a1 n cap1, .slice a2 len cap2] w fun e w' => e = .returned (.bool true) ∧ Ext w w' := by
  obtain ⟨F, A, bF, bA', hm⟩ := came_in r1 r2
  obtain ⟨kd, id, sz, la, ta, tl, tc, rfl, hkd⟩ := act_args r0
  have e0 : Int.tmod kd 2 = kd % 2 := Int.tmod_eq_emod_of_nonneg hkd.1
  have hk : IntKind.wrap IntKind.i64 (IntKind.wrap IntKind.i64 (Int.tmod kd 2) + 2) = kd % 2 + 2 := by
    rw [e0, w64 (a := kd % 2) (b := kd % 2) rfl (by omega)]; exact w64 rfl (by omega)
  have hk1 : 2 ≤ kd % 2 + 2 ∧ kd % 2 + 2 ≤ 3 := by omega
  have fin : LawOk Try.prog 4 [.nv (.agg [.val (.int .u8 kd), .val (.int .u32 id), .val (.int .u64 sz), .val (.int .u32 la), .val (.slice ta tl tc)]), .nv (.one (.own 0)), .nv (.one (.own 1))] [.ro 5 n (gFl F), .ro 5 len (gAc A)] (bA true) := by
    by_cases hl : len ≤ 200
    · by_cases hc : chkR (kd % 2 + 2) n F = 0
      · obtain ⟨_, c2, c3, c4⟩ := chkR_ok.1 hc
        exact apart_ok kd _ id sz la ta tl tc n len F A hl hk (by omega) c2 c3 c4 (apart_loop _ id n len F A hl hk1 c2 c3 (tag0_bd bF _) bA')
      · exact apart_err kd _ id sz la ta tl tc n len F A hl hk hc
    · exact apart_long kd 0 id sz la ta tl tc n len F A (by omega)
  refine (fin _ [.agg #[.int .u8 kd, .int .u32 id, .int .u64 sz, .int .u32 la, .slice ta tl tc], .slice a1 n cap1, .slice a2 len cap2] w ⟨⟨_, rfl, rfl, rfl, rfl, rfl, rfl, trivial⟩, ⟨env2_0 _ _, _, _, _, rfl⟩, ⟨env2_1 _ _, _, _, _, rfl⟩, trivial⟩ hm).mono ?_
  rintro e w' ⟨u, rfl, hu, hx⟩
  exact ⟨by rw [show u = .bool true from hu], hx⟩
end Go.Proofs.Ytkgkelfdmkginaa

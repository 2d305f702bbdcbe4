/- RankRises, RankNobody return true. No condition. -/
import Derived.Test.YtkgkelfdmkginaaRnL
import Derived.Test.YtkgkelfdmkginaaEB
namespace Go.Proofs.Ytkgkelfdmkginaa
set_option linter.unusedVariables false
set_option linter.unusedSimpArgs false
open Go.RowKit E

theorem u64_sub {x m : Int} (h : u64B x) (hm : u64B m) : u64B (subU x m) ∧ subU x m ≤ x := by unfold u64B at *; unfold subU; split <;> omega
theorem u64_cap {x : Int} (h : 0 ≤ x) : u64B (capU x) := capU_bd h
theorem cap_mono {x y : Int} (h : x ≤ y) : capU x ≤ capU y := by unfold capU; split <;> split <;> omega
theorem u64_mx {v t : Int} (h : u64B v) (k : u64B t) : u64B (mxU v t) ∧ v ≤ mxU v t ∧ t ≤ mxU v t := by unfold u64B mxU at *; split <;> omega
theorem cap_ge {x y : Int} (h : u64B x) (hy : 0 ≤ y) : x ≤ capU (x + y) := by unfold u64B at h; unfold capU; split <;> omega
theorem nextT_bd {k : Int} {F : Fl} {T : Nat → Int} {v x m : Int} {n : Nat} (hb : rkB n F T) (hv : u64B v) (hm : u64B m) : rkB n F (nextT k F T v x m n) := by
  intro i hi
  obtain ⟨b1, b2, b3, b4⟩ := hb i hi
  refine ⟨?_, b2, b3, b4⟩
  unfold nextT
  split
  · split
    · have h1 := (u64_mx hv b1).1
      have h2 : u64B (capU (F.co i * m)) := u64_cap (Int.mul_nonneg b2.1 hm.1)
      exact u64_cap (by unfold u64B at h1 h2; omega)
    · split
      · exact b1
      · exact (u64_sub b1 hm).1
  · exact b1
/-- What is known of a flow that was met. -/
def metB (k : Int) (F : Fl) (T L : Nat → Int) (now : Int) (j : Nat) : Prop := (k = 1 → L j ≤ T j) ∧ (k = 2 → L j ≤ capU (now + F.bu j)) ∧ (k = 3 → T j ≤ L j)
theorem metB_later {k : Int} {F : Fl} {T L : Nat → Int} {now nw : Int} {j : Nat} (h : metB k F T L now j) (hn : now ≤ nw) : metB k F T L nw j :=
  ⟨h.1, fun e => Int.le_trans (h.2.1 e) (cap_mono (by omega)), h.2.2⟩

theorem rises_loop (k : Int) (n len : Nat) (F : Fl) (A : Ac) (hl : len ≤ 200) (hk : 1 ≤ k ∧ k ≤ 3) (h1 : 1 ≤ n) (hn : n ≤ 64) (bF : rkB n F (tag0 k F)) (bA : ∀ i, i < len → u64B (A.sz i) ∧ (0 ≤ A.la i ∧ A.la i ≤ 4294967295)) :
    CodeOk Try.prog 2 (.loop (loopOf Try.f3 0)) (risesS k n len F A 0 0 0 0 (tag0 k F) (fun _ => 0) (fun _ => false)) (.exit 0) (mkSt 136 [] [.gone, .gone]) := by
  refine loop_ok (α := Nat × Int × Int × Int × (Nat → Int) × (Nat → Int) × (Nat → Bool)) (fun p => risesS k n len F A p.1 p.2.1 p.2.2.1 p.2.2.2.1 p.2.2.2.2.1 p.2.2.2.2.2.1 p.2.2.2.2.2.2)
    (fun p => p.1 ≤ len ∧ (0 ≤ p.2.1 ∧ p.2.1 ≤ p.1 * 4294967295) ∧ u64B p.2.2.1 ∧ u64B p.2.2.2.1 ∧ rkB n F p.2.2.2.2.1 ∧ ∀ j, j < n → p.2.2.2.2.2.2 j = true → metB k F p.2.2.2.2.1 p.2.2.2.2.2.1 p.2.1 j)
    (fun p => len - p.1) (by simp) ?_ (x := (0, 0, 0, 0, tag0 k F, fun _ => 0, fun _ => false)) ⟨Nat.zero_le _, by simp, by unfold u64B; simp, by unfold u64B; simp, bF, fun j _ h => by cases h⟩
  rintro ⟨i, now, vv, v, T, L, M⟩ ⟨i1, i2, i3, i4, i5, i6⟩
  simp only at i1 i2 i3 i4 i5 i6
  by_cases e : i = len
  · subst e
    exact .inr (ri_e k n i F A now vv v T L M hl)
  have hi : i < len := by omega
  obtain ⟨a1, a2⟩ := bA i hi
  have e1 : IntKind.wrap IntKind.u64 (A.la i) = A.la i := wU64 rfl (by omega)
  have hnw : IntKind.wrap IntKind.u64 (now + IntKind.wrap IntKind.u64 (A.la i)) = now + A.la i := by rw [e1]; exact wU64 rfl (by omega)
  have bw : u64B (now + A.la i) := by unfold u64B; omega
  have later : now ≤ now + A.la i := by omega
  have hnow : 0 ≤ now + A.la i ∧ now + A.la i ≤ ((i + 1 : Nat) : Int) * 4294967295 := by omega
  by_cases h0 : 4 < Int.tmod (A.kd i) 8
  · have b := (u64_mx i3 a1).1
    refine .inl ⟨(i + 1, now + A.la i, mxU vv (A.sz i), (if k = 1 then mxU vv (A.sz i) else v), T, L, M), ⟨by simp only; omega, hnow, b, by simp only; split; exact b; exact i4, i5, fun j hj hm => metB_later (i6 j hj hm) later⟩, by simp only; omega, ?_⟩
    exact ri_s k n len i F A now vv v _ T L M trivial hi hl hk h1 hn hnw bw i4 a1 i5 h0
  · have h0' : Int.tmod (A.kd i) 8 ≤ 4 := by omega
    have bT := nextT_bd (k := k) (x := A.id i) i5 i4 a1
    rcases idx_cases F.id (A.id i) n with h | ⟨a, h⟩
    · have eT : nextT k F T v (A.id i) (A.sz i) n = T := by funext q; unfold nextT; rw [h, if_neg (by omega)]
      have := ri_n k n len i F A now vv v _ T L M hi hl hk h1 hn hnw bw i4 a1 i5 h0' h
      rw [eT] at this
      exact .inl ⟨(i + 1, now + A.la i, vv, v, T, L, M), ⟨by simp only; omega, hnow, i3, i4, i5, fun j hj hm => metB_later (i6 j hj hm) later⟩, by simp only; omega, this⟩
    · have ha := (idx_some h).1
      obtain ⟨t1, t2, t3, t4⟩ := i5 a ha
      have other : ∀ j, j ≠ a → nextT k F T v (A.id i) (A.sz i) n j = T j := fun j hj => by unfold nextT; rw [h, if_neg (by omega)]
      -- the state behind it, whatever the kind
      have step : ∀ x : Int, x = nextR k F T v (now + A.la i) (A.id i) n → (k = 1 → x ≤ nextT k F T v (A.id i) (A.sz i) n a) → (k = 2 → x ≤ capU (now + A.la i + F.bu a)) → (k = 3 → nextT k F T v (A.id i) (A.sz i) n a ≤ x) →
          CodeOk Try.prog 2 (loopOf Try.f3 0) (risesS k n len F A i now vv v T L M) .normal
            (risesS k n len F A (i + 1) (now + A.la i) vv v (nextT k F T v (A.id i) (A.sz i) n) (fun j => if j = a then nextR k F T v (now + A.la i) (A.id i) n else L j) (fun j => if j = a then true else M j)) →
          (∃ p : Nat × Int × Int × Int × (Nat → Int) × (Nat → Int) × (Nat → Bool), (p.1 ≤ len ∧ (0 ≤ p.2.1 ∧ p.2.1 ≤ p.1 * 4294967295) ∧ u64B p.2.2.1 ∧ u64B p.2.2.2.1 ∧ rkB n F p.2.2.2.2.1 ∧ ∀ j, j < n → p.2.2.2.2.2.2 j = true → metB k F p.2.2.2.2.1 p.2.2.2.2.2.1 p.2.1 j) ∧ len - p.1 < len - i ∧
            CodeOk Try.prog 2 (loopOf Try.f3 0) (risesS k n len F A i now vv v T L M) .normal (risesS k n len F A p.1 p.2.1 p.2.2.1 p.2.2.2.1 p.2.2.2.2.1 p.2.2.2.2.2.1 p.2.2.2.2.2.2)) := by
        intro x hx x1 x2 x3 hc
        have hL : ∃ Ln : Nat → Int, (fun j => if j = a then nextR k F T v (now + A.la i) (A.id i) n else L j) = Ln ∧ Ln a = x ∧ ∀ j, j ≠ a → Ln j = L j := ⟨_, rfl, by simp [hx], fun j hj => by simp [hj]⟩
        obtain ⟨Ln, eL, l1, l2⟩ := hL
        rw [eL] at hc
        refine ⟨(i + 1, now + A.la i, vv, v, nextT k F T v (A.id i) (A.sz i) n, Ln, fun j => if j = a then true else M j), ⟨by simp only; omega, hnow, i3, i4, bT, fun j hj hm => ?_⟩, by simp only; omega, hc⟩
        show metB k F (nextT k F T v (A.id i) (A.sz i) n) Ln (now + A.la i) j
        by_cases q : j = a
        · rw [q]
          exact ⟨fun e => by rw [l1]; exact x1 e, fun e => by rw [l1]; exact x2 e, fun e => by rw [l1]; exact x3 e⟩
        · have hm : (if j = a then true else M j) = true := hm
          rw [if_neg q] at hm
          obtain ⟨m1, m2, m3⟩ := metB_later (i6 j hj hm) later
          exact ⟨fun e => by rw [l2 j q, other j q]; exact m1 e, fun e => by rw [l2 j q]; exact m2 e, fun e => by rw [l2 j q, other j q]; exact m3 e⟩
      have R : ∀ z, nextR k F T v (now + A.la i) (A.id i) n = z → (k = 1 → z = mxU v (T a)) ∧ (k = 2 → z = capU (now + A.la i + F.bu a)) ∧ (k = 3 → z = T a) := by
        intro z hz
        unfold nextR at hz
        rw [h, if_neg (by omega)] at hz
        simp only [Int.toNat_natCast] at hz
        refine ⟨fun e => ?_, fun e => ?_, fun e => ?_⟩
        · rw [if_pos e] at hz; exact hz.symm
        · rw [if_neg (by omega), if_pos e] at hz; exact hz.symm
        · rw [if_neg (by omega), if_neg (by omega)] at hz; exact hz.symm
      obtain ⟨r1, r2, r3⟩ := R _ rfl
      have eTa : nextT k F T v (A.id i) (A.sz i) n a = if k = 1 then capU (mxU v (T a) + capU (F.co a * A.sz i)) else if k = 2 then T a else subU (T a) (A.sz i) := by unfold nextT; rw [h, if_pos rfl]
      have mx := u64_mx i4 t1
      by_cases k1 : k = 1
      · have hx : M a = true → L a ≤ nextR k F T v (now + A.la i) (A.id i) n := fun hm => by rw [r1 k1]; exact Int.le_trans ((i6 a ha hm).1 k1) mx.2.2
        have hv : v ≤ nextR k F T v (now + A.la i) (A.id i) n := by rw [r1 k1]; exact mx.2.1
        refine .inl (step _ rfl (fun _ => ?_) (fun e => by omega) (fun e => by omega) ?_)
        · rw [eTa, if_pos k1, r1 k1]
          exact cap_ge mx.1 (u64_cap (Int.mul_nonneg t2.1 a1.1)).1
        · cases hm : M a with
          | true => exact ri_1t k n len i F A now vv v _ T L M hi hl hk h1 hn hnw bw i4 a1 i5 h0' a ha h k1 hm (hx hm) hv
          | false => exact ri_1f k n len i F A now vv v _ T L M hi hl hk h1 hn hnw bw i4 a1 i5 h0' a ha h k1 hm hv
      · by_cases k2 : k = 2
        · have hx : M a = true → L a ≤ nextR k F T v (now + A.la i) (A.id i) n := fun hm => by rw [r2 k2]; exact Int.le_trans ((i6 a ha hm).2.1 k2) (cap_mono (by omega))
          refine .inl (step _ rfl (fun e => by omega) (fun _ => by rw [r2 k2]; exact Int.le_refl _) (fun e => by omega) ?_)
          cases hm : M a with
          | true => exact ri_2t k n len i F A now vv v _ T L M hi hl hk h1 hn hnw bw i4 a1 i5 h0' a ha h k2 hm (hx hm)
          | false => exact ri_2f k n len i F A now vv v _ T L M hi hl hk h1 hn hnw bw i4 a1 i5 h0' a ha h k2 hm
        · have k3 : k = 3 := by omega
          have hx : M a = true → nextR k F T v (now + A.la i) (A.id i) n ≤ L a := fun hm => by rw [r3 k3]; exact (i6 a ha hm).2.2 k3
          refine .inl (step _ rfl (fun e => by omega) (fun e => by omega) (fun _ => ?_) ?_)
          · rw [eTa, if_neg k1, if_neg k2, r3 k3]; exact (u64_sub t1 a1).2
          · cases hm : M a with
            | true => exact ri_3t k n len i F A now vv v _ T L M hi hl hk h1 hn hnw bw i4 a1 i5 h0' a ha h k3 hm (hx hm)
            | false => exact ri_3f k n len i F A now vv v _ T L M hi hl hk h1 hn hnw bw i4 a1 i5 h0' a ha h k3 hm

abbrev psFl : Shs := .cons 0 1 (.int .u32) (.cons 1 1 (.int .u64) (.cons 2 1 (.int .u64) (.cons 3 1 (.int .u64) (.cons 4 1 (.int .u64) .nil))))
abbrev psAc : Shs := .cons 0 1 (.int .u8) (.cons 1 1 (.int .u32) (.cons 2 1 (.int .u64) (.cons 3 1 (.int .u32) (.cons 4 1 (.slice 1 (.int .u64)) .nil))))
def flEs (es : Nat → List Value) : Fl := ⟨fun k => cI (es k) 0, fun k => cI (es k) 1, fun k => cI (es k) 2, fun k => cI (es k) 3, fun k => cI (es k) 4⟩
def acEs (es : Nat → List Value) : Ac := ⟨fun k => cI (es k) 0, fun k => cI (es k) 1, fun k => cI (es k) 2, fun k => cI (es k) 3, fun k => cA (es k) 4, fun k => cL (es k) 4, fun k => cC (es k) 4⟩
def flB (n : Nat) (F : Fl) : Prop := ∀ i, i < n → u64B (F.co i) ∧ u64B (F.bu i) ∧ u64B (F.si i)
theorem tag0_bd {n : Nat} {F : Fl} (h : flB n F) (k : Int) : rkB n F (tag0 k F) := fun i hi => by
  obtain ⟨a, b, c⟩ := h i hi
  refine ⟨?_, a, b, c⟩
  unfold tag0
  split
  · exact c
  · unfold u64B; omega
/-- Flows and acts that came in. -/
theorem came_in {w : World} {a1 a2 : Option Addr} {n cap1 len cap2 : Nat} (r1 : Reads w (.slice 5 (.agg 5 psFl)) [.slice a1 n cap1]) (r2 : Reads w (.slice 5 (.agg 5 psAc)) [.slice a2 len cap2]) :
    ∃ (F : Fl) (A : Ac), flB n F ∧ (∀ i, i < len → u64B (A.sz i) ∧ (0 ≤ A.la i ∧ A.la i ≤ 4294967295)) ∧ MemOk (env2 (.slice a1 n cap1) (.slice a2 len cap2)) [.ro 5 n (gFl F), .ro 5 len (gAc A)] w w NoS := by
  obtain ⟨es, b1, s1⟩ := rows_seg (h := 0) (n := 5) (ps := psFl) (env2_0 (.slice a1 n cap1) (.slice a2 len cap2)) rfl rfl r1
  obtain ⟨fs, b2, s2⟩ := rows_seg (h := 1) (n := 5) (ps := psAc) (env2_1 (.slice a1 n cap1) (.slice a2 len cap2)) rfl rfl r2
  refine ⟨flEs es, acEs fs, fun i hi => ?_, fun i hi => ?_, two_ro s1 s2⟩
  · obtain ⟨_, c1, c2, c3, _⟩ := b1 i hi
    exact ⟨c1, c2, c3⟩
  · obtain ⟨_, _, c1, c2, _⟩ := b2 i hi
    exact ⟨c1, c2⟩

theorem rises_walk (kd : Int) (a1 : Option Addr) (n cap1 : Nat) (a2 : Option Addr) (len cap2 : Nat) (w : World) (wk : (Lit.int .u8 kd).wf = true) (r1 : Reads w (.slice 5 (.agg 5 psFl)) (Value.slice a1 n cap1).cells.toList) (r2 : Reads w (.slice 5 (.agg 5 psAc)) (Value.slice a2 len cap2).cells.toList) :
    Calls Try.prog 3 #[.int .u8 kd, .slice a1 n cap1, .slice a2 len cap2] w fun e w' => e = .returned (.bool true) ∧ Ext w w' := by
  obtain ⟨F, A, bF, bA', hm⟩ := came_in r1 r2
  have hkd := wf_u8 wk
  have e0 : Int.tmod kd 3 = kd % 3 := Int.tmod_eq_emod_of_nonneg hkd.1
  have hk : IntKind.wrap IntKind.i64 (IntKind.wrap IntKind.i64 (Int.tmod kd 3) + 1) = kd % 3 + 1 := by
    rw [e0, w64 (a := kd % 3) (b := kd % 3) rfl (by omega)]; exact w64 rfl (by omega)
  have hk1 : 1 ≤ kd % 3 + 1 ∧ kd % 3 + 1 ≤ 3 := by omega
  have fin : LawOk Try.prog 3 [.nv (.one (.val (.int .u8 kd))), .nv (.one (.own 0)), .nv (.one (.own 1))] [.ro 5 n (gFl F), .ro 5 len (gAc A)] (bA true) := by
    by_cases hl : len ≤ 200
    · by_cases hc : chkR (kd % 3 + 1) n F = 0
      · obtain ⟨_, c2, c3, c4⟩ := chkR_ok.1 hc
        exact rises_ok kd _ n len F A hl hk hk1 c2 c3 c4 (rises_loop _ n len F A hl hk1 c2 c3 (tag0_bd bF _) bA')
      · exact rises_err kd _ n len F A hl hk hc
    · exact rises_long kd n len F A (by omega)
  refine (fin _ [.int .u8 kd, .slice a1 n cap1, .slice a2 len cap2] w ⟨rfl, ⟨env2_0 _ _, _, _, _, rfl⟩, ⟨env2_1 _ _, _, _, _, rfl⟩, trivial⟩ hm).mono ?_
  rintro e w' ⟨u, rfl, hu, hx⟩
  exact ⟨by rw [show u = .bool true from hu], hx⟩
abbrev apartS (k id : Int) (n len : Nat) (F : Fl) (A : Ac) (i : Nat) (now : Int) (Ta Tb : Nat → Int) : St :=
  mkSt 101 [(8, .nv (.one (.val (.int .u32 id)))), (10, .nv (.one (.ptr 3 0))), (12, .nv (.one (.ptr 6 0))), (14, uA now), (56, .nv (.one (.own 1))), (57, iA len), (58, iA i)]
    [.ro 5 n (gFl F), .ro 5 len (gAc A), .gone, .box 60 [.val (.int .i64 k), .own 4, .own 5, .val (.int .u64 0)], .row 56 5 n (gFl F), .row 31 1 n (gU64 Ta),
      .box 60 [.val (.int .i64 k), .own 7, .own 8, .val (.int .u64 0)], .row 56 5 n (gFl F), .row 31 1 n (gU64 Tb)]
theorem nobody_walk (now x m : Int) (w : World) (w1 : (Lit.int .u64 now).wf = true) (w2 : (Lit.int .u32 x).wf = true) (w3 : (Lit.int .u64 m).wf = true) :
    Calls Try.prog 6 #[.int .u64 now, .int .u32 x, .int .u64 m] w fun e w' => e = .returned (.bool true) ∧ Ext w w' := by
  refine (nobody now x m [.int .u64 now, .int .u32 x, .int .u64 m] w ⟨rfl, rfl, rfl, trivial⟩).mono ?_
  rintro e w' ⟨u, rfl, hu, hx⟩
  exact ⟨by rw [show u = .bool true from hu], hx⟩
end Go.Proofs.Ytkgkelfdmkginaa

/- TwinMeets returns true. No condition. -/
import Derived.Test.YtakpokccjgoapaaTyG
import Derived.Test.YtakpokccjgoapaaTyH
import Derived.Test.YtakpokccjgoapaaEB
namespace Go.Proofs.Ytakpokccjgoapaa
set_option linter.unusedVariables false
set_option linter.unusedSimpArgs false
open Go.RowKit E

abbrev rkIn (R : Nat → Int) : It := ⟨R, fun j => j⟩
def mt (R : Nat → Int) (m : Int) : Nat → Tw Int × Int
  | 0 => (tw0I, 0)
  | i + 1 => ((mt R m i).1.push i (R i) (mt R m i).2 m i, pushC i (mt R m i).2 m)
theorem mt_ok (R : Nat → Int) (m : Int) : ∀ i : Nat, (i : Int) ≤ m → i ≤ 300 → Sim i (mt R m i).1 (mt R m i).2 (srtIt (rkIn R) i) ∧ (mt R m i).2 = i
  | 0, _, _ => ⟨Sim.zero _ _ _ (show (0 : Int) < 18446744073709551616 by decide), rfl⟩
  | i + 1, hi, hl => by
    obtain ⟨h1, h2⟩ := mt_ok R m i (by omega) (by omega)
    have q : (i : Int) < m := by omega
    have b := h1.push (R i) i m q (by omega) (by omega)
    have e : pushN i m = i + 1 := by unfold pushN; rw [if_pos q]
    rw [e] at b
    refine ⟨b, ?_⟩
    show pushC i (mt R m i).2 m = _
    unfold pushC; rw [if_pos q, h2]; omega
def mpl (T : Tw Int) (N : Nat) : Nat → Tw Int
  | 0 => T
  | k + 1 => (mpl T N k).popL (N - k)
def mph (T : Tw Int) (N : Nat) : Nat → Tw Int
  | 0 => T
  | k + 1 => (mph T N k).popH (N - k)
def shIn (L : It) (k : Nat) : It := ⟨fun j => L.r (k + j), fun j => L.x (k + j)⟩
theorem shIn_rest (L : It) (k : Nat) : ∀ j, (shIn L k).rest.r j = (shIn L (k + 1)).r j ∧ (shIn L k).rest.x j = (shIn L (k + 1)).x j := fun j => by
  unfold shIn It.rest; simp only; rw [show k + (j + 1) = k + 1 + j by omega]; exact ⟨rfl, rfl⟩
theorem mpl_ok {T : Tw Int} {N : Nat} {c : Int} {L : It} (h : Sim N T c L) : ∀ k, k ≤ N → Sim (N - k) (mpl T N k) c (shIn L k)
  | 0, _ => h.congr (fun j hj => by unfold shIn; simp)
  | k + 1, hk => (mpl_ok h k (by omega)).popL.congr (fun j hj => shIn_rest L k j)
theorem mph_ok {T : Tw Int} {N : Nat} {c : Int} {L : It} (h : Sim N T c L) : ∀ k, k ≤ N → Sim (N - k) (mph T N k) c L
  | 0, _ => h
  | k + 1, hk => (mph_ok h k (by omega)).popH
theorem tm_loop0 (len k : Nat) (m : Int) (hm : m ≤ 4096) (hlm : (len : Int) ≤ m) (hl : len ≤ 300) (R : Nat → Int) (B : Nat → Bool) :
    CodeOk Try.prog 2 (.loop (loopOf Try.f4 0)) (tm0S len k 0 m R B tw0I 0) (.exit 0) (tm0E len k (mt R m len).2 m R B (mt R m len).1) := by
  refine loop_ok (α := Nat) (fun i => tm0S len k (mt R m i).2 m R B (mt R m i).1 i) (fun i => i ≤ len) (fun i => len - i) (by simp) ?_ (x := 0) (Nat.zero_le _)
  intro i hi
  by_cases e : i = len
  · subst e; exact .inr (tm0_e i k _ m R B _)
  · obtain ⟨h1, h2⟩ := mt_ok R m i (by omega) (by omega)
    have q : (i : Int) < m := by omega
    refine .inl ⟨i + 1, (show i + 1 ≤ len by omega), (show len - (i + 1) < len - i by omega), ?_⟩
    have := tm0_n len k i m (mt R m i).2 R B (mt R m i).1 (by omega) hl ⟨by omega, by omega, by omega, by omega⟩ q (decide_eq_true q)
    have e : pushN i m = i + 1 := by unfold pushN; rw [if_pos q]
    rw [e] at this
    exact this
theorem tm_loop1 (len k : Nat) (hl : len ≤ 300) (c m : Int) (R : Nat → Int) (B : Nat → Bool) (T : Tw Int) (L : It) (h : Sim len T c L) :
    CodeOk Try.prog 2 (.loop (loopOf Try.f4 1)) (tm1S len k len len c m R B T T T 0 (fun j => L.x j) (fun j => L.x (len - 1 - j))) (.exit 2) (tm1E len k 0 len c m R B (mpl T len len) (mph T len len) T (fun j => L.x j) (fun j => L.x (len - 1 - j))) := by
  refine loop_ok (α := Nat) (fun i => tm1S len k (len - i) len c m R B (mpl T len i) (mph T len i) T i (fun j => L.x j) (fun j => L.x (len - 1 - j))) (fun i => i ≤ len) (fun i => len - i) (by simp) ?_ (x := 0) (Nat.zero_le _)
  intro i hi
  by_cases e : i = len
  · subst e
    have := tm1_e i k (i - i) i c m R B (mpl T i i) (mph T i i) T (fun j => L.x j) (fun j => L.x (i - 1 - j))
    refine .inr ?_
    have z : i - i = 0 := Nat.sub_self i
    simp only [z] at this ⊢
    exact this
  · have s := (mpl_ok h i hi).first
    have p : 0 < len - i := by omega
    have s2 := (mph_ok h i hi).last
    unfold fiR fiX at s
    unfold laR laX at s2
    rw [if_pos p, if_pos p] at s s2
    refine .inl ⟨i + 1, (show i + 1 ≤ len by omega), (show len - (i + 1) < len - i by omega), tm1_n len k (len - i) len i c m R B _ _ _ _ _ (by omega) hl (by omega) s.2.1 ?_⟩
    rw [s2.2.1]
    show L.x (len - i - 1) = L.x (len - 1 - i)
    rw [show len - i - 1 = len - 1 - i by omega]
theorem tm_loop2 (len k : Nat) (hl : len ≤ 300) (c m : Int) (R : Nat → Int) (B : Nat → Bool) (Ta Tb T : Tw Int) (L : It) :
    CodeOk Try.prog 2 (.loop (loopOf Try.f4 2)) (tm2S len k c m R B Ta Tb T 0 (fun j => L.x j) (fun j => L.x (len - 1 - j))) (.exit 4) (tm1E len k 0 len c m R B Ta Tb T (fun j => L.x j) (fun j => L.x (len - 1 - j))) := by
  refine loop_ok (α := Nat) (fun i => tm2S len k c m R B Ta Tb T i (fun j => L.x j) (fun j => L.x (len - 1 - j))) (fun i => i ≤ len) (fun i => len - i) (by simp) ?_ (x := 0) (Nat.zero_le _)
  intro i hi
  by_cases e : i = len
  · subst e; exact .inr (tm2_e i k c m R B Ta Tb T _ _)
  · refine .inl ⟨i + 1, (show i + 1 ≤ len by omega), (show len - (i + 1) < len - i by omega), tm2_n len k i c m R B Ta Tb T _ _ (by omega) hl ?_ ?_⟩
    · rw [w64 (a := (len : Int) - 1) (b := (len : Int) - 1) rfl (by omega)]
      exact w64 (by omega) (by omega)
    · show L.x i = L.x (len - 1 - (len - 1 - i))
      rw [show len - 1 - (len - 1 - i) = i by omega]
theorem tm_loop3 (len k : Nat) (hl : len ≤ 300) (c m : Int) (R : Nat → Int) (B : Nat → Bool) (Ta Tb T Tz : Tw Int) (L : It) (D : Nat → Int) (h : Sim len T c L) :
    CodeOk Try.prog 2 (.loop (loopOf Try.f4 3)) (tm3S len k 0 len len c m R B Ta Tb T 0 (fun j => L.x j) D) (.exit 6) (tm3E len k 0 c m R B Ta Tb Tz (fun j => L.x j) D) := by
  have main := loop_ok (P := Try.prog) (m0 := 2) (c := loopOf Try.f4 3) (ex := .exit 6) (post := tm3E len k 0 c m R B Ta Tb Tz (fun j => L.x j) D)
    (α := Nat × Nat × Tw Int) (fun z => tm3S len k z.1 z.2.1 (z.2.1 - z.1) c m R B Ta Tb z.2.2 (len - (z.2.1 - z.1)) (fun j => L.x j) D) (fun z => z.1 ≤ z.2.1 ∧ z.2.1 ≤ len ∧ Sim (z.2.1 - z.1) z.2.2 c (shIn L z.1)) (fun z => z.2.1 - z.1) (by simp) ?_ (x := (0, len, T)) ⟨Nat.zero_le _, Nat.le_refl _, h.congr (fun j hj => by unfold shIn; simp)⟩
  · have z : len - (len - 0) = 0 := by omega
    simp only [z] at main
    exact main
  rintro ⟨lo, hi, T⟩ ⟨h1, h2, h3⟩
  simp only at h1 h2 h3
  by_cases e : lo = hi
  · subst e
    have := tm3_e len k lo (len - (lo - lo)) c m R B Ta Tb T Tz (fun j => L.x j) D
    refine .inr ?_
    simp only [Nat.sub_self] at this ⊢
    exact this
  · have p : 0 < hi - lo := by omega
    have s := h3.first
    have s2 := h3.last
    unfold fiR fiX at s
    unfold laR laX at s2
    rw [if_pos p, if_pos p, decide_eq_true p] at s s2
    have sL := h3.popL.congr (fun j hj => shIn_rest L lo j)
    have sH := h3.popH
    have eu : atX 0 T (hi - lo) (mxI (hi - lo)) = L.x (hi - 1) := by
      rw [s2.2.1]; show L.x (lo + (hi - lo - 1)) = _
      rw [show lo + (hi - lo - 1) = hi - 1 by omega]
    by_cases hk : len - (hi - lo) < k
    · by_cases hB : B (len - (hi - lo)) = true
      · refine .inl ⟨(lo, hi - 1, T.popH (hi - lo)), ⟨(show lo ≤ hi - 1 by omega), (show hi - 1 ≤ len by omega), ?_⟩, (show hi - 1 - lo < hi - lo by omega), ?_⟩
        · show Sim (hi - 1 - lo) _ _ _
          rw [show hi - 1 - lo = hi - lo - 1 by omega]; exact sH
        · have := tm3_t len k lo hi (hi - lo) (len - (hi - lo)) c m R B Ta Tb T (fun j => L.x j) D (by omega) h2 hl (by omega) (by omega) hk hB (w64 (by omega) (by omega)) eu s2.2.2
          simp only [show hi - 1 - lo = hi - lo - 1 by omega, show len - (hi - lo - 1) = len - (hi - lo) + 1 by omega]
          exact this
      · have hB := Bool.eq_false_iff.2 hB
        refine .inl ⟨(lo + 1, hi, T.popL (hi - lo)), ⟨(show lo + 1 ≤ hi by omega), h2, ?_⟩, (show hi - (lo + 1) < hi - lo by omega), ?_⟩
        · show Sim (hi - (lo + 1)) _ _ _
          rw [show hi - (lo + 1) = hi - lo - 1 by omega]; exact sL
        · have := tm3_f len k lo hi (hi - lo) (len - (hi - lo)) c m R B Ta Tb T (fun j => L.x j) D (by omega) h2 hl (by omega) (by omega) hk hB s.2.1 s.2.2
          simp only [show hi - (lo + 1) = hi - lo - 1 by omega, show len - (hi - lo - 1) = len - (hi - lo) + 1 by omega]
          exact this
    · refine .inl ⟨(lo + 1, hi, T.popL (hi - lo)), ⟨(show lo + 1 ≤ hi by omega), h2, ?_⟩, (show hi - (lo + 1) < hi - lo by omega), ?_⟩
      · show Sim (hi - (lo + 1)) _ _ _
        rw [show hi - (lo + 1) = hi - lo - 1 by omega]; exact sL
      · have := tm3_l len k lo hi (hi - lo) (len - (hi - lo)) c m R B Ta Tb T (fun j => L.x j) D (by omega) h2 hl (by omega) (by omega) (by omega) s.2.1 s.2.2
        simp only [show hi - (lo + 1) = hi - lo - 1 by omega, show len - (hi - lo - 1) = len - (hi - lo) + 1 by omega]
        exact this
theorem meets_walk (a0 : Option Addr) (len cap : Nat) (a1 : Option Addr) (k cap1 : Nat) (w : World) (r0 : Reads w (.slice 1 (.int .u64)) (Value.slice a0 len cap).cells.toList) (r1 : Reads w (.slice 1 .bool) (Value.slice a1 k cap1).cells.toList) :
    Calls Try.prog 4 #[.slice a0 len cap, .slice a1 k cap1] w fun e w' => e = .returned (.bool true) ∧ Ext w w' := by
  have he0 : env2 (.slice a0 len cap) (.slice a1 k cap1) 0 = some (.slice a0 len cap) := rfl
  have he1 : env2 (.slice a0 len cap) (.slice a1 k cap1) 1 = some (.slice a1 k cap1) := rfl
  obtain ⟨R, hs0⟩ : ∃ R : Nat → Int, SegOk (env2 (.slice a0 len cap) (.slice a1 k cap1)) w 0 (.ro 1 len (rkT R)) := by
    obtain ⟨es, b1, hs⟩ := vals_seg (h := 0) (s := .int .u64) he0 rfl r0
    exact ⟨fun k => cI (es k) 0, hs⟩
  obtain ⟨B, hs1⟩ : ∃ B : Nat → Bool, SegOk (env2 (.slice a0 len cap) (.slice a1 k cap1)) w 1 (.ro 1 k (fun k => [.val (.bool (B k))])) := by
    obtain ⟨es, b1, hs⟩ := vals_seg (h := 1) (s := .bool) he1 rfl r1
    exact ⟨fun k => cB (es k) 0, hs⟩
  have fin : LawOk Try.prog 4 [.nv (.one (.own 0)), .nv (.one (.own 1))] [.ro 1 len (rkT R), .ro 1 k (fun k => [.val (.bool (B k))])] (bA true) := by
    by_cases hl : 300 < len
    · exact tm_a len k R B hl
    by_cases hk : 300 < k
    · exact tm_b len k R B (by omega) hk
    obtain ⟨m, hm, hm1, hm2, hm3⟩ : ∃ m : Int, List.foldl (fun x y => if y > x then y else x) (len : Int) [1] = m ∧ 1 ≤ m ∧ m ≤ 4096 ∧ (len : Int) ≤ m := ⟨_, rfl, by simp only [List.foldl]; split <;> omega, by simp only [List.foldl]; split <;> omega, by simp only [List.foldl]; split <;> omega⟩
    have s := (mt_ok R m len hm3 (by omega)).1
    exact tm_m len k m _ R B _ _ _ tw0I _ _ (by omega) (by omega) hm hm1 hm2 (tm_loop0 len k m hm2 hm3 (by omega) R B) (tm_loop1 len k (by omega) _ m R B _ _ s) (tm_loop2 len k (by omega) _ m R B _ _ _ _) (tm_loop3 len k (by omega) _ m R B _ _ _ _ _ _ s)
  refine (fin _ [.slice a0 len cap, .slice a1 k cap1] w ⟨⟨he0, _, _, _, rfl⟩, ⟨he1, _, _, _, rfl⟩, trivial⟩ (two_ro hs0 hs1)).mono ?_
  rintro e w' ⟨u, rfl, hu, hx⟩
  exact ⟨by rw [show u = .bool true from hu], hx⟩
end Go.Proofs.Ytakpokccjgoapaa

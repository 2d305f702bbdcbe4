/- The loops of MeterGreen. No condition. -/
import Derived.Test.YtlmeemilikladaaMvJ
namespace Go.Proofs.Ytlmeemilikladaa
set_option linter.unusedVariables false
set_option linter.unusedSimpArgs false
open Go.RowKit E

def zz (t : Nat → Int) (k : Nat) : Int := Int.fdiv (t k) ((2 : Int) ^ (16 : Nat))
theorem zz_eq (t : Nat → Int) (k : Nat) : zz t k = t k / 65536 := by
  unfold zz; rw [show ((2 : Int) ^ (16 : Nat)) = 65536 from rfl]; exact Int.fdiv_eq_ediv_of_nonneg _ (by omega)
theorem fdiv16 (t : Nat → Int) (k : Nat) : Int.fdiv (t k) 65536 = zz t k := rfl
section
variable (r n f q : Int) (t x c : Nat → Int)
def ga : Nat → Int × Int
  | 0 => (n, f)
  | k + 1 => (tokA1 (upTo (ga k).1 n (r * zz t k)) (upTo (ga k).2 f (over (ga k).1 n (r * zz t k))) (x k) (c k), tokB1 (upTo (ga k).1 n (r * zz t k)) (upTo (ga k).2 f (over (ga k).1 n (r * zz t k))) (x k) (c k))
def gd : Nat → Int × Int
  | 0 => (n, f)
  | k + 1 => (tokA2 (upTo (gd k).1 n (r * zz t k)) (upTo (gd k).2 f (q * zz t k)) (x k) (c k), tokB2 (upTo (gd k).1 n (r * zz t k)) (upTo (gd k).2 f (q * zz t k)) (x k) (c k))
def a1 (k : Nat) : Int := upTo (ga r n f t x c k).1 n (r * zz t k)
def b1 (k : Nat) : Int := upTo (ga r n f t x c k).2 f (over (ga r n f t x c k).1 n (r * zz t k))
def d1' (k : Nat) : Int := upTo (gd r n f q t x c k).1 n (r * zz t k)
def e1' (k : Nat) : Int := upTo (gd r n f q t x c k).2 f (q * zz t k)
def fu (k : Nat) : Int := if colOne (a1 r n f t x c k) (b1 r n f t x c k) (x k) (c k) = 1 then x k else 0
def fv (k : Nat) : Int := if colTwo (d1' r n f q t x c k) (e1' r n f q t x c k) (x k) (c k) = 1 then x k else 0
end
variable {r n f q : Int} {t x c : Nat → Int} {len : Nat}
theorem zz_bd {k : Nat} (bt : 0 ≤ t k ∧ t k ≤ 18446744073709551615) : 0 ≤ zz t k ∧ zz t k ≤ 281474976710655 := by rw [zz_eq]; omega
theorem ga_bd (hr : 0 ≤ r) (hn : 0 ≤ n) (hf : 0 ≤ f) (bt : ∀ k, k < len → 0 ≤ t k ∧ t k ≤ 18446744073709551615) (bx : ∀ k, k < len → 0 ≤ x k ∧ x k ≤ 18446744073709551615) : ∀ k, k ≤ len → (0 ≤ (ga r n f t x c k).1 ∧ (ga r n f t x c k).1 ≤ n) ∧ (0 ≤ (ga r n f t x c k).2 ∧ (ga r n f t x c k).2 ≤ f)
  | 0, _ => ⟨⟨hn, Int.le_refl _⟩, ⟨hf, Int.le_refl _⟩⟩
  | k + 1, hk => by
    obtain ⟨h1, h2⟩ := ga_bd hr hn hf bt bx k (by omega)
    have hz := zz_bd (bt k (by omega))
    have u1 := upTo_bd h1.1 (Int.mul_nonneg hr hz.1) h1.2
    have u2 := upTo_bd h2.1 (over_nn (a := (ga r n f t x c k).1) (n := n) (c := r * zz t k)) h2.2
    have := tok1_bd _ _ (x k) (c k) (show 0 ≤ upTo (ga r n f t x c k).1 n (r * zz t k) by omega) (show 0 ≤ upTo (ga r n f t x c k).2 f (over (ga r n f t x c k).1 n (r * zz t k)) by omega) (bx k (by omega)).1
    simp only [ga]
    omega
theorem gd_bd (hr : 0 ≤ r) (hq : 0 ≤ q) (hn : 0 ≤ n) (hf : 0 ≤ f) (bt : ∀ k, k < len → 0 ≤ t k ∧ t k ≤ 18446744073709551615) (bx : ∀ k, k < len → 0 ≤ x k ∧ x k ≤ 18446744073709551615) : ∀ k, k ≤ len → (0 ≤ (gd r n f q t x c k).1 ∧ (gd r n f q t x c k).1 ≤ n) ∧ (0 ≤ (gd r n f q t x c k).2 ∧ (gd r n f q t x c k).2 ≤ f)
  | 0, _ => ⟨⟨hn, Int.le_refl _⟩, ⟨hf, Int.le_refl _⟩⟩
  | k + 1, hk => by
    obtain ⟨h1, h2⟩ := gd_bd hr hq hn hf bt bx k (by omega)
    have hz := zz_bd (bt k (by omega))
    have u1 := upTo_bd h1.1 (Int.mul_nonneg hr hz.1) h1.2
    have u2 := upTo_bd h2.1 (Int.mul_nonneg hq hz.1) h2.2
    have := tok2_bd _ _ (x k) (c k) (show 0 ≤ upTo (gd r n f q t x c k).1 n (r * zz t k) by omega) (show 0 ≤ upTo (gd r n f q t x c k).2 f (q * zz t k) by omega) (bx k (by omega)).1
    simp only [gd]
    omega
theorem ga_step (k : Nat) : (ga r n f t x c (k + 1)).1 = a1 r n f t x c k - fu r n f t x c k := by
  show tokA1 (a1 r n f t x c k) (b1 r n f t x c k) (x k) (c k) = _
  unfold tokA1 fu; split <;> omega
theorem gd_step (k : Nat) : (gd r n f q t x c (k + 1)).1 = d1' r n f q t x c k - fv r n f q t x c k := by
  show tokA2 (d1' r n f q t x c k) (e1' r n f q t x c k) (x k) (c k) = _
  unfold tokA2 fv; split <;> omega
theorem up_le {a n c : Int} : upTo a n c ≤ n ∧ upTo a n c ≤ a + c ∨ upTo a n c ≤ n := by unfold upTo; split <;> omega
theorem up_le2 {a n c : Int} : upTo a n c ≤ n ∧ upTo a n c ≤ a + c := by unfold upTo; split <;> omega
theorem fu_bd (bx : ∀ k, k < len → 0 ≤ x k ∧ x k ≤ 18446744073709551615) {k : Nat} (hk : k < len) : 0 ≤ fu r n f t x c k ∧ fu r n f t x c k ≤ 18446744073709551615 := by
  have := bx k hk
  unfold fu; split <;> omega
theorem fv_bd (bx : ∀ k, k < len → 0 ≤ x k ∧ x k ≤ 18446744073709551615) {k : Nat} (hk : k < len) : 0 ≤ fv r n f q t x c k ∧ fv r n f q t x c k ≤ 18446744073709551615 := by
  have := bx k hk
  unfold fv; split <;> omega

theorem green_loop (hl : len ≤ 60) (hr : 0 ≤ r ∧ r ≤ 18446744073709551615) (hq : 0 ≤ q ∧ q ≤ 18446744073709551615) (hn : 0 ≤ n ∧ n ≤ 18446744073709551615) (hf : 0 ≤ f ∧ f ≤ 18446744073709551615) (bt : ∀ k, k < len → 0 ≤ t k ∧ t k ≤ 18446744073709551615) (bx : ∀ k, k < len → 0 ≤ x k ∧ x k ≤ 18446744073709551615)
    (k1 : ckOne r n f n f = 0) (k2 : ckTwo r q n f n f = 0) :
    CodeOk Try.prog 1 (.loop (loopOf Try.f6 0)) (greenS len t x c n r 0 r n f n f r q n f n f (fu r n f t x c) (fv r n f q t x c) (zz t)) (.exit 0) (greenM n r len (fu r n f t x c) (fv r n f q t x c) (zz t)) := by
  obtain ⟨m1, m2, _, _⟩ := ck1_iff.1 k1
  obtain ⟨o1, o2, o3, o4, _, _⟩ := ck2_iff.1 k2
  refine loop_ok (α := Nat) (fun k => greenS len t x c n r k r n f (ga r n f t x c k).1 (ga r n f t x c k).2 r q n f (gd r n f q t x c k).1 (gd r n f q t x c k).2 (fu r n f t x c) (fv r n f q t x c) (zz t)) (fun k => k ≤ len) (fun k => len - k) (by simp) ?_ (x := 0) (Nat.zero_le _)
  intro k hk
  by_cases e : k = len
  · subst e
    exact .inr (green_end k t x c _ _ _ _ _ _ _ _ _ _ _ _ _ _ _ _)
  · have hlt : k < len := by omega
    refine .inl ⟨k + 1, (by omega : k + 1 ≤ len), (by omega : len - (k + 1) < len - k), ?_⟩
    obtain ⟨ha, hb⟩ := ga_bd (c := c) hr.1 hn.1 hf.1 bt bx k hk
    obtain ⟨hd, he⟩ := gd_bd (c := c) hr.1 hq.1 hn.1 hf.1 bt bx k hk
    have hz := zz_bd (bt k hlt)
    have u1 := upTo_bd ha.1 (Int.mul_nonneg hr.1 hz.1) ha.2
    have u2 := upTo_bd hb.1 (over_nn (a := (ga r n f t x c k).1) (n := n) (c := r * zz t k)) hb.2
    have u3 := upTo_bd hd.1 (Int.mul_nonneg hr.1 hz.1) hd.2
    have u4 := upTo_bd he.1 (Int.mul_nonneg hq.1 hz.1) he.2
    have c1 : ckOne r n f (ga r n f t x c k).1 (ga r n f t x c k).2 = 0 := ck1_iff.2 ⟨m1, m2, ha.2, hb.2⟩
    have c2 : ckOne r n f (a1 r n f t x c k) (b1 r n f t x c k) = 0 := ck1_iff.2 ⟨m1, m2, u1.2, u2.2⟩
    have c3 : ckTwo r q n f (gd r n f q t x c k).1 (gd r n f q t x c k).2 = 0 := ck2_iff.2 ⟨o1, o2, o3, o4, hd.2, he.2⟩
    have c4 : ckTwo r q n f (d1' r n f q t x c k) (e1' r n f q t x c k) = 0 := ck2_iff.2 ⟨o1, o2, o3, o4, u3.2, u4.2⟩
    have B1 : 0 ≤ a1 r n f t x c k ∧ a1 r n f t x c k ≤ 18446744073709551615 := by unfold a1; omega
    have B2 : 0 ≤ b1 r n f t x c k ∧ b1 r n f t x c k ≤ 18446744073709551615 := by unfold b1; omega
    have B3 : 0 ≤ d1' r n f q t x c k ∧ d1' r n f q t x c k ≤ 18446744073709551615 := by unfold d1'; omega
    have B4 : 0 ≤ e1' r n f q t x c k ∧ e1' r n f q t x c k ≤ 18446744073709551615 := by unfold e1'; omega
    have hz' : 0 ≤ zz t k ∧ zz t k ≤ 18446744073709551615 := by omega
    have ha' : 0 ≤ (ga r n f t x c k).1 ∧ (ga r n f t x c k).1 ≤ 18446744073709551615 := by omega
    have hb' : 0 ≤ (ga r n f t x c k).2 ∧ (ga r n f t x c k).2 ≤ 18446744073709551615 := by omega
    have hd' : 0 ≤ (gd r n f q t x c k).1 ∧ (gd r n f q t x c k).1 ≤ 18446744073709551615 := by omega
    have he' : 0 ≤ (gd r n f q t x c k).2 ∧ (gd r n f q t x c k).2 ≤ 18446744073709551615 := by omega
    by_cases p1 : colOne (a1 r n f t x c k) (b1 r n f t x c k) (x k) (c k) = 1 <;> by_cases p2 : colTwo (d1' r n f q t x c k) (e1' r n f q t x c k) (x k) (c k) = 1
    · exact green_tt len k t x c _ _ r n f _ _ r q n f _ _ _ _ _ hlt hl (bt k hlt) (bx k hlt) hr hn hf ha' hb' hr hq hn hf hd' he' _ _ _ _ _ _ _ _ _ rfl rfl hz' c1 rfl rfl c2 rfl rfl c3 rfl rfl c4 rfl rfl B1 B2 B3 B4 p1 (by unfold fu; rw [if_pos p1]) p2 (by unfold fv; rw [if_pos p2]) rfl
    · exact green_tf len k t x c _ _ r n f _ _ r q n f _ _ _ _ _ hlt hl (bt k hlt) (bx k hlt) hr hn hf ha' hb' hr hq hn hf hd' he' _ _ _ _ _ _ _ _ _ rfl rfl hz' c1 rfl rfl c2 rfl rfl c3 rfl rfl c4 rfl rfl B1 B2 B3 B4 p1 (by unfold fu; rw [if_pos p1]) p2 (by unfold fv; rw [if_neg p2]) rfl
    · exact green_ft len k t x c _ _ r n f _ _ r q n f _ _ _ _ _ hlt hl (bt k hlt) (bx k hlt) hr hn hf ha' hb' hr hq hn hf hd' he' _ _ _ _ _ _ _ _ _ rfl rfl hz' c1 rfl rfl c2 rfl rfl c3 rfl rfl c4 rfl rfl B1 B2 B3 B4 p1 (by unfold fu; rw [if_neg p1]) p2 (by unfold fv; rw [if_pos p2]) rfl
    · exact green_ff len k t x c _ _ r n f _ _ r q n f _ _ _ _ _ hlt hl (bt k hlt) (bx k hlt) hr hn hf ha' hb' hr hq hn hf hd' he' _ _ _ _ _ _ _ _ _ rfl rfl hz' c1 rfl rfl c2 rfl rfl c3 rfl rfl c4 rfl rfl B1 B2 B3 B4 p1 (by unfold fu; rw [if_neg p1]) p2 (by unfold fv; rw [if_neg p2]) rfl

theorem green_inner (hl : len ≤ 60) (hr : 0 ≤ r ∧ r ≤ 4294967296) (hq : 0 ≤ q ∧ q ≤ 18446744073709551615) (hn : 0 ≤ n ∧ n ≤ 18446744073709551615) (hf : 0 ≤ f ∧ f ≤ 18446744073709551615) (bt : ∀ k, k < len → 0 ≤ t k ∧ t k ≤ 18446744073709551615) (bx : ∀ k, k < len → 0 ≤ x k ∧ x k ≤ 18446744073709551615) (j : Nat) (hj : j < len) :
    CodeOk Try.prog 1 (.loop (loopOf Try.f6 2)) (greenI n r len (fu r n f t x c) (fv r n f q t x c) (zz t) j j 0 0 n) (.exit 4) (greenO n r len (fu r n f t x c) (fv r n f q t x c) (zz t) j) := by
  refine loop_ok (α := Nat × Int × Int × Int) (fun p => greenI n r len (fu r n f t x c) (fv r n f q t x c) (zz t) j p.1 p.2.1 p.2.2.1 p.2.2.2)
    (fun p => j ≤ p.1 ∧ p.1 ≤ len ∧ (0 ≤ p.2.1 ∧ p.2.1 ≤ p.1 * 18446744073709551615) ∧ (0 ≤ p.2.2.1 ∧ p.2.2.1 ≤ p.1 * 18446744073709551615) ∧ (0 ≤ p.2.2.2 ∧ p.2.2.2 ≤ 18446744073709551615 + p.1 * 1208925819614629174706176) ∧
      (p.1 = j → p.2.1 = 0 ∧ p.2.2.1 = 0 ∧ p.2.2.2 = n) ∧ (j < p.1 → p.2.1 + (ga r n f t x c p.1).1 ≤ p.2.2.2 ∧ p.2.2.1 + (gd r n f q t x c p.1).1 ≤ p.2.2.2))
    (fun p => len - p.1) (by simp) ?_ (x := (j, 0, 0, n)) ⟨Nat.le_refl _, by simp only; omega, by simp only; omega, by simp only; omega, by simp only; omega, fun _ => ⟨rfl, rfl, rfl⟩, fun q => by simp only at q; omega⟩
  rintro ⟨k, A, B, C⟩ ⟨i1, i2, i3, i4, i5, i6, i7⟩
  simp only at i1 i2 i3 i4 i5 i6 i7
  by_cases e : k = len
  · subst e
    exact .inr (ginner_end n r k j _ _ _ A B C)
  · have hlt : k < len := by omega
    have hz := zz_bd (bt k hlt)
    have hu := fu_bd (r := r) (n := n) (f := f) (t := t) (c := c) bx hlt
    have hv := fv_bd (r := r) (n := n) (f := f) (q := q) (t := t) (c := c) bx hlt
    have sa := ga_step (r := r) (n := n) (f := f) (t := t) (x := x) (c := c) k
    have sd := gd_step (r := r) (n := n) (f := f) (q := q) (t := t) (x := x) (c := c) k
    have la := up_le2 (a := (ga r n f t x c k).1) (n := n) (c := r * zz t k)
    have ld := up_le2 (a := (gd r n f q t x c k).1) (n := n) (c := r * zz t k)
    obtain ⟨ha, _⟩ := ga_bd (c := c) hr.1 hn.1 hf.1 bt bx (k + 1) (by omega)
    obtain ⟨hd, _⟩ := gd_bd (c := c) hr.1 hq.1 hn.1 hf.1 bt bx (k + 1) (by omega)
    have hp0 : 0 ≤ r * zz t k := Int.mul_nonneg hr.1 hz.1
    have hp1 : r * zz t k ≤ 1208925819614629174706176 := by
      have := Int.mul_le_mul_of_nonneg_right hr.2 hz.1
      omega
    unfold a1 at sa
    unfold d1' at sd
    by_cases ej : k = j
    · subst ej
      obtain ⟨rfl, rfl, rfl⟩ := i6 rfl
      refine .inl ⟨(k + 1, fu r C f t x c k, fv r C f q t x c k, C), ⟨by simp only; omega, by simp only; omega, by simp only; omega, by simp only; omega, by simp only; omega, fun q => by simp only at q; omega, fun _ => by simp only; omega⟩, by simp only; omega, ?_⟩
      exact ginner_first C r len k _ _ _ 0 0 C hlt hl _ _ rfl rfl hu hv (fu r C f t x c k) (fv r C f q t x c k) (Int.zero_add _) (Int.zero_add _) (by omega) (by omega) (dig_d (by omega)) (val4_d (by omega)) (dig_d (by omega)) (val4_d (by omega)) (dig_d (by omega)) (val4_d (by omega)) (dig_d (by omega)) (val4_d (by omega)) (dig_d (by omega)) (val4_d (by omega)) (dig_d (by omega)) (val4_d (by omega)) (dig_d (by omega)) (val4_d (by omega)) (by omega) (by omega)
    · have hjk : j < k := by omega
      obtain ⟨i8, i9⟩ := i7 hjk
      refine .inl ⟨(k + 1, A + fu r n f t x c k, B + fv r n f q t x c k, C + r * zz t k), ⟨by simp only; omega, by simp only; omega, by simp only; omega, by simp only; omega, by simp only; omega, fun q => by simp only at q; omega, fun _ => by simp only; omega⟩, by simp only; omega, ?_⟩
      exact ginner_next n r len j k _ _ _ A B C hjk hlt hl _ _ rfl rfl hu hv (A + fu r n f t x c k) (B + fv r n f q t x c k) rfl rfl (by omega) (by omega) (zz t k) (r * zz t k) (C + r * zz t k) rfl (by omega) (by omega) rfl rfl (by omega) (dig_d (by omega)) (val4_d (by omega)) (dig_d (by omega)) (val4_d (by omega)) (dig_d (by omega)) (val4_d (by omega)) (dig_d (by omega)) (val4_d (by omega)) (dig_d (by omega)) (val4_d (by omega)) (dig_d (by omega)) (val4_d (by omega)) (dig_d (by omega)) (val4_d (by omega)) (dig_d (by omega)) (val4_d (by omega)) (dig_d (by omega)) (val4_d (by omega)) (by omega) (by omega)

theorem green_outer (near slow : Int) (len : Nat) (u v w : Nat → Int) (hl : len ≤ 60) (hn : 0 ≤ near ∧ near ≤ 18446744073709551615)
    (inner : ∀ j, j < len → CodeOk Try.prog 1 (.loop (loopOf Try.f6 2)) (greenI near slow len u v w j j 0 0 near) (.exit 4) (greenO near slow len u v w j)) :
    CodeOk Try.prog 1 (.loop (loopOf Try.f6 1)) (greenO near slow len u v w 0) (.exit 2) greenE := by
  refine loop_ok (α := Nat) (fun j => greenO near slow len u v w j) (fun j => j ≤ len) (fun j => len - j) (by simp) ?_ (x := 0) (Nat.zero_le _)
  intro j hj
  by_cases e : j = len
  · subst e
    exact .inr (gouter_end near slow j u v w)
  · have hlt : j < len := by omega
    exact .inl ⟨j + 1, (by omega : j + 1 ≤ len), (by omega : len - (j + 1) < len - j), gouter_round near slow len j u v w hlt hl hn (inner j hlt)⟩
end Go.Proofs.Ytlmeemilikladaa

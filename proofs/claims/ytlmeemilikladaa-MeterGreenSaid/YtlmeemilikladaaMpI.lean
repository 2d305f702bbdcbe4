/- The loop of MeterPlays. No condition. -/
import Derived.Test.YtlmeemilikladaaMpH
namespace Go.Proofs.Ytlmeemilikladaa
set_option linter.unusedVariables false
set_option linter.unusedSimpArgs false
open Go.RowKit E

def u64B (x : Int) : Prop := 0 ≤ x ∧ x ≤ 18446744073709551615
theorem ifm_bd {k v : Int} (h : k = 0 → u64B v) : u64B (ifm k v) := by
  unfold ifm
  split
  · rename_i e; exact h e
  · unfold u64B; omega
structure M5 where
  r : Int
  n : Int
  f : Int
  a : Int
  b : Int
structure M6 where
  s : Int
  q : Int
  m : Int
  g : Int
  d : Int
  e : Int
def M5.bd (x : M5) : Prop := u64B x.r ∧ u64B x.n ∧ u64B x.f ∧ u64B x.a ∧ u64B x.b
def M6.bd (x : M6) : Prop := u64B x.s ∧ u64B x.q ∧ u64B x.m ∧ u64B x.g ∧ u64B x.d ∧ u64B x.e
def M5.ck (x : M5) : Int := ckOne x.r x.n x.f x.a x.b
def M6.ck (x : M6) : Int := ckTwo x.s x.q x.m x.g x.d x.e
def M5.tick (x : M5) (t : Int) : M5 := ⟨ifm x.ck x.r, ifm x.ck x.n, ifm x.ck x.f, ifm x.ck (upTo x.a x.n (x.r * t)), ifm x.ck (upTo x.b x.f (over x.a x.n (x.r * t)))⟩
def M6.tick (x : M6) (t : Int) : M6 := ⟨ifm x.ck x.s, ifm x.ck x.q, ifm x.ck x.m, ifm x.ck x.g, ifm x.ck (upTo x.d x.m (x.s * t)), ifm x.ck (upTo x.e x.g (x.q * t))⟩
def M5.col (x : M5) (n c : Int) : M5 := ⟨ifm x.ck x.r, ifm x.ck x.n, ifm x.ck x.f, ifm x.ck (tokA1 x.a x.b n c), ifm x.ck (tokB1 x.a x.b n c)⟩
def M6.col (x : M6) (n c : Int) : M6 := ⟨ifm x.ck x.s, ifm x.ck x.q, ifm x.ck x.m, ifm x.ck x.g, ifm x.ck (tokA2 x.d x.e n c), ifm x.ck (tokB2 x.d x.e n c)⟩
theorem M5.tick_bd {x : M5} (h : x.bd) {t : Int} (ht : 0 ≤ t) : (x.tick t).bd := by
  obtain ⟨h1, h2, h3, h4, h5⟩ := h
  unfold M5.tick
  refine ⟨ifm_bd fun _ => h1, ifm_bd fun _ => h2, ifm_bd fun _ => h3, ifm_bd fun k => ?_, ifm_bd fun k => ?_⟩
  · obtain ⟨_, _, k3, k4⟩ := ck1_iff.1 k
    have := upTo_bd h4.1 (Int.mul_nonneg h1.1 ht) k3
    unfold u64B at *; omega
  · obtain ⟨_, _, k3, k4⟩ := ck1_iff.1 k
    have := upTo_bd h5.1 (over_nn (a := x.a) (n := x.n) (c := x.r * t)) k4
    unfold u64B at *; omega
theorem M6.tick_bd {x : M6} (h : x.bd) {t : Int} (ht : 0 ≤ t) : (x.tick t).bd := by
  obtain ⟨h1, h2, h3, h4, h5, h6⟩ := h
  unfold M6.tick
  refine ⟨ifm_bd fun _ => h1, ifm_bd fun _ => h2, ifm_bd fun _ => h3, ifm_bd fun _ => h4, ifm_bd fun k => ?_, ifm_bd fun k => ?_⟩
  · obtain ⟨_, _, _, _, k3, k4⟩ := ck2_iff.1 k
    have := upTo_bd h5.1 (Int.mul_nonneg h1.1 ht) k3
    unfold u64B at *; omega
  · obtain ⟨_, _, _, _, k3, k4⟩ := ck2_iff.1 k
    have := upTo_bd h6.1 (Int.mul_nonneg h2.1 ht) k4
    unfold u64B at *; omega
theorem M5.col_bd {x : M5} (h : x.bd) {n : Int} (hn : 0 ≤ n) (c : Int) : (x.col n c).bd := by
  obtain ⟨h1, h2, h3, h4, h5⟩ := h
  have := tok1_bd x.a x.b n c h4.1 h5.1 hn
  unfold M5.col
  refine ⟨ifm_bd fun _ => h1, ifm_bd fun _ => h2, ifm_bd fun _ => h3, ifm_bd fun k => ?_, ifm_bd fun k => ?_⟩ <;> unfold u64B at * <;> omega
theorem M6.col_bd {x : M6} (h : x.bd) {n : Int} (hn : 0 ≤ n) (c : Int) : (x.col n c).bd := by
  obtain ⟨h1, h2, h3, h4, h5, h6⟩ := h
  have := tok2_bd x.d x.e n c h5.1 h6.1 hn
  unfold M6.col
  refine ⟨ifm_bd fun _ => h1, ifm_bd fun _ => h2, ifm_bd fun _ => h3, ifm_bd fun _ => h4, ifm_bd fun k => ?_, ifm_bd fun k => ?_⟩ <;> unfold u64B at * <;> omega

theorem mplays_loop (len : Nat) (t x c : Nat → Int) (hl : len ≤ 200) (bt : ∀ k, k < len → 0 ≤ t k ∧ t k ≤ 18446744073709551615) (bx : ∀ k, k < len → 0 ≤ x k ∧ x k ≤ 18446744073709551615) (y : M5) (z : M6) (hy : y.bd) (hz : z.bd) :
    CodeOk Try.prog 1 (.loop (loopOf Try.f5 0)) (mplaysS len t x c 0 y.r y.n y.f y.a y.b z.s z.q z.m z.g z.d z.e) (.exit 0) mplaysE := by
  refine loop_ok (α := Nat × M5 × M6) (fun p => mplaysS len t x c p.1 p.2.1.r p.2.1.n p.2.1.f p.2.1.a p.2.1.b p.2.2.s p.2.2.q p.2.2.m p.2.2.g p.2.2.d p.2.2.e) (fun p => p.1 ≤ len ∧ p.2.1.bd ∧ p.2.2.bd) (fun p => len - p.1) (by simp) ?_ (x := (0, y, z)) ⟨Nat.zero_le _, hy, hz⟩
  rintro ⟨k, y, z⟩ ⟨hk, hy, hz⟩
  simp only at hk hy hz
  by_cases e : k = len
  · subst e
    exact .inr (mplays_end k t x c y.r y.n y.f y.a y.b z.s z.q z.m z.g z.d z.e)
  · have hlt : k < len := by omega
    have g1 : k + 1 ≤ len := by omega
    have g2 : len - (k + 1) < len - k := by omega
    have y1 := M5.tick_bd hy (bt k hlt).1
    have z1 := M6.tick_bd hz (bt k hlt).1
    refine .inl ⟨(k + 1, (y.tick (t k)).col (x k) (c k), (z.tick (t k)).col (x k) (c k)), ⟨g1, M5.col_bd y1 (bx k hlt).1 _, M6.col_bd z1 (bx k hlt).1 _⟩, g2, ?_⟩
    obtain ⟨b1, b2, b3, b4, b5⟩ := hy
    obtain ⟨c1, c2, c3, c4, c5, c6⟩ := hz
    obtain ⟨d1, d2, d3, d4, d5⟩ := y1
    obtain ⟨e1, e2, e3, e4, e5, e6⟩ := z1
    exact mplays_round len k t x c y.r y.n y.f y.a y.b z.s z.q z.m z.g z.d z.e _ _ _ _ _ _ _ _ _ _ _ _ _ _ _ _ _ _ _ _ _ _ hlt hl (bt k hlt) (bx k hlt) b1 b2 b3 b4 b5 c1 c2 c3 c4 c5 c6 d1 d2 d3 d4 d5 e1 e2 e3 e4 e5 e6
      rfl rfl rfl rfl rfl rfl rfl rfl rfl rfl rfl rfl rfl rfl rfl rfl rfl rfl rfl rfl rfl rfl
end Go.Proofs.Ytlmeemilikladaa

/- Runs of Go code, as printed by a program: no condition beyond those that each states. -/
import Derived.Test.YtlmeemilikladaaMgN
import Derived.Test.YtlmeemilikladaaChecked
import Derived.KernelRfl
namespace Go.Proofs.Ytlmeemilikladaa
set_option linter.unusedVariables false
set_option linter.unusedSimpArgs false
set_option maxRecDepth 100000
open Go.RowKit E
set_option maxHeartbeats 2000000 in
theorem tick1_bad (r n f a b t : Int) (hr : 0 ≤ r ∧ r ≤ 18446744073709551615) (hn : 0 ≤ n ∧ n ≤ 18446744073709551615) (hf : 0 ≤ f ∧ f ≤ 18446744073709551615) (ha : 0 ≤ a ∧ a ≤ 18446744073709551615) (hb : 0 ≤ b ∧ b ≤ 18446744073709551615) (hk : ckOne r n f a b ≠ 0) : PureOk Try.prog 12 ([.nv (oneN r n f a b), uA t]) (.nv (oneN 0 0 0 0 0)) :=
  pure_run Gm_ok Try.func12 (orc := ⟨[true], []⟩) (obl := [(0 : Int) ≤ r,
      (0 : Int) ≤ n,
      (0 : Int) ≤ f,
      (0 : Int) ≤ a,
      (0 : Int) ≤ b,
      (ckOne r n f a b != (0 : Int)) = true,
      (0 : Int) = (0 : Int),
      (0 : Int) = (0 : Int),
      (0 : Int) = (0 : Int),
      (0 : Int) = (0 : Int),
      (0 : Int) = (0 : Int)]) (by kernel_rfl) (.cons (by omega) (.cons (by omega) (.cons (by omega) (.cons (by omega) (.cons (by omega) (.cons (by exact bne_iff_ne.2 (by omega)) (.cons (by rfl) (.cons (by rfl) (.cons (by rfl) (.cons (by rfl) (.cons (by rfl) .nil)))))))))))

set_option maxHeartbeats 2000000 in
theorem tick1_in (r n f a b t p : Int) (hr : 0 ≤ r ∧ r ≤ 18446744073709551615) (hn : 0 ≤ n ∧ n ≤ 18446744073709551615) (hf : 0 ≤ f ∧ f ≤ 18446744073709551615) (ha : 0 ≤ a ∧ a ≤ n) (hb : 0 ≤ b ∧ b ≤ f) (ht : 0 ≤ t ∧ t ≤ 18446744073709551615) (hk : ckOne r n f a b = 0) (hp : r * t = p) (h0 : 0 ≤ p) (h : p ≤ n - a) : PureOk Try.prog 12 ([.nv (oneN r n f a b), uA t]) (.nv (oneN r n f (a + p) b)) :=
  pure_run Gm_ok Try.func12 (orc := ⟨[false, true, true], []⟩) (obl := [(0 : Int) ≤ r,
      (0 : Int) ≤ n,
      (0 : Int) ≤ f,
      (0 : Int) ≤ a,
      (0 : Int) ≤ b,
      (ckOne r n f a b != (0 : Int)) = false,
      (0 : Int) ≤ r,
      r ≤ (18446744073709551615 : Int),
      (0 : Int) ≤ t,
      t ≤ (18446744073709551615 : Int),
      (r * t / (18446744073709551616 : Int) == (0 : Int)) = true,
      decide (r * t % (18446744073709551616 : Int) ≤ IntKind.wrap IntKind.u64 (n - a)) = true,
      r = r,
      n = n,
      f = f,
      IntKind.wrap IntKind.u64 (a + r * t % (18446744073709551616 : Int)) = a + p,
      b = b]) (by kernel_rfl) (.cons (by omega) (.cons (by omega) (.cons (by omega) (.cons (by omega) (.cons (by omega) (.cons (by exact bne_eq_false_iff_eq.2 (by omega)) (.cons (by omega) (.cons (by omega) (.cons (by omega) (.cons (by omega) (.cons (by (rw [hp]; exact beq_iff_eq.2 (by omega))) (.cons (by (rw [hp]; exact decide_eq_true (by rw [wU64 (a := n - a) (b := n - a) rfl (by omega)]; omega))) (.cons (by rfl) (.cons (by rfl) (.cons (by rfl) (.cons (by (rw [hp]; exact wU64 (by omega) (by omega))) (.cons (by rfl) .nil)))))))))))))))))

set_option maxHeartbeats 2000000 in
theorem tick1_hi (r n f a b t p d e : Int) (hr : 0 ≤ r ∧ r ≤ 18446744073709551615) (hn : 0 ≤ n ∧ n ≤ 18446744073709551615) (hf : 0 ≤ f ∧ f ≤ 18446744073709551615) (ha : 0 ≤ a ∧ a ≤ n) (hb : 0 ≤ b ∧ b ≤ f) (ht : 0 ≤ t ∧ t ≤ 18446744073709551615) (hk : ckOne r n f a b = 0) (hp : r * t = p) (h0 : 0 ≤ p) (h : 18446744073709551615 < p) (h2 : p - d ≤ 18446744073709551615) (hd : IntKind.wrap IntKind.u64 (n - a) = d) (hd2 : d = n - a) (he : IntKind.wrap IntKind.u64 (f - b) = e) (he2 : e = f - b) (hlo : p % 18446744073709551616 < d) (hq : p / 18446744073709551616 = 1) (hs : (p % 18446744073709551616 - d) % 18446744073709551616 = p - d) : PureOk Try.prog 12 ([.nv (oneN r n f a b), uA t]) (.nv (oneN r n f n (b + (if e < p - d then e else p - d)))) :=
  pure_run Gm_ok Try.func12 (orc := ⟨[false, false, false, false], []⟩) (obl := [(0 : Int) ≤ r,
      (0 : Int) ≤ n,
      (0 : Int) ≤ f,
      (0 : Int) ≤ a,
      (0 : Int) ≤ b,
      (ckOne r n f a b != (0 : Int)) = false,
      (0 : Int) ≤ r,
      r ≤ (18446744073709551615 : Int),
      (0 : Int) ≤ t,
      t ≤ (18446744073709551615 : Int),
      (r * t / (18446744073709551616 : Int) == (0 : Int)) = false,
      false = false,
      (0 : Int) ≤ r * t % (18446744073709551616 : Int),
      r * t % (18446744073709551616 : Int) ≤ (18446744073709551615 : Int),
      (0 : Int) ≤ IntKind.wrap IntKind.u64 (n - a),
      IntKind.wrap IntKind.u64 (n - a) ≤ (18446744073709551615 : Int),
      (0 : Int) ≤ (0 : Int),
      (0 : Int) ≤ (1 : Int),
      decide (r * t / (18446744073709551616 : Int) > if r * t % (18446744073709551616 : Int) < IntKind.wrap IntKind.u64 (n - a) + (0 : Int) then (1 : Int) else (0 : Int)) = false,
      r = r,
      n = n,
      f = f,
      n = n,
      IntKind.wrap IntKind.u64 (b + List.foldl (fun x y => if y < x then y else x) ((r * t % (18446744073709551616 : Int) - IntKind.wrap IntKind.u64 (n - a) - (0 : Int)) % (18446744073709551616 : Int)) [IntKind.wrap IntKind.u64 (f - b)]) = b + if e < p - d then e else p - d]) (by kernel_rfl) (.cons (by omega) (.cons (by omega) (.cons (by omega) (.cons (by omega) (.cons (by omega) (.cons (by (simp [*]; done)) (.cons (by omega) (.cons (by omega) (.cons (by omega) (.cons (by omega) (.cons (by (simp [*]; done)) (.cons (by rfl) (.cons (by omega) (.cons (by omega) (.cons (by omega) (.cons (by omega) (.cons (by trivial) (.cons (by trivial) (.cons (by (simp [*]; omega)) (.cons (by rfl) (.cons (by rfl) (.cons (by rfl) (.cons (by rfl) (.cons (by (rw [hp]; exact fin_min hb hf.2 he he2 (by rw [hd]; omega) (by omega))) .nil))))))))))))))))))))))))

set_option maxHeartbeats 2000000 in
theorem tick1_top (r n f a b t p d e q : Int) (hr : 0 ≤ r ∧ r ≤ 18446744073709551615) (hn : 0 ≤ n ∧ n ≤ 18446744073709551615) (hf : 0 ≤ f ∧ f ≤ 18446744073709551615) (ha : 0 ≤ a ∧ a ≤ n) (hb : 0 ≤ b ∧ b ≤ f) (ht : 0 ≤ t ∧ t ≤ 18446744073709551615) (hk : ckOne r n f a b = 0) (hp : r * t = p) (h0 : 0 ≤ p) (hd : IntKind.wrap IntKind.u64 (n - a) = d) (hd2 : d = n - a) (he : IntKind.wrap IntKind.u64 (f - b) = e) (he2 : e = f - b) (hq : p / 18446744073709551616 = q) (hq2 : 1 ≤ q) (hlo : (if p % 18446744073709551616 < d then 1 else 0) < q) : PureOk Try.prog 12 ([.nv (oneN r n f a b), uA t]) (.nv (oneN r n f n f)) :=
  pure_run Gm_ok Try.func12 (orc := ⟨[false, false, false, true], []⟩) (obl := [(0 : Int) ≤ r,
      (0 : Int) ≤ n,
      (0 : Int) ≤ f,
      (0 : Int) ≤ a,
      (0 : Int) ≤ b,
      (ckOne r n f a b != (0 : Int)) = false,
      (0 : Int) ≤ r,
      r ≤ (18446744073709551615 : Int),
      (0 : Int) ≤ t,
      t ≤ (18446744073709551615 : Int),
      (r * t / (18446744073709551616 : Int) == (0 : Int)) = false,
      false = false,
      (0 : Int) ≤ r * t % (18446744073709551616 : Int),
      r * t % (18446744073709551616 : Int) ≤ (18446744073709551615 : Int),
      (0 : Int) ≤ IntKind.wrap IntKind.u64 (n - a),
      IntKind.wrap IntKind.u64 (n - a) ≤ (18446744073709551615 : Int),
      (0 : Int) ≤ (0 : Int),
      (0 : Int) ≤ (1 : Int),
      decide (r * t / (18446744073709551616 : Int) > if r * t % (18446744073709551616 : Int) < IntKind.wrap IntKind.u64 (n - a) + (0 : Int) then (1 : Int) else (0 : Int)) = true,
      r = r,
      n = n,
      f = f,
      n = n,
      IntKind.wrap IntKind.u64 (b + List.foldl (fun x y => if y < x then y else x) (18446744073709551615 : Int) [IntKind.wrap IntKind.u64 (f - b)]) = f]) (by kernel_rfl) (.cons (by omega) (.cons (by omega) (.cons (by omega) (.cons (by omega) (.cons (by omega) (.cons (by (simp [*]; done)) (.cons (by omega) (.cons (by omega) (.cons (by omega) (.cons (by omega) (.cons (by (simp [*]; omega)) (.cons (by rfl) (.cons (by omega) (.cons (by omega) (.cons (by omega) (.cons (by omega) (.cons (by trivial) (.cons (by trivial) (.cons (by (simp [*]; omega)) (.cons (by rfl) (.cons (by rfl) (.cons (by rfl) (.cons (by rfl) (.cons (by exact (fin_min hb hf.2 he he2 rfl (by omega)).trans (by split <;> omega)) .nil))))))))))))))))))))))))

set_option maxHeartbeats 2000000 in
theorem tick2_bad (s q n f a b t : Int) (hs : 0 ≤ s ∧ s ≤ 18446744073709551615) (hq : 0 ≤ q ∧ q ≤ 18446744073709551615) (hn : 0 ≤ n ∧ n ≤ 18446744073709551615) (hf : 0 ≤ f ∧ f ≤ 18446744073709551615) (ha : 0 ≤ a ∧ a ≤ 18446744073709551615) (hb : 0 ≤ b ∧ b ≤ 18446744073709551615) (hk : ckTwo s q n f a b ≠ 0) : PureOk Try.prog 13 ([.nv (twoN s q n f a b), uA t]) (.nv (twoN 0 0 0 0 0 0)) :=
  pure_run Gm2_ok Try.func13 (orc := ⟨[true], []⟩) (obl := [(0 : Int) ≤ s,
      (0 : Int) ≤ q,
      (0 : Int) ≤ n,
      (0 : Int) ≤ f,
      (0 : Int) ≤ a,
      (0 : Int) ≤ b,
      (ckTwo s q n f a b != (0 : Int)) = true,
      (0 : Int) = (0 : Int),
      (0 : Int) = (0 : Int),
      (0 : Int) = (0 : Int),
      (0 : Int) = (0 : Int),
      (0 : Int) = (0 : Int),
      (0 : Int) = (0 : Int)]) (by kernel_rfl) (.cons (by omega) (.cons (by omega) (.cons (by omega) (.cons (by omega) (.cons (by omega) (.cons (by omega) (.cons (by exact bne_iff_ne.2 (by omega)) (.cons (by rfl) (.cons (by rfl) (.cons (by rfl) (.cons (by rfl) (.cons (by rfl) (.cons (by rfl) .nil)))))))))))))

set_option maxHeartbeats 2000000 in
theorem tick2_ok (s q n f a b t x y : Int) (hs : 0 ≤ s ∧ s ≤ 18446744073709551615) (hq : 0 ≤ q ∧ q ≤ 18446744073709551615) (hn : 0 ≤ n ∧ n ≤ 18446744073709551615) (hf : 0 ≤ f ∧ f ≤ 18446744073709551615) (ha : 0 ≤ a ∧ a ≤ n) (hb : 0 ≤ b ∧ b ≤ f) (ht : 0 ≤ t ∧ t ≤ 18446744073709551615) (hk : ckTwo s q n f a b = 0) (hx : capU (a + capU (s * t)) = x) (hy : capU (b + capU (q * t)) = y) : PureOk Try.prog 13 ([.nv (twoN s q n f a b), uA t]) (.nv (twoN s q n f (if n < x then n else x) (if f < y then f else y))) :=
  pure_run Gm2_ok Try.func13 (orc := ⟨[false], []⟩) (obl := [(0 : Int) ≤ s,
      (0 : Int) ≤ q,
      (0 : Int) ≤ n,
      (0 : Int) ≤ f,
      (0 : Int) ≤ a,
      (0 : Int) ≤ b,
      (ckTwo s q n f a b != (0 : Int)) = false,
      (0 : Int) ≤ a,
      a ≤ (18446744073709551615 : Int),
      (0 : Int) ≤ s,
      s ≤ (18446744073709551615 : Int),
      (0 : Int) ≤ t,
      t ≤ (18446744073709551615 : Int),
      (0 : Int) ≤ b,
      b ≤ (18446744073709551615 : Int),
      (0 : Int) ≤ q,
      q ≤ (18446744073709551615 : Int),
      (0 : Int) ≤ t,
      t ≤ (18446744073709551615 : Int),
      s = s,
      q = q,
      n = n,
      f = f,
      List.foldl (fun x y => if y < x then y else x) (capU (a + capU (s * t))) [n] = if n < x then n else x,
      List.foldl (fun x y => if y < x then y else x) (capU (b + capU (q * t))) [f] = if f < y then f else y]) (by kernel_rfl) (.cons (by omega) (.cons (by omega) (.cons (by omega) (.cons (by omega) (.cons (by omega) (.cons (by omega) (.cons (by exact bne_eq_false_iff_eq.2 (by omega)) (.cons (by omega) (.cons (by omega) (.cons (by omega) (.cons (by omega) (.cons (by omega) (.cons (by omega) (.cons (by omega) (.cons (by omega) (.cons (by omega) (.cons (by omega) (.cons (by omega) (.cons (by omega) (.cons (by rfl) (.cons (by rfl) (.cons (by rfl) (.cons (by rfl) (.cons (by (subst_vars; rfl)) (.cons (by (subst_vars; rfl)) .nil)))))))))))))))))))))))))

set_option maxHeartbeats 2000000 in
theorem tick1_lo (r n f a b t p d e : Int) (hr : 0 ≤ r ∧ r ≤ 18446744073709551615) (hn : 0 ≤ n ∧ n ≤ 18446744073709551615) (hf : 0 ≤ f ∧ f ≤ 18446744073709551615) (ha : 0 ≤ a ∧ a ≤ n) (hb : 0 ≤ b ∧ b ≤ f) (ht : 0 ≤ t ∧ t ≤ 18446744073709551615) (hk : ckOne r n f a b = 0) (hp : r * t = p) (h0 : 0 ≤ p) (h : n - a < p) (h2 : p ≤ 18446744073709551615) (hd : IntKind.wrap IntKind.u64 (n - a) = d) (hd2 : d = n - a) (he : IntKind.wrap IntKind.u64 (f - b) = e) (he2 : e = f - b) : PureOk Try.prog 12 ([.nv (oneN r n f a b), uA t]) (.nv (oneN r n f n (b + (if e < p - d then e else p - d)))) :=
  pure_run Gm_ok Try.func12 (orc := ⟨[false, true, false, false], []⟩) (obl := [(0 : Int) ≤ r,
      (0 : Int) ≤ n,
      (0 : Int) ≤ f,
      (0 : Int) ≤ a,
      (0 : Int) ≤ b,
      (ckOne r n f a b != (0 : Int)) = false,
      (0 : Int) ≤ r,
      r ≤ (18446744073709551615 : Int),
      (0 : Int) ≤ t,
      t ≤ (18446744073709551615 : Int),
      (r * t / (18446744073709551616 : Int) == (0 : Int)) = true,
      decide (r * t % (18446744073709551616 : Int) ≤ IntKind.wrap IntKind.u64 (n - a)) = false,
      (0 : Int) ≤ r * t % (18446744073709551616 : Int),
      r * t % (18446744073709551616 : Int) ≤ (18446744073709551615 : Int),
      (0 : Int) ≤ IntKind.wrap IntKind.u64 (n - a),
      IntKind.wrap IntKind.u64 (n - a) ≤ (18446744073709551615 : Int),
      (0 : Int) ≤ (0 : Int),
      (0 : Int) ≤ (1 : Int),
      decide (r * t / (18446744073709551616 : Int) > if r * t % (18446744073709551616 : Int) < IntKind.wrap IntKind.u64 (n - a) + (0 : Int) then (1 : Int) else (0 : Int)) = false,
      r = r,
      n = n,
      f = f,
      n = n,
      IntKind.wrap IntKind.u64 (b + List.foldl (fun x y => if y < x then y else x) ((r * t % (18446744073709551616 : Int) - IntKind.wrap IntKind.u64 (n - a) - (0 : Int)) % (18446744073709551616 : Int)) [IntKind.wrap IntKind.u64 (f - b)]) = b + if e < p - d then e else p - d]) (by kernel_rfl) (.cons (by omega) (.cons (by omega) (.cons (by omega) (.cons (by omega) (.cons (by omega) (.cons (by exact bne_eq_false_iff_eq.2 (by omega)) (.cons (by omega) (.cons (by omega) (.cons (by omega) (.cons (by omega) (.cons (by exact decide_eq_true (by omega)) (.cons (by exact decide_eq_false (by omega)) (.cons (by omega) (.cons (by omega) (.cons (by omega) (.cons (by omega) (.cons (by trivial) (.cons (by trivial) (.cons (by exact decide_eq_false (by omega)) (.cons (by rfl) (.cons (by rfl) (.cons (by rfl) (.cons (by rfl) (.cons (by (rw [hp]; exact fin_min hb hf.2 he he2 (by rw [hd]; omega) (by omega))) .nil))))))))))))))))))))))))
end Go.Proofs.Ytlmeemilikladaa

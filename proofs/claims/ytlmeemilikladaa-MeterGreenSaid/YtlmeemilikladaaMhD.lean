/- Runs of Go code, as printed by a program: no condition beyond those that each states. -/
import Derived.Test.YtlmeemilikladaaMhC
import Derived.Test.YtlmeemilikladaaChecked
import Derived.KernelRfl
namespace Go.Proofs.Ytlmeemilikladaa
set_option linter.unusedVariables false
set_option linter.unusedSimpArgs false
set_option maxRecDepth 100000
open Go.RowKit E
set_option maxHeartbeats 2000000 in
theorem rtick1_bad (r n f a b t : Int) (hr : 0 ≤ r ∧ r ≤ 18446744073709551615) (hn : 0 ≤ n ∧ n ≤ 18446744073709551615) (hf : 0 ≤ f ∧ f ≤ 18446744073709551615) (ha : 0 ≤ a ∧ a ≤ 18446744073709551615) (hb : 0 ≤ b ∧ b ≤ 18446744073709551615) (hk : ckOne r n f a b ≠ 0) : PureOk Try.prog 16 ([.nv (oneN r n f a b), uA t]) (.nv (oneN 0 0 0 0 0)) :=
  pure_run Gr1_ok Try.func16 (orc := ⟨[true], []⟩) (obl := [(0 : Int) ≤ r,
      (0 : Int) ≤ n,
      (0 : Int) ≤ f,
      (0 : Int) ≤ a,
      (0 : Int) ≤ b,
      (ckOne r n f a b != (0 : Int)) = true,
      (0 : Int) = (0 : Int),
      (0 : Int) = (0 : Int),
      (0 : Int) = (0 : Int),
      (0 : Int) = (0 : Int),
      (0 : Int) = (0 : Int)]) (by kernel_rfl) (.cons (by omega) (.cons (by omega) (.cons (by omega) (.cons (by omega) (.cons (by omega) (.cons (by exact bne_iff_ne.2 (by omega)) (.cons (by rfl) (.cons (by rfl) (.cons (by rfl) (.cons (by rfl) (.cons (by rfl) .nil)))))))))))

set_option maxHeartbeats 2000000 in
theorem rtick2_bad (s q n f a b t : Int) (hs : 0 ≤ s ∧ s ≤ 18446744073709551615) (hq : 0 ≤ q ∧ q ≤ 18446744073709551615) (hn : 0 ≤ n ∧ n ≤ 18446744073709551615) (hf : 0 ≤ f ∧ f ≤ 18446744073709551615) (ha : 0 ≤ a ∧ a ≤ 18446744073709551615) (hb : 0 ≤ b ∧ b ≤ 18446744073709551615) (hk : ckTwo s q n f a b ≠ 0) : PureOk Try.prog 17 ([.nv (twoN s q n f a b), uA t]) (.nv (twoN 0 0 0 0 0 0)) :=
  pure_run Gr1_ok Try.func17 (orc := ⟨[true], []⟩) (obl := [(0 : Int) ≤ s,
      (0 : Int) ≤ q,
      (0 : Int) ≤ n,
      (0 : Int) ≤ f,
      (0 : Int) ≤ a,
      (0 : Int) ≤ b,
      (ckTwo s q n f a b != (0 : Int)) = true,
      (0 : Int) = (0 : Int),
      (0 : Int) = (0 : Int),
      (0 : Int) = (0 : Int),
      (0 : Int) = (0 : Int),
      (0 : Int) = (0 : Int),
      (0 : Int) = (0 : Int)]) (by kernel_rfl) (.cons (by omega) (.cons (by omega) (.cons (by omega) (.cons (by omega) (.cons (by omega) (.cons (by omega) (.cons (by exact bne_iff_ne.2 (by omega)) (.cons (by rfl) (.cons (by rfl) (.cons (by rfl) (.cons (by rfl) (.cons (by rfl) (.cons (by rfl) .nil)))))))))))))

set_option maxHeartbeats 2000000 in
theorem rtick1_ok (r n f a b t p x y z A B d e : Int) (hr : 0 ≤ r ∧ r ≤ 18446744073709551615) (hn : 0 ≤ n ∧ n ≤ 18446744073709551615) (hf : 0 ≤ f ∧ f ≤ 18446744073709551615) (ha : 0 ≤ a ∧ a ≤ 18446744073709551615) (hb : 0 ≤ b ∧ b ≤ 18446744073709551615) (ht : 0 ≤ t ∧ t ≤ 18446744073709551615) (hk : ckOne r n f a b = 0) (hp : r * t = p) (D1 : dig (d0 p) ∧ dig (d1 p) ∧ dig (d2 p) ∧ dig (d3 p)) (D1v : val4 (d0 p) (d1 p) (d2 p) (d3 p) = p) (hd : IntKind.wrap IntKind.u64 (n - a) = d) (hd2 : 0 ≤ d ∧ d ≤ 18446744073709551615) (hx : leastV p d = x) (hx2 : 0 ≤ x ∧ x ≤ 18446744073709551615) (hxp : x ≤ p) (D2 : dig (d0 x) ∧ dig (d1 x) ∧ dig (d2 x) ∧ dig (d3 x)) (D2v : val4 (d0 x) (d1 x) (d2 x) (d3 x) = x) (hz : p - x = z) (D3 : dig (d0 z) ∧ dig (d1 z) ∧ dig (d2 z) ∧ dig (d3 z)) (D3v : val4 (d0 z) (d1 z) (d2 z) (d3 z) = z) (he : IntKind.wrap IntKind.u64 (f - b) = e) (he2 : 0 ≤ e ∧ e ≤ 18446744073709551615) (hy : leastV z e = y) (hA : IntKind.wrap IntKind.u64 (a + x) = A) (hB : IntKind.wrap IntKind.u64 (b + y) = B) : PureOk Try.prog 16 ([.nv (oneN r n f a b), uA t]) (.nv (oneN r n f A B)) :=
  pure_run Gr1_ok Try.func16 (orc := ⟨[false], []⟩) (obl := [(0 : Int) ≤ r,
      (0 : Int) ≤ n,
      (0 : Int) ≤ f,
      (0 : Int) ≤ a,
      (0 : Int) ≤ b,
      (ckOne r n f a b != (0 : Int)) = false,
      (0 : Int) ≤ r,
      r ≤ (18446744073709551615 : Int),
      (0 : Int) ≤ t,
      t ≤ (18446744073709551615 : Int),
      dig (d0 (r * t)),
      dig (d1 (r * t)),
      dig (d2 (r * t)),
      dig (d3 (r * t)),
      (0 : Int) ≤ IntKind.wrap IntKind.u64 (n - a),
      IntKind.wrap IntKind.u64 (n - a) ≤ (18446744073709551615 : Int),
      (0 : Int) ≤ leastV (val4 (d0 (r * t)) (d1 (r * t)) (d2 (r * t)) (d3 (r * t))) (IntKind.wrap IntKind.u64 (n - a)),
      leastV (val4 (d0 (r * t)) (d1 (r * t)) (d2 (r * t)) (d3 (r * t))) (IntKind.wrap IntKind.u64 (n - a)) ≤ (18446744073709551615 : Int),
      dig (d0 (r * t)),
      dig (d1 (r * t)),
      dig (d2 (r * t)),
      dig (d3 (r * t)),
      dig (d0 (leastV (val4 (d0 (r * t)) (d1 (r * t)) (d2 (r * t)) (d3 (r * t))) (IntKind.wrap IntKind.u64 (n - a)))),
      dig (d1 (leastV (val4 (d0 (r * t)) (d1 (r * t)) (d2 (r * t)) (d3 (r * t))) (IntKind.wrap IntKind.u64 (n - a)))),
      dig (d2 (leastV (val4 (d0 (r * t)) (d1 (r * t)) (d2 (r * t)) (d3 (r * t))) (IntKind.wrap IntKind.u64 (n - a)))),
      dig (d3 (leastV (val4 (d0 (r * t)) (d1 (r * t)) (d2 (r * t)) (d3 (r * t))) (IntKind.wrap IntKind.u64 (n - a)))),
      val4 (d0 (leastV (val4 (d0 (r * t)) (d1 (r * t)) (d2 (r * t)) (d3 (r * t))) (IntKind.wrap IntKind.u64 (n - a)))) (d1 (leastV (val4 (d0 (r * t)) (d1 (r * t)) (d2 (r * t)) (d3 (r * t))) (IntKind.wrap IntKind.u64 (n - a)))) (d2 (leastV (val4 (d0 (r * t)) (d1 (r * t)) (d2 (r * t)) (d3 (r * t))) (IntKind.wrap IntKind.u64 (n - a)))) (d3 (leastV (val4 (d0 (r * t)) (d1 (r * t)) (d2 (r * t)) (d3 (r * t))) (IntKind.wrap IntKind.u64 (n - a)))) ≤ val4 (d0 (r * t)) (d1 (r * t)) (d2 (r * t)) (d3 (r * t)),
      dig (d0 (val4 (d0 (r * t)) (d1 (r * t)) (d2 (r * t)) (d3 (r * t)) - val4 (d0 (leastV (val4 (d0 (r * t)) (d1 (r * t)) (d2 (r * t)) (d3 (r * t))) (IntKind.wrap IntKind.u64 (n - a)))) (d1 (leastV (val4 (d0 (r * t)) (d1 (r * t)) (d2 (r * t)) (d3 (r * t))) (IntKind.wrap IntKind.u64 (n - a)))) (d2 (leastV (val4 (d0 (r * t)) (d1 (r * t)) (d2 (r * t)) (d3 (r * t))) (IntKind.wrap IntKind.u64 (n - a)))) (d3 (leastV (val4 (d0 (r * t)) (d1 (r * t)) (d2 (r * t)) (d3 (r * t))) (IntKind.wrap IntKind.u64 (n - a)))))),
      dig (d1 (val4 (d0 (r * t)) (d1 (r * t)) (d2 (r * t)) (d3 (r * t)) - val4 (d0 (leastV (val4 (d0 (r * t)) (d1 (r * t)) (d2 (r * t)) (d3 (r * t))) (IntKind.wrap IntKind.u64 (n - a)))) (d1 (leastV (val4 (d0 (r * t)) (d1 (r * t)) (d2 (r * t)) (d3 (r * t))) (IntKind.wrap IntKind.u64 (n - a)))) (d2 (leastV (val4 (d0 (r * t)) (d1 (r * t)) (d2 (r * t)) (d3 (r * t))) (IntKind.wrap IntKind.u64 (n - a)))) (d3 (leastV (val4 (d0 (r * t)) (d1 (r * t)) (d2 (r * t)) (d3 (r * t))) (IntKind.wrap IntKind.u64 (n - a)))))),
      dig (d2 (val4 (d0 (r * t)) (d1 (r * t)) (d2 (r * t)) (d3 (r * t)) - val4 (d0 (leastV (val4 (d0 (r * t)) (d1 (r * t)) (d2 (r * t)) (d3 (r * t))) (IntKind.wrap IntKind.u64 (n - a)))) (d1 (leastV (val4 (d0 (r * t)) (d1 (r * t)) (d2 (r * t)) (d3 (r * t))) (IntKind.wrap IntKind.u64 (n - a)))) (d2 (leastV (val4 (d0 (r * t)) (d1 (r * t)) (d2 (r * t)) (d3 (r * t))) (IntKind.wrap IntKind.u64 (n - a)))) (d3 (leastV (val4 (d0 (r * t)) (d1 (r * t)) (d2 (r * t)) (d3 (r * t))) (IntKind.wrap IntKind.u64 (n - a)))))),
      dig (d3 (val4 (d0 (r * t)) (d1 (r * t)) (d2 (r * t)) (d3 (r * t)) - val4 (d0 (leastV (val4 (d0 (r * t)) (d1 (r * t)) (d2 (r * t)) (d3 (r * t))) (IntKind.wrap IntKind.u64 (n - a)))) (d1 (leastV (val4 (d0 (r * t)) (d1 (r * t)) (d2 (r * t)) (d3 (r * t))) (IntKind.wrap IntKind.u64 (n - a)))) (d2 (leastV (val4 (d0 (r * t)) (d1 (r * t)) (d2 (r * t)) (d3 (r * t))) (IntKind.wrap IntKind.u64 (n - a)))) (d3 (leastV (val4 (d0 (r * t)) (d1 (r * t)) (d2 (r * t)) (d3 (r * t))) (IntKind.wrap IntKind.u64 (n - a)))))),
      (0 : Int) ≤ IntKind.wrap IntKind.u64 (f - b),
      IntKind.wrap IntKind.u64 (f - b) ≤ (18446744073709551615 : Int),
      r = r,
      n = n,
      f = f,
      IntKind.wrap IntKind.u64 (a + leastV (val4 (d0 (r * t)) (d1 (r * t)) (d2 (r * t)) (d3 (r * t))) (IntKind.wrap IntKind.u64 (n - a))) = A,
      IntKind.wrap IntKind.u64 (b + leastV (val4 (d0 (val4 (d0 (r * t)) (d1 (r * t)) (d2 (r * t)) (d3 (r * t)) - val4 (d0 (leastV (val4 (d0 (r * t)) (d1 (r * t)) (d2 (r * t)) (d3 (r * t))) (IntKind.wrap IntKind.u64 (n - a)))) (d1 (leastV (val4 (d0 (r * t)) (d1 (r * t)) (d2 (r * t)) (d3 (r * t))) (IntKind.wrap IntKind.u64 (n - a)))) (d2 (leastV (val4 (d0 (r * t)) (d1 (r * t)) (d2 (r * t)) (d3 (r * t))) (IntKind.wrap IntKind.u64 (n - a)))) (d3 (leastV (val4 (d0 (r * t)) (d1 (r * t)) (d2 (r * t)) (d3 (r * t))) (IntKind.wrap IntKind.u64 (n - a)))))) (d1 (val4 (d0 (r * t)) (d1 (r * t)) (d2 (r * t)) (d3 (r * t)) - val4 (d0 (leastV (val4 (d0 (r * t)) (d1 (r * t)) (d2 (r * t)) (d3 (r * t))) (IntKind.wrap IntKind.u64 (n - a)))) (d1 (leastV (val4 (d0 (r * t)) (d1 (r * t)) (d2 (r * t)) (d3 (r * t))) (IntKind.wrap IntKind.u64 (n - a)))) (d2 (leastV (val4 (d0 (r * t)) (d1 (r * t)) (d2 (r * t)) (d3 (r * t))) (IntKind.wrap IntKind.u64 (n - a)))) (d3 (leastV (val4 (d0 (r * t)) (d1 (r * t)) (d2 (r * t)) (d3 (r * t))) (IntKind.wrap IntKind.u64 (n - a)))))) (d2 (val4 (d0 (r * t)) (d1 (r * t)) (d2 (r * t)) (d3 (r * t)) - val4 (d0 (leastV (val4 (d0 (r * t)) (d1 (r * t)) (d2 (r * t)) (d3 (r * t))) (IntKind.wrap IntKind.u64 (n - a)))) (d1 (leastV (val4 (d0 (r * t)) (d1 (r * t)) (d2 (r * t)) (d3 (r * t))) (IntKind.wrap IntKind.u64 (n - a)))) (d2 (leastV (val4 (d0 (r * t)) (d1 (r * t)) (d2 (r * t)) (d3 (r * t))) (IntKind.wrap IntKind.u64 (n - a)))) (d3 (leastV (val4 (d0 (r * t)) (d1 (r * t)) (d2 (r * t)) (d3 (r * t))) (IntKind.wrap IntKind.u64 (n - a)))))) (d3 (val4 (d0 (r * t)) (d1 (r * t)) (d2 (r * t)) (d3 (r * t)) - val4 (d0 (leastV (val4 (d0 (r * t)) (d1 (r * t)) (d2 (r * t)) (d3 (r * t))) (IntKind.wrap IntKind.u64 (n - a)))) (d1 (leastV (val4 (d0 (r * t)) (d1 (r * t)) (d2 (r * t)) (d3 (r * t))) (IntKind.wrap IntKind.u64 (n - a)))) (d2 (leastV (val4 (d0 (r * t)) (d1 (r * t)) (d2 (r * t)) (d3 (r * t))) (IntKind.wrap IntKind.u64 (n - a)))) (d3 (leastV (val4 (d0 (r * t)) (d1 (r * t)) (d2 (r * t)) (d3 (r * t))) (IntKind.wrap IntKind.u64 (n - a))))))) (IntKind.wrap IntKind.u64 (f - b))) = B]) (by kernel_rfl) (.cons (by omega) (.cons (by omega) (.cons (by omega) (.cons (by omega) (.cons (by omega) (.cons (by (simp [*]; done)) (.cons (by omega) (.cons (by omega) (.cons (by omega) (.cons (by omega) (.cons (by (simp only [*]; done)) (.cons (by (simp only [*]; done)) (.cons (by (simp only [*]; done)) (.cons (by (simp only [*]; done)) (.cons (by omega) (.cons (by omega) (.cons (by (simp only [*]; done)) (.cons (by (simp only [*]; done)) (.cons (by (simp only [*]; done)) (.cons (by (simp only [*]; done)) (.cons (by (simp only [*]; done)) (.cons (by (simp only [*]; done)) (.cons (by (simp only [*]; done)) (.cons (by (simp only [*]; done)) (.cons (by (simp only [*]; done)) (.cons (by (simp only [*]; done)) (.cons (by (simp only [*]; done)) (.cons (by (simp only [*]; done)) (.cons (by (simp only [*]; done)) (.cons (by (simp only [*]; done)) (.cons (by (simp only [*]; done)) (.cons (by omega) (.cons (by omega) (.cons (by rfl) (.cons (by rfl) (.cons (by rfl) (.cons (by (simp only [*]; done)) (.cons (by (simp only [*]; done)) .nil))))))))))))))))))))))))))))))))))))))

set_option maxHeartbeats 2000000 in
theorem rtick2_ok (s q n f a b t p z x y A B d e : Int) (hs : 0 ≤ s ∧ s ≤ 18446744073709551615) (hq : 0 ≤ q ∧ q ≤ 18446744073709551615) (hn : 0 ≤ n ∧ n ≤ 18446744073709551615) (hf : 0 ≤ f ∧ f ≤ 18446744073709551615) (ha : 0 ≤ a ∧ a ≤ 18446744073709551615) (hb : 0 ≤ b ∧ b ≤ 18446744073709551615) (ht : 0 ≤ t ∧ t ≤ 18446744073709551615) (hk : ckTwo s q n f a b = 0) (hp : s * t = p) (D1 : dig (d0 p) ∧ dig (d1 p) ∧ dig (d2 p) ∧ dig (d3 p)) (D1v : val4 (d0 p) (d1 p) (d2 p) (d3 p) = p) (hz : q * t = z) (D3 : dig (d0 z) ∧ dig (d1 z) ∧ dig (d2 z) ∧ dig (d3 z)) (D3v : val4 (d0 z) (d1 z) (d2 z) (d3 z) = z) (hd : IntKind.wrap IntKind.u64 (n - a) = d) (hd2 : 0 ≤ d ∧ d ≤ 18446744073709551615) (hx : leastV p d = x) (he : IntKind.wrap IntKind.u64 (f - b) = e) (he2 : 0 ≤ e ∧ e ≤ 18446744073709551615) (hy : leastV z e = y) (hA : IntKind.wrap IntKind.u64 (a + x) = A) (hB : IntKind.wrap IntKind.u64 (b + y) = B) : PureOk Try.prog 17 ([.nv (twoN s q n f a b), uA t]) (.nv (twoN s q n f A B)) :=
  pure_run Gr1_ok Try.func17 (orc := ⟨[false], []⟩) (obl := [(0 : Int) ≤ s,
      (0 : Int) ≤ q,
      (0 : Int) ≤ n,
      (0 : Int) ≤ f,
      (0 : Int) ≤ a,
      (0 : Int) ≤ b,
      (ckTwo s q n f a b != (0 : Int)) = false,
      (0 : Int) ≤ s,
      s ≤ (18446744073709551615 : Int),
      (0 : Int) ≤ t,
      t ≤ (18446744073709551615 : Int),
      dig (d0 (s * t)),
      dig (d1 (s * t)),
      dig (d2 (s * t)),
      dig (d3 (s * t)),
      (0 : Int) ≤ IntKind.wrap IntKind.u64 (n - a),
      IntKind.wrap IntKind.u64 (n - a) ≤ (18446744073709551615 : Int),
      (0 : Int) ≤ q,
      q ≤ (18446744073709551615 : Int),
      (0 : Int) ≤ t,
      t ≤ (18446744073709551615 : Int),
      dig (d0 (q * t)),
      dig (d1 (q * t)),
      dig (d2 (q * t)),
      dig (d3 (q * t)),
      (0 : Int) ≤ IntKind.wrap IntKind.u64 (f - b),
      IntKind.wrap IntKind.u64 (f - b) ≤ (18446744073709551615 : Int),
      s = s,
      q = q,
      n = n,
      f = f,
      IntKind.wrap IntKind.u64 (a + leastV (val4 (d0 (s * t)) (d1 (s * t)) (d2 (s * t)) (d3 (s * t))) (IntKind.wrap IntKind.u64 (n - a))) = A,
      IntKind.wrap IntKind.u64 (b + leastV (val4 (d0 (q * t)) (d1 (q * t)) (d2 (q * t)) (d3 (q * t))) (IntKind.wrap IntKind.u64 (f - b))) = B]) (by kernel_rfl) (.cons (by omega) (.cons (by omega) (.cons (by omega) (.cons (by omega) (.cons (by omega) (.cons (by omega) (.cons (by (simp [*]; done)) (.cons (by omega) (.cons (by omega) (.cons (by omega) (.cons (by omega) (.cons (by (simp only [*]; done)) (.cons (by (simp only [*]; done)) (.cons (by (simp only [*]; done)) (.cons (by (simp only [*]; done)) (.cons (by omega) (.cons (by omega) (.cons (by omega) (.cons (by omega) (.cons (by omega) (.cons (by omega) (.cons (by (simp only [*]; done)) (.cons (by (simp only [*]; done)) (.cons (by (simp only [*]; done)) (.cons (by (simp only [*]; done)) (.cons (by omega) (.cons (by omega) (.cons (by rfl) (.cons (by rfl) (.cons (by rfl) (.cons (by rfl) (.cons (by (simp only [*]; done)) (.cons (by (simp only [*]; done)) .nil)))))))))))))))))))))))))))))))))
end Go.Proofs.Ytlmeemilikladaa

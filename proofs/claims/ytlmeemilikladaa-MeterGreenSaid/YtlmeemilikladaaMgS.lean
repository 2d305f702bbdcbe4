/- Meters in plain numbers: ticks. And what Check says, for the symbolic run. No condition. -/
import Derived.Test.YtlmeemilikladaaSatS
import Derived.Test.YtlmeemilikladaaMtL
import Derived.Test.YtlmeemilikladaaChecked
import Derived.KernelRfl
namespace Go.Proofs.Ytlmeemilikladaa
set_option linter.unusedVariables false
set_option linter.unusedSimpArgs false
open Go.RowKit E

abbrev oneN (r n f a b : Int) : NV := .agg [.val (.int .u64 r), .val (.int .u64 n), .val (.int .u64 f), .val (.int .u64 a), .val (.int .u64 b)]
abbrev twoN (s q n f a b : Int) : NV := .agg [.val (.int .u64 s), .val (.int .u64 q), .val (.int .u64 n), .val (.int .u64 f), .val (.int .u64 a), .val (.int .u64 b)]
def gCk1 : List SV → Option (SV × List Prop)
  | [.nv (.agg [.val (.int .u64 r), .val (.int .u64 n), .val (.int .u64 f), .val (.int .u64 a), .val (.int .u64 b)])] => some (iA (ckOne r n f a b), [0 ≤ r, 0 ≤ n, 0 ≤ f, 0 ≤ a, 0 ≤ b])
  | _ => none
def gCk2 : List SV → Option (SV × List Prop)
  | [.nv (.agg [.val (.int .u64 s), .val (.int .u64 q), .val (.int .u64 n), .val (.int .u64 f), .val (.int .u64 a), .val (.int .u64 b)])] => some (iA (ckTwo s q n f a b), [0 ≤ s, 0 ≤ q, 0 ≤ n, 0 ≤ f, 0 ≤ a, 0 ≤ b])
  | _ => none
theorem spCk1 : SpOk Try.prog 24 (pureS gCk1) := pureS_ok (by
  intro args r obl h ho
  unfold gCk1 at h
  split at h
  · simp only [Option.some.injEq, Prod.mk.injEq] at h
    obtain ⟨rfl, rfl⟩ := h
    simp only [AllT, and_true] at ho
    obtain ⟨h1, h2, h3, h4, h5⟩ := ho
    exact ⟨rfl, rfl, pure_of_calls (fun w => check1_any _ _ _ _ _ w h1 h2 h3 h4 h5) (vals_eq rfl rfl) rfl⟩
  · cases h)
theorem spCk2 : SpOk Try.prog 25 (pureS gCk2) := pureS_ok (by
  intro args r obl h ho
  unfold gCk2 at h
  split at h
  · simp only [Option.some.injEq, Prod.mk.injEq] at h
    obtain ⟨rfl, rfl⟩ := h
    simp only [AllT, and_true] at ho
    obtain ⟨h1, h2, h3, h4, h5, h6⟩ := ho
    exact ⟨rfl, rfl, pure_of_calls (fun w => check2_any _ _ _ _ _ _ w h1 h2 h3 h4 h5 h6) (vals_eq rfl rfl) rfl⟩
  · cases h)
def Gm : List (FuncId × Sp) := (24, pureS gCk1) :: (25, pureS gCk2) :: Gs
theorem Gm_ok : CtxOk Try.prog Gm := ctx_cons (enter_of Try.func24 (by kernel_rfl) (by kernel_rfl)) spCk1 <| ctx_cons (enter_of Try.func25 (by kernel_rfl) (by kernel_rfl)) spCk2 Gs_ok

/-- Tokens that come, up to a bound. -/
def upTo (a bound come : Int) : Int := if a + come ≤ bound then a + come else bound
def over (a bound come : Int) : Int := if a + come ≤ bound then 0 else a + come - bound
end Go.Proofs.Ytlmeemilikladaa

/- Runs of Go code, as printed by a program: no condition beyond those that each states. -/
namespace Go.Proofs.Ytlmeemilikladaa
set_option linter.unusedVariables false
set_option linter.unusedSimpArgs false
set_option maxRecDepth 100000
open Go.RowKit E
set_option maxHeartbeats 2000000 in
theorem smuladd (a b c z : Int) (ha : 0 ≤ a ∧ a ≤ 18446744073709551615) (hb : 0 ≤ b ∧ b ≤ 18446744073709551615) (hc : 0 ≤ c ∧ c ≤ 18446744073709551615) (hz : capU (b * c) = z) (hz2 : 0 ≤ z ∧ z ≤ 18446744073709551615) : PureOk Try.prog 28 ([uA a, uA b, uA c]) (uA (capU (a + z))) :=
  pure_run Gs_ok Try.func28 (orc := ⟨[], []⟩) (obl := [(0 : Int) ≤ b,
      b ≤ (18446744073709551615 : Int),
      (0 : Int) ≤ c,
      c ≤ (18446744073709551615 : Int),
      (0 : Int) ≤ a,
      a ≤ (18446744073709551615 : Int),
      (0 : Int) ≤ capU (b * c),
      capU (b * c) ≤ (18446744073709551615 : Int),
      capU (a + capU (b * c)) = capU (a + z)]) (by kernel_rfl) (.cons (by omega) (.cons (by omega) (.cons (by omega) (.cons (by omega) (.cons (by omega) (.cons (by omega) (.cons (by omega) (.cons (by omega) (.cons (by (subst_vars; rfl)) .nil)))))))))
end Go.Proofs.Ytlmeemilikladaa

/- sat.MulAdd for the symbolic run. No condition. -/
namespace Go.Proofs.Ytlmeemilikladaa
set_option linter.unusedVariables false
set_option linter.unusedSimpArgs false
open Go.RowKit E

theorem fin_min {b f e z y : Int} (hb : 0 ≤ b ∧ b ≤ f) (hf : f ≤ 18446744073709551615) (he : IntKind.wrap IntKind.u64 (f - b) = e) (he2 : e = f - b) (hz : z = y) (h0 : 0 ≤ y) :
    IntKind.wrap IntKind.u64 (b + List.foldl (fun x y => if y < x then y else x) z [IntKind.wrap IntKind.u64 (f - b)]) = b + if e < y then e else y := by
  subst hz
  rw [he]
  show IntKind.wrap IntKind.u64 (b + if e < z then e else z) = _
  refine wU64 rfl ?_
  split <;> omega
def gSMulAdd : List SV → Option (SV × List Prop)
  | [.nv (.one (.val (.int .u64 a))), .nv (.one (.val (.int .u64 b))), .nv (.one (.val (.int .u64 c)))] =>
    some (uA (capU (a + capU (b * c))), [0 ≤ a, a ≤ 18446744073709551615, 0 ≤ b, b ≤ 18446744073709551615, 0 ≤ c, c ≤ 18446744073709551615])
  | _ => none
theorem spSMulAdd : SpOk Try.prog 28 (pureS gSMulAdd) := pureS_ok (by
  intro args r obl h ho
  unfold gSMulAdd at h
  split at h
  · rename_i a b c
    simp only [Option.some.injEq, Prod.mk.injEq] at h
    obtain ⟨rfl, rfl⟩ := h
    simp only [AllT, and_true] at ho
    obtain ⟨h1, h2, h3, h4, h5⟩ := ho
    exact ⟨rfl, rfl, smuladd a b c _ ⟨h1, h2⟩ ⟨h3, h4⟩ h5 rfl (capU_bd (Int.mul_nonneg h3 h5.1))⟩
  · cases h)
def Gm2 : List (FuncId × Sp) := (28, pureS gSMulAdd) :: Gm
theorem Gm2_ok : CtxOk Try.prog Gm2 := ctx_cons (enter_of Try.func28 (by kernel_rfl) (by kernel_rfl)) spSMulAdd Gm_ok
end Go.Proofs.Ytlmeemilikladaa

/- Runs of Go code, as printed by a program: no condition beyond those that each states. -/
namespace Go.Proofs.Ytlmeemilikladaa
set_option linter.unusedVariables false
set_option linter.unusedSimpArgs false
set_option maxRecDepth 100000
open Go.RowKit E
set_option maxHeartbeats 2000000 in
theorem tick1_bad (r n f a b t : Int) (hr : 0 ≤ r ∧ r ≤ 18446744073709551615) (hn : 0 ≤ n ∧ n ≤ 18446744073709551615) (hf : 0 ≤ f ∧ f ≤ 18446744073709551615) (ha : 0 ≤ a ∧ a ≤ 18446744073709551615) (hb : 0 ≤ b ∧ b ≤ 18446744073709551615) (hk : ckOne r n f a b ≠ 0) : PureOk Try.prog 12 ([.nv (oneN r n f a b), uA t]) (.nv (oneN 0 0 0 0 0)) :=
  pure_run Gm_ok Try.func12 (orc := ⟨[true], []⟩) (obl := [(0 : Int) ≤ r,
      (0 : Int) ≤ n,
      (0 : Int) ≤ f,
      (0 : Int) ≤ a,
      (0 : Int) ≤ b,
      (ckOne r n f a b != (0 : Int)) = true,
      (0 : Int) = (0 : Int),
      (0 : Int) = (0 : Int),
      (0 : Int) = (0 : Int),
      (0 : Int) = (0 : Int),
      (0 : Int) = (0 : Int)]) (by kernel_rfl) (.cons (by omega) (.cons (by omega) (.cons (by omega) (.cons (by omega) (.cons (by omega) (.cons (by exact bne_iff_ne.2 (by omega)) (.cons (by rfl) (.cons (by rfl) (.cons (by rfl) (.cons (by rfl) (.cons (by rfl) .nil)))))))))))

set_option maxHeartbeats 2000000 in
theorem tick1_in (r n f a b t p : Int) (hr : 0 ≤ r ∧ r ≤ 18446744073709551615) (hn : 0 ≤ n ∧ n ≤ 18446744073709551615) (hf : 0 ≤ f ∧ f ≤ 18446744073709551615) (ha : 0 ≤ a ∧ a ≤ n) (hb : 0 ≤ b ∧ b ≤ f) (ht : 0 ≤ t ∧ t ≤ 18446744073709551615) (hk : ckOne r n f a b = 0) (hp : r * t = p) (h0 : 0 ≤ p) (h : p ≤ n - a) : PureOk Try.prog 12 ([.nv (oneN r n f a b), uA t]) (.nv (oneN r n f (a + p) b)) :=
  pure_run Gm_ok Try.func12 (orc := ⟨[false, true, true], []⟩) (obl := [(0 : Int) ≤ r,
      (0 : Int) ≤ n,
      (0 : Int) ≤ f,
      (0 : Int) ≤ a,
      (0 : Int) ≤ b,
      (ckOne r n f a b != (0 : Int)) = false,
      (0 : Int) ≤ r,
      r ≤ (18446744073709551615 : Int),
      (0 : Int) ≤ t,
      t ≤ (18446744073709551615 : Int),
      (r * t / (18446744073709551616 : Int) == (0 : Int)) = true,
      decide (r * t % (18446744073709551616 : Int) ≤ IntKind.wrap IntKind.u64 (n - a)) = true,
      r = r,
      n = n,
      f = f,
      IntKind.wrap IntKind.u64 (a + r * t % (18446744073709551616 : Int)) = a + p,
      b = b]) (by kernel_rfl) (.cons (by omega) (.cons (by omega) (.cons (by omega) (.cons (by omega) (.cons (by omega) (.cons (by exact bne_eq_false_iff_eq.2 (by omega)) (.cons (by omega) (.cons (by omega) (.cons (by omega) (.cons (by omega) (.cons (by (rw [hp]; exact beq_iff_eq.2 (by omega))) (.cons (by (rw [hp]; exact decide_eq_true (by rw [wU64 (a := n - a) (b := n - a) rfl (by omega)]; omega))) (.cons (by rfl) (.cons (by rfl) (.cons (by rfl) (.cons (by (rw [hp]; exact wU64 (by omega) (by omega))) (.cons (by rfl) .nil)))))))))))))))))

set_option maxHeartbeats 2000000 in
theorem tick1_hi (r n f a b t p d e : Int) (hr : 0 ≤ r ∧ r ≤ 18446744073709551615) (hn : 0 ≤ n ∧ n ≤ 18446744073709551615) (hf : 0 ≤ f ∧ f ≤ 18446744073709551615) (ha : 0 ≤ a ∧ a ≤ n) (hb : 0 ≤ b ∧ b ≤ f) (ht : 0 ≤ t ∧ t ≤ 18446744073709551615) (hk : ckOne r n f a b = 0) (hp : r * t = p) (h0 : 0 ≤ p) (h : 18446744073709551615 < p) (h2 : p - d ≤ 18446744073709551615) (hd : IntKind.wrap IntKind.u64 (n - a) = d) (hd2 : d = n - a) (he : IntKind.wrap IntKind.u64 (f - b) = e) (he2 : e = f - b) (hlo : p % 18446744073709551616 < d) (hq : p / 18446744073709551616 = 1) (hs : (p % 18446744073709551616 - d) % 18446744073709551616 = p - d) : PureOk Try.prog 12 ([.nv (oneN r n f a b), uA t]) (.nv (oneN r n f n (b + (if e < p - d then e else p - d)))) :=
  pure_run Gm_ok Try.func12 (orc := ⟨[false, false, false, false], []⟩) (obl := [(0 : Int) ≤ r,
      (0 : Int) ≤ n,
      (0 : Int) ≤ f,
      (0 : Int) ≤ a,
      (0 : Int) ≤ b,
      (ckOne r n f a b != (0 : Int)) = false,
      (0 : Int) ≤ r,
      r ≤ (18446744073709551615 : Int),
      (0 : Int) ≤ t,
      t ≤ (18446744073709551615 : Int),
      (r * t / (18446744073709551616 : Int) == (0 : Int)) = false,
      false = false,
      (0 : Int) ≤ r * t % (18446744073709551616 : Int),
      r * t % (18446744073709551616 : Int) ≤ (18446744073709551615 : Int),
      (0 : Int) ≤ IntKind.wrap IntKind.u64 (n - a),
      IntKind.wrap IntKind.u64 (n - a) ≤ (18446744073709551615 : Int),
      (0 : Int) ≤ (0 : Int),
      (0 : Int) ≤ (1 : Int),
      decide (r * t / (18446744073709551616 : Int) > if r * t % (18446744073709551616 : Int) < IntKind.wrap IntKind.u64 (n - a) + (0 : Int) then (1 : Int) else (0 : Int)) = false,
      r = r,
      n = n,
      f = f,
      n = n,
      IntKind.wrap IntKind.u64 (b + List.foldl (fun x y => if y < x then y else x) ((r * t % (18446744073709551616 : Int) - IntKind.wrap IntKind.u64 (n - a) - (0 : Int)) % (18446744073709551616 : Int)) [IntKind.wrap IntKind.u64 (f - b)]) = b + if e < p - d then e else p - d]) (by kernel_rfl) (.cons (by omega) (.cons (by omega) (.cons (by omega) (.cons (by omega) (.cons (by omega) (.cons (by (simp [*]; done)) (.cons (by omega) (.cons (by omega) (.cons (by omega) (.cons (by omega) (.cons (by (simp [*]; done)) (.cons (by rfl) (.cons (by omega) (.cons (by omega) (.cons (by omega) (.cons (by omega) (.cons (by trivial) (.cons (by trivial) (.cons (by (simp [*]; omega)) (.cons (by rfl) (.cons (by rfl) (.cons (by rfl) (.cons (by rfl) (.cons (by (rw [hp]; exact fin_min hb hf.2 he he2 (by rw [hd]; omega) (by omega))) .nil))))))))))))))))))))))))

set_option maxHeartbeats 2000000 in
theorem tick1_top (r n f a b t p d e q : Int) (hr : 0 ≤ r ∧ r ≤ 18446744073709551615) (hn : 0 ≤ n ∧ n ≤ 18446744073709551615) (hf : 0 ≤ f ∧ f ≤ 18446744073709551615) (ha : 0 ≤ a ∧ a ≤ n) (hb : 0 ≤ b ∧ b ≤ f) (ht : 0 ≤ t ∧ t ≤ 18446744073709551615) (hk : ckOne r n f a b = 0) (hp : r * t = p) (h0 : 0 ≤ p) (hd : IntKind.wrap IntKind.u64 (n - a) = d) (hd2 : d = n - a) (he : IntKind.wrap IntKind.u64 (f - b) = e) (he2 : e = f - b) (hq : p / 18446744073709551616 = q) (hq2 : 1 ≤ q) (hlo : (if p % 18446744073709551616 < d then 1 else 0) < q) : PureOk Try.prog 12 ([.nv (oneN r n f a b), uA t]) (.nv (oneN r n f n f)) :=
  pure_run Gm_ok Try.func12 (orc := ⟨[false, false, false, true], []⟩) (obl := [(0 : Int) ≤ r,
      (0 : Int) ≤ n,
      (0 : Int) ≤ f,
      (0 : Int) ≤ a,
      (0 : Int) ≤ b,
      (ckOne r n f a b != (0 : Int)) = false,
      (0 : Int) ≤ r,
      r ≤ (18446744073709551615 : Int),
      (0 : Int) ≤ t,
      t ≤ (18446744073709551615 : Int),
      (r * t / (18446744073709551616 : Int) == (0 : Int)) = false,
      false = false,
      (0 : Int) ≤ r * t % (18446744073709551616 : Int),
      r * t % (18446744073709551616 : Int) ≤ (18446744073709551615 : Int),
      (0 : Int) ≤ IntKind.wrap IntKind.u64 (n - a),
      IntKind.wrap IntKind.u64 (n - a) ≤ (18446744073709551615 : Int),
      (0 : Int) ≤ (0 : Int),
      (0 : Int) ≤ (1 : Int),
      decide (r * t / (18446744073709551616 : Int) > if r * t % (18446744073709551616 : Int) < IntKind.wrap IntKind.u64 (n - a) + (0 : Int) then (1 : Int) else (0 : Int)) = true,
      r = r,
      n = n,
      f = f,
      n = n,
      IntKind.wrap IntKind.u64 (b + List.foldl (fun x y => if y < x then y else x) (18446744073709551615 : Int) [IntKind.wrap IntKind.u64 (f - b)]) = f]) (by kernel_rfl) (.cons (by omega) (.cons (by omega) (.cons (by omega) (.cons (by omega) (.cons (by omega) (.cons (by (simp [*]; done)) (.cons (by omega) (.cons (by omega) (.cons (by omega) (.cons (by omega) (.cons (by (simp [*]; omega)) (.cons (by rfl) (.cons (by omega) (.cons (by omega) (.cons (by omega) (.cons (by omega) (.cons (by trivial) (.cons (by trivial) (.cons (by (simp [*]; omega)) (.cons (by rfl) (.cons (by rfl) (.cons (by rfl) (.cons (by rfl) (.cons (by exact (fin_min hb hf.2 he he2 rfl (by omega)).trans (by split <;> omega)) .nil))))))))))))))))))))))))

set_option maxHeartbeats 2000000 in
theorem tick2_bad (s q n f a b t : Int) (hs : 0 ≤ s ∧ s ≤ 18446744073709551615) (hq : 0 ≤ q ∧ q ≤ 18446744073709551615) (hn : 0 ≤ n ∧ n ≤ 18446744073709551615) (hf : 0 ≤ f ∧ f ≤ 18446744073709551615) (ha : 0 ≤ a ∧ a ≤ 18446744073709551615) (hb : 0 ≤ b ∧ b ≤ 18446744073709551615) (hk : ckTwo s q n f a b ≠ 0) : PureOk Try.prog 13 ([.nv (twoN s q n f a b), uA t]) (.nv (twoN 0 0 0 0 0 0)) :=
  pure_run Gm2_ok Try.func13 (orc := ⟨[true], []⟩) (obl := [(0 : Int) ≤ s,
      (0 : Int) ≤ q,
      (0 : Int) ≤ n,
      (0 : Int) ≤ f,
      (0 : Int) ≤ a,
      (0 : Int) ≤ b,
      (ckTwo s q n f a b != (0 : Int)) = true,
      (0 : Int) = (0 : Int),
      (0 : Int) = (0 : Int),
      (0 : Int) = (0 : Int),
      (0 : Int) = (0 : Int),
      (0 : Int) = (0 : Int),
      (0 : Int) = (0 : Int)]) (by kernel_rfl) (.cons (by omega) (.cons (by omega) (.cons (by omega) (.cons (by omega) (.cons (by omega) (.cons (by omega) (.cons (by exact bne_iff_ne.2 (by omega)) (.cons (by rfl) (.cons (by rfl) (.cons (by rfl) (.cons (by rfl) (.cons (by rfl) (.cons (by rfl) .nil)))))))))))))

set_option maxHeartbeats 2000000 in
theorem tick2_ok (s q n f a b t x y : Int) (hs : 0 ≤ s ∧ s ≤ 18446744073709551615) (hq : 0 ≤ q ∧ q ≤ 18446744073709551615) (hn : 0 ≤ n ∧ n ≤ 18446744073709551615) (hf : 0 ≤ f ∧ f ≤ 18446744073709551615) (ha : 0 ≤ a ∧ a ≤ n) (hb : 0 ≤ b ∧ b ≤ f) (ht : 0 ≤ t ∧ t ≤ 18446744073709551615) (hk : ckTwo s q n f a b = 0) (hx : capU (a + capU (s * t)) = x) (hy : capU (b + capU (q * t)) = y) : PureOk Try.prog 13 ([.nv (twoN s q n f a b), uA t]) (.nv (twoN s q n f (if n < x then n else x) (if f < y then f else y))) :=
  pure_run Gm2_ok Try.func13 (orc := ⟨[false], []⟩) (obl := [(0 : Int) ≤ s,
      (0 : Int) ≤ q,
      (0 : Int) ≤ n,
      (0 : Int) ≤ f,
      (0 : Int) ≤ a,
      (0 : Int) ≤ b,
      (ckTwo s q n f a b != (0 : Int)) = false,
      (0 : Int) ≤ a,
      a ≤ (18446744073709551615 : Int),
      (0 : Int) ≤ s,
      s ≤ (18446744073709551615 : Int),
      (0 : Int) ≤ t,
      t ≤ (18446744073709551615 : Int),
      (0 : Int) ≤ b,
      b ≤ (18446744073709551615 : Int),
      (0 : Int) ≤ q,
      q ≤ (18446744073709551615 : Int),
      (0 : Int) ≤ t,
      t ≤ (18446744073709551615 : Int),
      s = s,
      q = q,
      n = n,
      f = f,
      List.foldl (fun x y => if y < x then y else x) (capU (a + capU (s * t))) [n] = if n < x then n else x,
      List.foldl (fun x y => if y < x then y else x) (capU (b + capU (q * t))) [f] = if f < y then f else y]) (by kernel_rfl) (.cons (by omega) (.cons (by omega) (.cons (by omega) (.cons (by omega) (.cons (by omega) (.cons (by omega) (.cons (by exact bne_eq_false_iff_eq.2 (by omega)) (.cons (by omega) (.cons (by omega) (.cons (by omega) (.cons (by omega) (.cons (by omega) (.cons (by omega) (.cons (by omega) (.cons (by omega) (.cons (by omega) (.cons (by omega) (.cons (by omega) (.cons (by omega) (.cons (by rfl) (.cons (by rfl) (.cons (by rfl) (.cons (by rfl) (.cons (by (subst_vars; rfl)) (.cons (by (subst_vars; rfl)) .nil)))))))))))))))))))))))))

set_option maxHeartbeats 2000000 in
theorem tick1_lo (r n f a b t p d e : Int) (hr : 0 ≤ r ∧ r ≤ 18446744073709551615) (hn : 0 ≤ n ∧ n ≤ 18446744073709551615) (hf : 0 ≤ f ∧ f ≤ 18446744073709551615) (ha : 0 ≤ a ∧ a ≤ n) (hb : 0 ≤ b ∧ b ≤ f) (ht : 0 ≤ t ∧ t ≤ 18446744073709551615) (hk : ckOne r n f a b = 0) (hp : r * t = p) (h0 : 0 ≤ p) (h : n - a < p) (h2 : p ≤ 18446744073709551615) (hd : IntKind.wrap IntKind.u64 (n - a) = d) (hd2 : d = n - a) (he : IntKind.wrap IntKind.u64 (f - b) = e) (he2 : e = f - b) : PureOk Try.prog 12 ([.nv (oneN r n f a b), uA t]) (.nv (oneN r n f n (b + (if e < p - d then e else p - d)))) :=
  pure_run Gm_ok Try.func12 (orc := ⟨[false, true, false, false], []⟩) (obl := [(0 : Int) ≤ r,
      (0 : Int) ≤ n,
      (0 : Int) ≤ f,
      (0 : Int) ≤ a,
      (0 : Int) ≤ b,
      (ckOne r n f a b != (0 : Int)) = false,
      (0 : Int) ≤ r,
      r ≤ (18446744073709551615 : Int),
      (0 : Int) ≤ t,
      t ≤ (18446744073709551615 : Int),
      (r * t / (18446744073709551616 : Int) == (0 : Int)) = true,
      decide (r * t % (18446744073709551616 : Int) ≤ IntKind.wrap IntKind.u64 (n - a)) = false,
      (0 : Int) ≤ r * t % (18446744073709551616 : Int),
      r * t % (18446744073709551616 : Int) ≤ (18446744073709551615 : Int),
      (0 : Int) ≤ IntKind.wrap IntKind.u64 (n - a),
      IntKind.wrap IntKind.u64 (n - a) ≤ (18446744073709551615 : Int),
      (0 : Int) ≤ (0 : Int),
      (0 : Int) ≤ (1 : Int),
      decide (r * t / (18446744073709551616 : Int) > if r * t % (18446744073709551616 : Int) < IntKind.wrap IntKind.u64 (n - a) + (0 : Int) then (1 : Int) else (0 : Int)) = false,
      r = r,
      n = n,
      f = f,
      n = n,
      IntKind.wrap IntKind.u64 (b + List.foldl (fun x y => if y < x then y else x) ((r * t % (18446744073709551616 : Int) - IntKind.wrap IntKind.u64 (n - a) - (0 : Int)) % (18446744073709551616 : Int)) [IntKind.wrap IntKind.u64 (f - b)]) = b + if e < p - d then e else p - d]) (by kernel_rfl) (.cons (by omega) (.cons (by omega) (.cons (by omega) (.cons (by omega) (.cons (by omega) (.cons (by exact bne_eq_false_iff_eq.2 (by omega)) (.cons (by omega) (.cons (by omega) (.cons (by omega) (.cons (by omega) (.cons (by exact decide_eq_true (by omega)) (.cons (by exact decide_eq_false (by omega)) (.cons (by omega) (.cons (by omega) (.cons (by omega) (.cons (by omega) (.cons (by trivial) (.cons (by trivial) (.cons (by exact decide_eq_false (by omega)) (.cons (by rfl) (.cons (by rfl) (.cons (by rfl) (.cons (by rfl) (.cons (by (rw [hp]; exact fin_min hb hf.2 he he2 (by rw [hd]; omega) (by omega))) .nil))))))))))))))))))))))))
end Go.Proofs.Ytlmeemilikladaa

/- Ticks of meters, for the symbolic run. No condition. -/
namespace Go.Proofs.Ytlmeemilikladaa
set_option linter.unusedVariables false
set_option linter.unusedSimpArgs false
open Go.RowKit E

def ifm (k x : Int) : Int := if k = 0 then x else 0
theorem ck1_iff {r n f a b : Int} : ckOne r n f a b = 0 ↔ r ≠ 0 ∧ ¬ (n = 0 ∧ f = 0) ∧ a ≤ n ∧ b ≤ f := by
  unfold ckOne; (repeat' split) <;> constructor <;> intro h <;> omega
theorem ck2_iff {s q n f a b : Int} : ckTwo s q n f a b = 0 ↔ s ≠ 0 ∧ s ≤ q ∧ n ≠ 0 ∧ f ≠ 0 ∧ a ≤ n ∧ b ≤ f := by
  unfold ckTwo; (repeat' split) <;> constructor <;> intro h <;> omega
theorem upTo_bd {a n c : Int} (ha : 0 ≤ a) (hc : 0 ≤ c) (h : a ≤ n) : a ≤ upTo a n c ∧ upTo a n c ≤ n := by unfold upTo; split <;> omega
theorem over_nn {a n c : Int} : 0 ≤ over a n c := by unfold over; split <;> omega

def gTick1 : List SV → Option (SV × List Prop)
  | [.nv (.agg [.val (.int .u64 r), .val (.int .u64 n), .val (.int .u64 f), .val (.int .u64 a), .val (.int .u64 b)]), .nv (.one (.val (.int .u64 t)))] =>
    some (.nv (oneN (ifm (ckOne r n f a b) r) (ifm (ckOne r n f a b) n) (ifm (ckOne r n f a b) f) (ifm (ckOne r n f a b) (upTo a n (r * t))) (ifm (ckOne r n f a b) (upTo b f (over a n (r * t))))),
      [0 ≤ r, r ≤ 18446744073709551615, 0 ≤ n, n ≤ 18446744073709551615, 0 ≤ f, f ≤ 18446744073709551615, 0 ≤ a, a ≤ 18446744073709551615, 0 ≤ b, b ≤ 18446744073709551615, 0 ≤ t, t ≤ 18446744073709551615])
  | _ => none
def gTick2 : List SV → Option (SV × List Prop)
  | [.nv (.agg [.val (.int .u64 s), .val (.int .u64 q), .val (.int .u64 n), .val (.int .u64 f), .val (.int .u64 a), .val (.int .u64 b)]), .nv (.one (.val (.int .u64 t)))] =>
    some (.nv (twoN (ifm (ckTwo s q n f a b) s) (ifm (ckTwo s q n f a b) q) (ifm (ckTwo s q n f a b) n) (ifm (ckTwo s q n f a b) f) (ifm (ckTwo s q n f a b) (upTo a n (s * t))) (ifm (ckTwo s q n f a b) (upTo b f (q * t)))),
      [0 ≤ s, s ≤ 18446744073709551615, 0 ≤ q, q ≤ 18446744073709551615, 0 ≤ n, n ≤ 18446744073709551615, 0 ≤ f, f ≤ 18446744073709551615, 0 ≤ a, a ≤ 18446744073709551615, 0 ≤ b, b ≤ 18446744073709551615, 0 ≤ t, t ≤ 18446744073709551615])
  | _ => none
theorem wsub {n a : Int} (h : 0 ≤ a ∧ a ≤ n) (hn : n ≤ 18446744073709551615) : IntKind.wrap IntKind.u64 (n - a) = n - a := wU64 rfl (by omega)
theorem tick1_pure (r n f a b t : Int) (hr : 0 ≤ r ∧ r ≤ 18446744073709551615) (hn : 0 ≤ n ∧ n ≤ 18446744073709551615) (hf : 0 ≤ f ∧ f ≤ 18446744073709551615) (ha : 0 ≤ a ∧ a ≤ 18446744073709551615) (hb : 0 ≤ b ∧ b ≤ 18446744073709551615) (ht : 0 ≤ t ∧ t ≤ 18446744073709551615) :
    PureOk Try.prog 12 [.nv (oneN r n f a b), uA t] (.nv (oneN (ifm (ckOne r n f a b) r) (ifm (ckOne r n f a b) n) (ifm (ckOne r n f a b) f) (ifm (ckOne r n f a b) (upTo a n (r * t))) (ifm (ckOne r n f a b) (upTo b f (over a n (r * t)))))) := by
  by_cases hk : ckOne r n f a b = 0
  · simp only [hk, ifm, if_true]
    obtain ⟨k1, k2, k3, k4⟩ := ck1_iff.1 hk
    have p0 : 0 ≤ r * t := Int.mul_nonneg hr.1 ht.1
    generalize hp : r * t = p at p0
    have hd := wsub ⟨ha.1, k3⟩ hn.2
    have he := wsub ⟨hb.1, k4⟩ hf.2
    by_cases c1 : p ≤ n - a
    · have e1 : upTo a n p = a + p := by unfold upTo; rw [if_pos (by omega)]
      have e2 : upTo b f (over a n p) = b := by unfold upTo over; rw [if_pos (show a + p ≤ n by omega), if_pos (by omega)]; omega
      rw [e1, e2]
      exact tick1_in r n f a b t p hr hn hf ⟨ha.1, k3⟩ ⟨hb.1, k4⟩ ht hk hp p0 c1
    · have e1 : upTo a n p = n := by unfold upTo; split <;> omega
      have e2 : upTo b f (over a n p) = b + (if f - b < p - (n - a) then f - b else p - (n - a)) := by unfold upTo over; rw [if_neg (show ¬ a + p ≤ n by omega)]; split <;> split <;> omega
      rw [e1, e2]
      by_cases c2 : p ≤ 18446744073709551615
      · exact tick1_lo r n f a b t p _ _ hr hn hf ⟨ha.1, k3⟩ ⟨hb.1, k4⟩ ht hk hp p0 (by omega) c2 hd rfl he rfl
      · by_cases c3 : p - (n - a) ≤ 18446744073709551615
        · exact tick1_hi r n f a b t p _ _ hr hn hf ⟨ha.1, k3⟩ ⟨hb.1, k4⟩ ht hk hp p0 (by omega) c3 hd rfl he rfl (by omega) (by omega) (by omega)
        · have e3 : b + (if f - b < p - (n - a) then f - b else p - (n - a)) = f := by split <;> omega
          rw [e3]
          exact tick1_top r n f a b t p _ _ _ hr hn hf ⟨ha.1, k3⟩ ⟨hb.1, k4⟩ ht hk hp p0 hd rfl he rfl rfl (by omega) (by split <;> omega)
  · simp only [ifm, if_neg hk]
    exact tick1_bad r n f a b t hr hn hf ha hb hk
theorem cap_up {a n c : Int} (ha : 0 ≤ a ∧ a ≤ n) (hn : n ≤ 18446744073709551615) (hc : 0 ≤ c) : (if n < capU (a + capU c) then n else capU (a + capU c)) = upTo a n c := by
  unfold capU upTo; (repeat' split) <;> omega
theorem tick2_pure (s q n f a b t : Int) (hs : 0 ≤ s ∧ s ≤ 18446744073709551615) (hq : 0 ≤ q ∧ q ≤ 18446744073709551615) (hn : 0 ≤ n ∧ n ≤ 18446744073709551615) (hf : 0 ≤ f ∧ f ≤ 18446744073709551615) (ha : 0 ≤ a ∧ a ≤ 18446744073709551615) (hb : 0 ≤ b ∧ b ≤ 18446744073709551615) (ht : 0 ≤ t ∧ t ≤ 18446744073709551615) :
    PureOk Try.prog 13 [.nv (twoN s q n f a b), uA t] (.nv (twoN (ifm (ckTwo s q n f a b) s) (ifm (ckTwo s q n f a b) q) (ifm (ckTwo s q n f a b) n) (ifm (ckTwo s q n f a b) f) (ifm (ckTwo s q n f a b) (upTo a n (s * t))) (ifm (ckTwo s q n f a b) (upTo b f (q * t))))) := by
  by_cases hk : ckTwo s q n f a b = 0
  · simp only [hk, ifm, if_true]
    obtain ⟨k1, k2, k3, k4, k5, k6⟩ := ck2_iff.1 hk
    rw [← cap_up ⟨ha.1, k5⟩ hn.2 (Int.mul_nonneg hs.1 ht.1), ← cap_up ⟨hb.1, k6⟩ hf.2 (Int.mul_nonneg hq.1 ht.1)]
    exact tick2_ok s q n f a b t _ _ hs hq hn hf ⟨ha.1, k5⟩ ⟨hb.1, k6⟩ ht hk rfl rfl
  · simp only [ifm, if_neg hk]
    exact tick2_bad s q n f a b t hs hq hn hf ha hb hk
theorem spTick1 : SpOk Try.prog 12 (pureS gTick1) := pureS_ok (by
  intro args r obl h ho
  unfold gTick1 at h
  split at h
  · simp only [Option.some.injEq, Prod.mk.injEq] at h
    obtain ⟨rfl, rfl⟩ := h
    simp only [AllT, and_true] at ho
    obtain ⟨h1, h2, h3, h4, h5, h6, h7, h8, h9, h10, h11⟩ := ho
    exact ⟨rfl, rfl, tick1_pure _ _ _ _ _ _ ⟨h1, h2⟩ ⟨h3, h4⟩ ⟨h5, h6⟩ ⟨h7, h8⟩ ⟨h9, h10⟩ h11⟩
  · cases h)
theorem spTick2 : SpOk Try.prog 13 (pureS gTick2) := pureS_ok (by
  intro args r obl h ho
  unfold gTick2 at h
  split at h
  · simp only [Option.some.injEq, Prod.mk.injEq] at h
    obtain ⟨rfl, rfl⟩ := h
    simp only [AllT, and_true] at ho
    obtain ⟨h1, h2, h3, h4, h5, h6, h7, h8, h9, h10, h11, h12, h13⟩ := ho
    exact ⟨rfl, rfl, tick2_pure _ _ _ _ _ _ _ ⟨h1, h2⟩ ⟨h3, h4⟩ ⟨h5, h6⟩ ⟨h7, h8⟩ ⟨h9, h10⟩ ⟨h11, h12⟩ h13⟩
  · cases h)
def gLives : List SV → Option (SV × List Prop)
  | [] => some (bA true, [])
  | _ => none
theorem spLives : SpOk Try.prog 11 (pureS gLives) := pureS_ok (by
  intro args r obl h ho
  unfold gLives at h
  split at h
  · simp only [Option.some.injEq, Prod.mk.injEq] at h
    obtain ⟨rfl, rfl⟩ := h
    exact ⟨rfl, rfl, pure_of_calls lives_any (vals_eq rfl rfl) rfl⟩
  · cases h)
def Gt : List (FuncId × Sp) := (12, pureS gTick1) :: (13, pureS gTick2) :: (11, pureS gLives) :: Gm2
theorem Gt_ok : CtxOk Try.prog Gt := ctx_cons (enter_of Try.func12 (by kernel_rfl) (by kernel_rfl)) spTick1 <| ctx_cons (enter_of Try.func13 (by kernel_rfl) (by kernel_rfl)) spTick2 <|
  ctx_cons (enter_of Try.func11 (by kernel_rfl) (by kernel_rfl)) spLives Gm2_ok
end Go.Proofs.Ytlmeemilikladaa

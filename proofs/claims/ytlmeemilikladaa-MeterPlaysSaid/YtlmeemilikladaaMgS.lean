/- Ticks of meters, for the symbolic run. No condition. -/
import Derived.Test.YtlmeemilikladaaMgB
namespace Go.Proofs.Ytlmeemilikladaa
set_option linter.unusedVariables false
set_option linter.unusedSimpArgs false
open Go.RowKit E

def ifm (k x : Int) : Int := if k = 0 then x else 0
theorem ck1_iff {r n f a b : Int} : ckOne r n f a b = 0 ↔ r ≠ 0 ∧ ¬ (n = 0 ∧ f = 0) ∧ a ≤ n ∧ b ≤ f := by
  unfold ckOne; (repeat' split) <;> constructor <;> intro h <;> omega
theorem ck2_iff {s q n f a b : Int} : ckTwo s q n f a b = 0 ↔ s ≠ 0 ∧ s ≤ q ∧ n ≠ 0 ∧ f ≠ 0 ∧ a ≤ n ∧ b ≤ f := by
  unfold ckTwo; (repeat' split) <;> constructor <;> intro h <;> omega
theorem upTo_bd {a n c : Int} (ha : 0 ≤ a) (hc : 0 ≤ c) (h : a ≤ n) : a ≤ upTo a n c ∧ upTo a n c ≤ n := by unfold upTo; split <;> omega
theorem over_nn {a n c : Int} : 0 ≤ over a n c := by unfold over; split <;> omega

def gTick1 : List SV → Option (SV × List Prop)
  | [.nv (.agg [.val (.int .u64 r), .val (.int .u64 n), .val (.int .u64 f), .val (.int .u64 a), .val (.int .u64 b)]), .nv (.one (.val (.int .u64 t)))] =>
    some (.nv (oneN (ifm (ckOne r n f a b) r) (ifm (ckOne r n f a b) n) (ifm (ckOne r n f a b) f) (ifm (ckOne r n f a b) (upTo a n (r * t))) (ifm (ckOne r n f a b) (upTo b f (over a n (r * t))))),
      [0 ≤ r, r ≤ 18446744073709551615, 0 ≤ n, n ≤ 18446744073709551615, 0 ≤ f, f ≤ 18446744073709551615, 0 ≤ a, a ≤ 18446744073709551615, 0 ≤ b, b ≤ 18446744073709551615, 0 ≤ t, t ≤ 18446744073709551615])
  | _ => none
def gTick2 : List SV → Option (SV × List Prop)
  | [.nv (.agg [.val (.int .u64 s), .val (.int .u64 q), .val (.int .u64 n), .val (.int .u64 f), .val (.int .u64 a), .val (.int .u64 b)]), .nv (.one (.val (.int .u64 t)))] =>
    some (.nv (twoN (ifm (ckTwo s q n f a b) s) (ifm (ckTwo s q n f a b) q) (ifm (ckTwo s q n f a b) n) (ifm (ckTwo s q n f a b) f) (ifm (ckTwo s q n f a b) (upTo a n (s * t))) (ifm (ckTwo s q n f a b) (upTo b f (q * t)))),
      [0 ≤ s, s ≤ 18446744073709551615, 0 ≤ q, q ≤ 18446744073709551615, 0 ≤ n, n ≤ 18446744073709551615, 0 ≤ f, f ≤ 18446744073709551615, 0 ≤ a, a ≤ 18446744073709551615, 0 ≤ b, b ≤ 18446744073709551615, 0 ≤ t, t ≤ 18446744073709551615])
  | _ => none
theorem wsub {n a : Int} (h : 0 ≤ a ∧ a ≤ n) (hn : n ≤ 18446744073709551615) : IntKind.wrap IntKind.u64 (n - a) = n - a := wU64 rfl (by omega)
theorem tick1_pure (r n f a b t : Int) (hr : 0 ≤ r ∧ r ≤ 18446744073709551615) (hn : 0 ≤ n ∧ n ≤ 18446744073709551615) (hf : 0 ≤ f ∧ f ≤ 18446744073709551615) (ha : 0 ≤ a ∧ a ≤ 18446744073709551615) (hb : 0 ≤ b ∧ b ≤ 18446744073709551615) (ht : 0 ≤ t ∧ t ≤ 18446744073709551615) :
    PureOk Try.prog 12 [.nv (oneN r n f a b), uA t] (.nv (oneN (ifm (ckOne r n f a b) r) (ifm (ckOne r n f a b) n) (ifm (ckOne r n f a b) f) (ifm (ckOne r n f a b) (upTo a n (r * t))) (ifm (ckOne r n f a b) (upTo b f (over a n (r * t)))))) := by
  by_cases hk : ckOne r n f a b = 0
  · simp only [hk, ifm, if_true]
    obtain ⟨k1, k2, k3, k4⟩ := ck1_iff.1 hk
    have p0 : 0 ≤ r * t := Int.mul_nonneg hr.1 ht.1
    generalize hp : r * t = p at p0
    have hd := wsub ⟨ha.1, k3⟩ hn.2
    have he := wsub ⟨hb.1, k4⟩ hf.2
    by_cases c1 : p ≤ n - a
    · have e1 : upTo a n p = a + p := by unfold upTo; rw [if_pos (by omega)]
      have e2 : upTo b f (over a n p) = b := by unfold upTo over; rw [if_pos (show a + p ≤ n by omega), if_pos (by omega)]; omega
      rw [e1, e2]
      exact tick1_in r n f a b t p hr hn hf ⟨ha.1, k3⟩ ⟨hb.1, k4⟩ ht hk hp p0 c1
    · have e1 : upTo a n p = n := by unfold upTo; split <;> omega
      have e2 : upTo b f (over a n p) = b + (if f - b < p - (n - a) then f - b else p - (n - a)) := by unfold upTo over; rw [if_neg (show ¬ a + p ≤ n by omega)]; split <;> split <;> omega
      rw [e1, e2]
      by_cases c2 : p ≤ 18446744073709551615
      · exact tick1_lo r n f a b t p _ _ hr hn hf ⟨ha.1, k3⟩ ⟨hb.1, k4⟩ ht hk hp p0 (by omega) c2 hd rfl he rfl
      · by_cases c3 : p - (n - a) ≤ 18446744073709551615
        · exact tick1_hi r n f a b t p _ _ hr hn hf ⟨ha.1, k3⟩ ⟨hb.1, k4⟩ ht hk hp p0 (by omega) c3 hd rfl he rfl (by omega) (by omega) (by omega)
        · have e3 : b + (if f - b < p - (n - a) then f - b else p - (n - a)) = f := by split <;> omega
          rw [e3]
          exact tick1_top r n f a b t p _ _ _ hr hn hf ⟨ha.1, k3⟩ ⟨hb.1, k4⟩ ht hk hp p0 hd rfl he rfl rfl (by omega) (by split <;> omega)
  · simp only [ifm, if_neg hk]
    exact tick1_bad r n f a b t hr hn hf ha hb hk
theorem cap_up {a n c : Int} (ha : 0 ≤ a ∧ a ≤ n) (hn : n ≤ 18446744073709551615) (hc : 0 ≤ c) : (if n < capU (a + capU c) then n else capU (a + capU c)) = upTo a n c := by
  unfold capU upTo; (repeat' split) <;> omega
theorem tick2_pure (s q n f a b t : Int) (hs : 0 ≤ s ∧ s ≤ 18446744073709551615) (hq : 0 ≤ q ∧ q ≤ 18446744073709551615) (hn : 0 ≤ n ∧ n ≤ 18446744073709551615) (hf : 0 ≤ f ∧ f ≤ 18446744073709551615) (ha : 0 ≤ a ∧ a ≤ 18446744073709551615) (hb : 0 ≤ b ∧ b ≤ 18446744073709551615) (ht : 0 ≤ t ∧ t ≤ 18446744073709551615) :
    PureOk Try.prog 13 [.nv (twoN s q n f a b), uA t] (.nv (twoN (ifm (ckTwo s q n f a b) s) (ifm (ckTwo s q n f a b) q) (ifm (ckTwo s q n f a b) n) (ifm (ckTwo s q n f a b) f) (ifm (ckTwo s q n f a b) (upTo a n (s * t))) (ifm (ckTwo s q n f a b) (upTo b f (q * t))))) := by
  by_cases hk : ckTwo s q n f a b = 0
  · simp only [hk, ifm, if_true]
    obtain ⟨k1, k2, k3, k4, k5, k6⟩ := ck2_iff.1 hk
    rw [← cap_up ⟨ha.1, k5⟩ hn.2 (Int.mul_nonneg hs.1 ht.1), ← cap_up ⟨hb.1, k6⟩ hf.2 (Int.mul_nonneg hq.1 ht.1)]
    exact tick2_ok s q n f a b t _ _ hs hq hn hf ⟨ha.1, k5⟩ ⟨hb.1, k6⟩ ht hk rfl rfl
  · simp only [ifm, if_neg hk]
    exact tick2_bad s q n f a b t hs hq hn hf ha hb hk
theorem spTick1 : SpOk Try.prog 12 (pureS gTick1) := pureS_ok (by
  intro args r obl h ho
  unfold gTick1 at h
  split at h
  · simp only [Option.some.injEq, Prod.mk.injEq] at h
    obtain ⟨rfl, rfl⟩ := h
    simp only [AllT, and_true] at ho
    obtain ⟨h1, h2, h3, h4, h5, h6, h7, h8, h9, h10, h11⟩ := ho
    exact ⟨rfl, rfl, tick1_pure _ _ _ _ _ _ ⟨h1, h2⟩ ⟨h3, h4⟩ ⟨h5, h6⟩ ⟨h7, h8⟩ ⟨h9, h10⟩ h11⟩
  · cases h)
theorem spTick2 : SpOk Try.prog 13 (pureS gTick2) := pureS_ok (by
  intro args r obl h ho
  unfold gTick2 at h
  split at h
  · simp only [Option.some.injEq, Prod.mk.injEq] at h
    obtain ⟨rfl, rfl⟩ := h
    simp only [AllT, and_true] at ho
    obtain ⟨h1, h2, h3, h4, h5, h6, h7, h8, h9, h10, h11, h12, h13⟩ := ho
    exact ⟨rfl, rfl, tick2_pure _ _ _ _ _ _ _ ⟨h1, h2⟩ ⟨h3, h4⟩ ⟨h5, h6⟩ ⟨h7, h8⟩ ⟨h9, h10⟩ ⟨h11, h12⟩ h13⟩
  · cases h)
def gLives : List SV → Option (SV × List Prop)
  | [] => some (bA true, [])
  | _ => none
theorem spLives : SpOk Try.prog 11 (pureS gLives) := pureS_ok (by
  intro args r obl h ho
  unfold gLives at h
  split at h
  · simp only [Option.some.injEq, Prod.mk.injEq] at h
    obtain ⟨rfl, rfl⟩ := h
    exact ⟨rfl, rfl, pure_of_calls lives_any (vals_eq rfl rfl) rfl⟩
  · cases h)
def Gt : List (FuncId × Sp) := (12, pureS gTick1) :: (13, pureS gTick2) :: (11, pureS gLives) :: Gm2
theorem Gt_ok : CtxOk Try.prog Gt := ctx_cons (enter_of Try.func12 (by kernel_rfl) (by kernel_rfl)) spTick1 <| ctx_cons (enter_of Try.func13 (by kernel_rfl) (by kernel_rfl)) spTick2 <|
  ctx_cons (enter_of Try.func11 (by kernel_rfl) (by kernel_rfl)) spLives Gm2_ok
end Go.Proofs.Ytlmeemilikladaa

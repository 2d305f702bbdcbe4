/- invert: the merge's loop; the context of its recursion. No condition. -/
import Derived.Test.YtffkakkijifoaaaIvB
namespace Go.Proofs.Ytffkakkijifoaaa
set_option linter.unusedVariables false
set_option linter.unusedSimpArgs false
open Go.RowKit E
abbrev mgS (N n x : Nat) (L R : Nat → Int) (xa la xb lb i : Nat) (p d : Nat → Int) : St := mkSt 102 [(0, .nv (.one (.own 0))), (1, .nv (.one (.sub 1 1 x n))), (3, .nv (.one (.own 3))), (9, .nv (.one (.sub 2 1 xa la))), (10, .nv (.one (.sub 2 1 xb lb))), (48, iA n), (49, iA i)] [.ro 1 N (gU L), .row 3 1 N (gI p), .row 3 1 N (gI R), .row 3 1 N (gI d)]
abbrev mgX (N : Nat) (L R p d : Nat → Int) : St := mkSt 102 [] [.ro 1 N (gU L), .row 3 1 N (gI p), .row 3 1 N (gI R), .row 3 1 N (gI d)]
theorem mgs_inv (L R : Nat → Int) (x h n : Nat) (p d : Nat → Int) (hh : h ≤ n) : ∀ i, i ≤ n → (mgs L R x h n p d i).a ≤ i ∧ (mgs L R x h n p d i).a ≤ h ∧ i - (mgs L R x h n p d i).a ≤ n - h
  | 0, _ => by simp [mgs]
  | i + 1, hi => by
    obtain ⟨h1, h2, h3⟩ := mgs_inv L R x h n p d hh i (by omega)
    simp only [mgs]
    split
    · rename_i ht
      simp only [tkA, Bool.or_eq_true, Bool.and_eq_true, decide_eq_true_eq] at ht
      simp only
      omega
    · rename_i ht
      simp only [tkA, Bool.or_eq_true, Bool.and_eq_true, decide_eq_true_eq, not_or, not_and] at ht
      simp only
      omega
def mgI (N n x h : Nat) (L R p d : Nat → Int) (i : Nat) : St := mgS N n x L R (x + (mgs L R x h n p d i).a) (h - (mgs L R x h n p d i).a) (x + h + (i - (mgs L R x h n p d i).a)) (n - h - (i - (mgs L R x h n p d i).a)) i (mgs L R x h n p d i).p (mgs L R x h n p d i).d
theorem mg_round (N n x h : Nat) (L R p d : Nat → Int) (hN : N ≤ 1000000) (hx : x + n ≤ N) (hh : h ≤ n) (hR : ∀ k, x ≤ k → k < x + n → 0 ≤ R k ∧ R k < N) (i : Nat) (hi : i < n) :
    CodeOk Try.prog 4 (loopOf Try.f19 0) (mgI N n x h L R p d i) .normal (mgI N n x h L R p d (i + 1)) := by
  obtain ⟨h1, h2, h3⟩ := mgs_inv L R x h n p d hh i (by omega)
  unfold mgI
  simp only [mgs]
  generalize mgs L R x h n p d i = s at *
  obtain ⟨a, p, d⟩ := s
  simp only at *
  by_cases hb : n - h ≤ i - a
  · have ht : tkA L R x h n i a = true := by simp [tkA, hb]
    rw [if_pos ht]
    obtain ⟨la, hla⟩ : ∃ la, h - a = la + 1 := ⟨h - a - 1, by omega⟩
    rw [hla, show n - h - (i - a) = 0 by omega]
    simp only
    rw [show h - (a + 1) = la by omega, show i + 1 - (a + 1) = i - a by omega, show n - h - (i - a) = 0 by omega]
    exact mg_a0 N n x (x + a) la (x + h + (i - a)) 0 i L R p d hN hx hi (by omega)
  · obtain ⟨lb, hlb⟩ : ∃ lb, n - h - (i - a) = lb + 1 := ⟨n - h - (i - a) - 1, by omega⟩
    have rb := hR (x + h + (i - a)) (by omega) (by omega)
    by_cases ha : a < h
    · obtain ⟨la, hla⟩ : ∃ la, h - a = la + 1 := ⟨h - a - 1, by omega⟩
      have ra := hR (x + a) (by omega) (by omega)
      by_cases hle : L (R (x + a)).toNat ≤ L (R (x + h + (i - a))).toNat
      · have ht : tkA L R x h n i a = true := by simp [tkA, hb, ha, hle]
        rw [if_pos ht, hla, hlb]
        simp only
        rw [show h - (a + 1) = la by omega, show i + 1 - (a + 1) = i - a by omega, hlb]
        exact mg_a N n x (x + a) la (x + h + (i - a)) lb i L R p d hN hx hi (by omega) (by omega) ra.1 ra.2 rb.1 rb.2 hle
      · have ht : ¬ tkA L R x h n i a = true := by simp [tkA, hb, hle]
        rw [if_neg ht, hla, hlb]
        simp only
        rw [show x + h + (i + 1 - a) = x + h + (i - a) + 1 by omega, show n - h - (i + 1 - a) = lb by omega]
        exact mg_b N n x (x + a) la (x + h + (i - a)) lb i L R p d hN hx hi (by omega) (by omega) ra.1 ra.2 rb.1 rb.2 hle
    · have ht : ¬ tkA L R x h n i a = true := by simp [tkA, ha]; omega
      rw [if_neg ht, show h - a = 0 by omega, hlb]
      simp only
      rw [show x + h + (i + 1 - a) = x + h + (i - a) + 1 by omega, show n - h - (i + 1 - a) = lb by omega]
      exact mg_b0 N n x (x + a) 0 (x + h + (i - a)) lb i L R p d hN hx hi (by omega) rb.1 rb.2
theorem mg_loop (N n x h : Nat) (L R p d p' d' : Nat → Int) (hN : N ≤ 1000000) (hx : x + n ≤ N) (hh : h ≤ n) (hR : ∀ k, x ≤ k → k < x + n → 0 ≤ R k ∧ R k < N) (hm : mgs L R x h n p d n = ⟨(mgs L R x h n p d n).a, p', d'⟩) :
    CodeOk Try.prog 4 (.loop (loopOf Try.f19 0)) (mgS N n x L R x h (x + h) (n - h) 0 p d) (.exit 0) (mgX N L R p' d') := by
  refine loop_ok (α := Nat) (fun i => mgI N n x h L R p d i) (fun i => i ≤ n) (fun i => n - i) (by simp) ?_ (x := 0) (Nat.zero_le _)
  intro i hi
  by_cases q : i < n
  · exact .inl ⟨i + 1, (by show i + 1 ≤ n; omega), (by show n - (i + 1) < n - i; omega), mg_round N n x h L R p d hN hx hh hR i q⟩
  · have e : i = n := Nat.le_antisymm hi (by omega)
    subst e
    refine .inr ?_
    have e1 : (mgs L R x h i p d i).p = p' := by rw [hm]
    have e2 : (mgs L R x h i p d i).d = d' := by rw [hm]
    unfold mgI
    rw [e1, e2]
    exact mg_e N i x _ _ _ _ L R p' d' hN
def cF (g : Nat → List At) : Nat → Int := fun j => cellN (g j)
theorem cF_gI (F : Nat → Int) : cF (gI F) = F := rfl
theorem cF_gU (F : Nat → Int) : cF (gU F) = F := rfl
theorem ms_eta (s : Ms) : (⟨s.p, s.r, s.d⟩ : Ms) = s := rfl
theorem ovr_g {p r : Nat → Int} {x n j : Nat} : (if x ≤ j ∧ j < x + Nat.min n n then gI p (x + (j - x)) else gI r j) = gI (ovr p r x n) j := by
  rw [show Nat.min n n = n from Nat.min_self n]
  by_cases q : x ≤ j ∧ j < x + n
  · rw [if_pos q, show x + (j - x) = j by omega]
    simp only [ovr, gI, if_pos q]
  · rw [if_neg q]
    simp only [ovr, gI, if_neg q]
def gMrg (N : Nat) : List SV → List Seg → Option (CS × List Prop)
  | [.nv (.one (.own a)), .nv (.one (.sub b 1 x n)), .nv (.one (.sub c 1 _ _)), .nv (.one (.own e))], mem => match srcOf mem 1 (.own a), srcOf mem 1 (.own b), srcOf mem 1 (.own c), srcOf mem 1 (.own e) with
    | some (M, gL, _), some (_, gP, _), some (_, gR, _), some (_, gD, _) => some (⟨[.nv (.one (.own 0)), .nv (.one (.sub 1 1 x n)), .nv (.one (.sub 2 1 x n)), .nv (.one (.own 3))], [.ro 1 M (gU (cF gL)), .row 3 1 M (gI (cF gP)), .row 3 1 M (gI (cF gR)), .row 3 1 M (gI (cF gD))], .any,
        [.gone, .row 3 1 M (gI (mrg (cF gL) N x n ⟨cF gP, cF gR, cF gD⟩).p), .row 3 1 M (gI (mrg (cF gL) N x n ⟨cF gP, cF gR, cF gD⟩).r), .row 3 1 M (gI (mrg (cF gL) N x n ⟨cF gP, cF gR, cF gD⟩).d)]⟩, [n ≤ N, x + n ≤ M, M ≤ 1000000, inN M (cF gP)])
    | _, _, _, _ => none
  | _, _ => none
def Gmr (N : Nat) : List (FuncId × Sp) := (19, .lift (gMrg N)) :: G0
theorem Gmr_ok (N : Nat) (ih : SpOk Try.prog 19 (.lift (gMrg N))) : CtxOk Try.prog (Gmr N) := ctx_cons (enter_of Try.func19 (by kernel_rfl) (by kernel_rfl)) ih G0_ok
end Go.Proofs.Ytffkakkijifoaaa

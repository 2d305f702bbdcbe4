/- invert: merge as a specification. No condition. -/
import Derived.Test.YtffkakkijifoaaaIvD
namespace Go.Proofs.Ytffkakkijifoaaa
set_option linter.unusedVariables false
set_option linter.unusedSimpArgs false
open Go.RowKit E
theorem mgs_inN {M : Nat} {L R : Nat → Int} {x h n : Nat} {p d : Nat → Int} (hh : h ≤ n) (hx : x + n ≤ M) (hR : ∀ k, x ≤ k → k < x + n → 0 ≤ R k ∧ R k < M) (hp : inN M p) : ∀ i, i ≤ n → inN M (mgs L R x h n p d i).p
  | 0, _ => hp
  | i + 1, hi => by
    have ih := mgs_inN hh hx hR hp (L := L) (d := d) i (by omega)
    obtain ⟨h1, h2, h3⟩ := mgs_inv L R x h n p d hh i (by omega)
    have h4 := (mgs_inv L R x h n p d hh (i + 1) hi)
    simp only [mgs] at h4 ⊢
    generalize mgs L R x h n p d i = s at *
    split
    · rename_i ht
      rw [if_pos ht] at h4
      simp only at h4
      intro k hk
      simp only [putF]
      split
      · exact hR _ (by omega) (by omega)
      · exact ih k hk
    · rename_i ht
      rw [if_neg ht] at h4
      simp only at h4
      intro k hk
      simp only [putF]
      split
      · exact hR _ (by omega) (by omega)
      · exact ih k hk
theorem mrg_inN {M : Nat} {L : Nat → Int} : ∀ (K x n : Nat) (s : Ms), x + n ≤ M → inN M s.p → inN M (mrg L K x n s).p
  | 0, x, n, s, hx, hp => hp
  | K + 1, x, n, s, hx, hp => by
    unfold mrg
    split
    · exact hp
    · have i1 := mrg_inN (L := L) K x (n / 2) s (by omega) hp
      have i2 := mrg_inN (L := L) K (x + n / 2) (n - n / 2) _ (by omega) i1
      refine mgs_inN (by omega) hx (fun k h1 h2 => ?_) i2 n (Nat.le_refl _)
      simp only [ovr]
      rw [if_pos ⟨h1, h2⟩]
      exact i2 k (by omega)
theorem mrg_big (L : Nat → Int) (K x n : Nat) (s : Ms) (q : ¬ n < 2) : mrg L (K + 1) x n s =
    ⟨(mgs L (ovr (mrg L K (x + n / 2) (n - n / 2) (mrg L K x (n / 2) s)).p (mrg L K (x + n / 2) (n - n / 2) (mrg L K x (n / 2) s)).r x n) x (n / 2) n (mrg L K (x + n / 2) (n - n / 2) (mrg L K x (n / 2) s)).p (mrg L K (x + n / 2) (n - n / 2) (mrg L K x (n / 2) s)).d n).p,
     ovr (mrg L K (x + n / 2) (n - n / 2) (mrg L K x (n / 2) s)).p (mrg L K (x + n / 2) (n - n / 2) (mrg L K x (n / 2) s)).r x n,
     (mgs L (ovr (mrg L K (x + n / 2) (n - n / 2) (mrg L K x (n / 2) s)).p (mrg L K (x + n / 2) (n - n / 2) (mrg L K x (n / 2) s)).r x n) x (n / 2) n (mrg L K (x + n / 2) (n - n / 2) (mrg L K x (n / 2) s)).p (mrg L K (x + n / 2) (n - n / 2) (mrg L K x (n / 2) s)).d n).d⟩ := by
  show (if n < 2 then s else _) = _
  rw [if_neg q]
/-- What merge does of K places at most. -/
def MrgOk (K : Nat) : Prop := ∀ (M x n : Nat) (L P R D : Nat → Int), n ≤ K → x + n ≤ M → M ≤ 1000000 → inN M P →
  FnOk Try.prog 19 [.nv (.one (.own 0)), .nv (.one (.sub 1 1 x n)), .nv (.one (.sub 2 1 x n)), .nv (.one (.own 3))] [.ro 1 M (gU L), .row 3 1 M (gI P), .row 3 1 M (gI R), .row 3 1 M (gI D)] .any
    [.gone, .row 3 1 M (gI (mrg L K x n ⟨P, R, D⟩).p), .row 3 1 M (gI (mrg L K x n ⟨P, R, D⟩).r), .row 3 1 M (gI (mrg L K x n ⟨P, R, D⟩).d)]
theorem spMrg_of {K : Nat} (hk : MrgOk K) : SpOk Try.prog 19 (.lift (gMrg K)) := by
  intro args mem cs obl h ho
  unfold gMrg at h
  split at h
  · split at h
    · simp only [Option.some.injEq, Prod.mk.injEq] at h
      obtain ⟨rfl, rfl⟩ := h
      exact hk _ _ _ _ _ _ _ ho.1 ho.2.1 ho.2.2.1 ho.2.2.2.1
    · cases h
  · cases h
theorem mrgOk : ∀ K : Nat, MrgOk K
  | 0 => fun M x n L P R D h1 h2 h3 h4 => mr_1 M x n L P R D h3 h2 (by omega)
  | K + 1 => by
    intro M x n L P R D o1 o2 o3 o4
    have ih := spMrg_of (mrgOk K)
    by_cases q : n < 2
    · have hs : mrg L (K + 1) x n ⟨P, R, D⟩ = ⟨P, R, D⟩ := by unfold mrg; rw [if_pos q]
      rw [hs]
      exact mr_1 M x n L P R D o3 o2 q
    · have i1 := mrg_inN (L := L) K x (n / 2) ⟨P, R, D⟩ (by omega) o4
      have i2 := mrg_inN (L := L) K (x + n / 2) (n - n / 2) _ (by omega) i1
      have eh : IntKind.wrap IntKind.i64 (Int.tdiv (n : Int) 2) = ((n / 2 : Nat) : Int) := by
        rw [Int.tdiv_eq_ediv_of_nonneg (by omega)]; exact w64 (by omega) (by omega)
      rw [mrg_big L K x n _ q]
      refine mr_2 K ih M x n L P R D o3 o2 (by omega) (by omega) o4 (n / 2) eh (by omega) (by omega) (by omega) _ _ rfl i1 rfl _ _ _ rfl ?_
      refine mg_loop M n x (n / 2) L _ _ _ _ _ o3 o2 (by omega) (fun k h1 h2 => ?_) rfl
      simp only [ovr]
      rw [if_pos ⟨h1, h2⟩]
      exact i2 k (by omega)
theorem spMrg (K : Nat) : SpOk Try.prog 19 (.lift (gMrg K)) := spMrg_of (mrgOk K)
/-- All of a row is a part of it. -/
theorem own_sub {env : Env} {mem : List Seg} {w0 w : World} {S : Nat → Prop} (hm : MemOk env mem w0 w S) {h n wd : Nat} {e : TypeId} {g : Nat → List At} (hs : mem[h]? = some (.row e wd n g)) {v : Value} (k : (SV.nv (.one (.own h))).rel env v) : (SV.nv (.one (.sub h wd 0 n))).rel env v := by
  obtain ⟨u, cs, h1, h2, h3⟩ := hm.ok _ _ hs
  obtain ⟨k1, _⟩ := k
  rw [h1] at k1
  obtain rfl := Option.some.inj k1
  rcases h2.2 with ⟨rfl, rfl⟩ | ⟨b, cap, cur, rfl, _, _, hnc, _⟩
  · exact ⟨none, 0, 0, none, 0, h1, rfl, Nat.le_refl _, fun _ => ⟨rfl, rfl⟩, fun q => absurd q (by omega)⟩
  · exact ⟨_, n, cap, _, cap, h1, rfl, hnc, fun _ => ⟨rfl, rfl⟩, fun _ => by simp [Addr.add]⟩
theorem fnMrgO (M : Nat) (L P R D : Nat → Int) (hM : M ≤ 1000000) (hP : inN M P) (s : Ms) (e : mrg L M 0 M ⟨P, R, D⟩ = s) :
    FnOk Try.prog 19 [.nv (.one (.own 0)), .nv (.one (.own 1)), .nv (.one (.own 2)), .nv (.one (.own 3))] [.ro 1 M (gU L), .row 3 1 M (gI P), .row 3 1 M (gI R), .row 3 1 M (gI D)] .any
      [.gone, .row 3 1 M (gI s.p), .row 3 1 M (gI s.r), .row 3 1 M (gI s.d)] := by
  have key := mrgOk M M 0 M L P R D (Nat.le_refl _) (by omega) hM hP
  subst e
  intro env w0 w S vals hv hm
  match vals, hv with
  | [v0, v1, v2, v3], ⟨k0, k1, k2, k3, _⟩ => exact key env w0 w S [v0, v1, v2, v3] ⟨k0, own_sub hm rfl k1, own_sub hm rfl k2, k3, trivial⟩ hm
def gMrgO : List SV → List Seg → Option (CS × List Prop)
  | [.nv (.one (.own a)), .nv (.one (.own b)), .nv (.one (.own c)), .nv (.one (.own e))], mem => match srcOf mem 1 (.own a), srcOf mem 1 (.own b), srcOf mem 1 (.own c), srcOf mem 1 (.own e) with
    | some (M, gL, _), some (_, gP, _), some (_, gR, _), some (_, gD, _) => some (⟨[.nv (.one (.own 0)), .nv (.one (.own 1)), .nv (.one (.own 2)), .nv (.one (.own 3))], [.ro 1 M (gU (cF gL)), .row 3 1 M (gI (cF gP)), .row 3 1 M (gI (cF gR)), .row 3 1 M (gI (cF gD))], .any,
        [.gone, .row 3 1 M (gI (mrg (cF gL) M 0 M ⟨cF gP, cF gR, cF gD⟩).p), .row 3 1 M (gI (mrg (cF gL) M 0 M ⟨cF gP, cF gR, cF gD⟩).r), .row 3 1 M (gI (mrg (cF gL) M 0 M ⟨cF gP, cF gR, cF gD⟩).d)]⟩, [M ≤ 1000000, inN M (cF gP)])
    | _, _, _, _ => none
  | _, _ => none
theorem spMrgO : SpOk Try.prog 19 (.lift gMrgO) := by
  intro args mem cs obl h ho
  unfold gMrgO at h
  split at h
  · split at h
    · simp only [Option.some.injEq, Prod.mk.injEq] at h
      obtain ⟨rfl, rfl⟩ := h
      exact fnMrgO _ _ _ _ _ ho.1 ho.2.1 _ rfl
    · cases h
  · cases h
def Giv0 : List (FuncId × Sp) := (19, .lift gMrgO) :: G0
theorem Giv0_ok : CtxOk Try.prog Giv0 := ctx_cons (enter_of Try.func19 (by kernel_rfl) (by kernel_rfl)) spMrgO G0_ok
/-- The numbers below m, and 0. -/
def idT (m : Nat) : Nat → Int := fun k => if k < m then (k : Int) else 0
def z0 : Nat → Int := fun _ => 0
/-- What sorted makes: the places in order, how late each is. -/
def srt (L : Nat → Int) (N : Nat) : Ms := mrg L N 0 N ⟨idT N, z0, z0⟩
theorem idT_inN (N : Nat) : inN N (idT N) := fun k hk => by simp only [idT]; rw [if_pos hk]; omega
end Go.Proofs.Ytffkakkijifoaaa

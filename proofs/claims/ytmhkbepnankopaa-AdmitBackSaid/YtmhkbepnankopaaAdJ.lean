/- admit: the table's plain law, first part. No condition. -/
import Derived.Test.YtmhkbepnankopaaAdE
import Derived.Test.YtmhkbepnankopaaChecked
import Derived.KernelRfl
namespace Go.Proofs.Ytmhkbepnankopaa
set_option linter.unusedVariables false
set_option linter.unusedSimpArgs false
open Go.RowKit E
theorem set_eq {T : Nat → Sl} {q : Nat} (hu : (T q).us = true) {p b o : Int} (j : Nat) : gS (putS T q ⟨(T q).id, true, p, b, o⟩) j = (if j = q then List.take 2 (gS T q) ++ [.val (.int .i64 p), .val (.int .u64 b), .val (.int .u64 o)] ++ List.drop 5 (gS T q) else gS T j) := by
  unfold gS putS
  split
  · simp [hu]
  · rfl
theorem put_eq {T : Nat → Sl} {q : Nat} {s : Sl} (j : Nat) : gS (putS T q s) j = (if j = q then [.val (.int .u32 s.id), .val (.bool s.us), .val (.int .i64 s.pk), .val (.int .u64 s.bt), .val (.int .u64 s.mo)] else gS T j) := by
  unfold gS putS
  split <;> rfl
theorem put_eq2 {T : Nat → Sl} {q : Nat} {id p b o : Int} (j : Nat) : gS (putS T q ⟨id, true, p, b, o⟩) j = (if j = q then List.take 0 (gS T q) ++ [.val (.int .u32 id), .val (.bool true), .val (.int .i64 p), .val (.int .u64 b), .val (.int .u64 o)] ++ List.drop 5 (gS T q) else gS T j) := by
  unfold gS putS
  split <;> rfl
/-- What a table of M' slots has when the first i slots of another one were put into it. -/
def reT (T : Nat → Sl) (M' : Nat) : Nat → Nat → Sl
  | 0 => fun _ => sl0
  | i + 1 => if (T i).us = true then putS (reT T M' i) (fd (reT T M' i) M' (T i).id) (T i) else reT T M' i
theorem re_eq {T : Nat → Sl} {M' i : Nat} (hu : (T i).us = true) (j : Nat) : gS (reT T M' (i + 1)) j = (if j = fd (reT T M' i) M' (T i).id then gS T i else gS (reT T M' i) j) := by
  have e : reT T M' (i + 1) = putS (reT T M' i) (fd (reT T M' i) M' (T i).id) (T i) := if_pos hu
  rw [e, put_eq]
theorem re_no {T : Nat → Sl} {M' i : Nat} (hu : (T i).us = false) : reT T M' (i + 1) = reT T M' i := by
  show (if (T i).us = true then _ else _) = _
  rw [if_neg (by rw [hu]; simp)]
/-- How many of the first slots are in use. -/
def cnt (T : Nat → Sl) : Nat → Nat
  | 0 => 0
  | i + 1 => cnt T i + (if (T i).us = true then 1 else 0)
theorem cnt_le (T : Nat → Sl) : ∀ M, cnt T M ≤ M
  | 0 => Nat.le_refl _
  | M + 1 => by have := cnt_le T M; unfold cnt; split <;> omega
theorem cnt_all (T : Nat → Sl) : ∀ M, (∀ j, j < M → (T j).us = true) → cnt T M = M
  | 0, _ => rfl
  | M + 1, h => by
    unfold cnt
    rw [cnt_all T M (fun j hj => h j (by omega)), if_pos (h M (by omega))]
theorem free_cnt {M : Nat} {T : Nat → Sl} (h : cnt T M < M) : free M T := by
  apply Classical.byContradiction
  intro q
  have : ∀ j, j < M → (T j).us = true := by
    intro j hj
    cases e : (T j).us
    · exact absurd ⟨j, hj, e⟩ q
    · rfl
  rw [cnt_all T M this] at h
  omega
theorem cnt_off (T : Nat → Sl) (q : Nat) (s : Sl) : ∀ M, M ≤ q → cnt (putS T q s) M = cnt T M
  | 0, _ => rfl
  | M + 1, h => by
    unfold cnt
    rw [cnt_off T q s M (by omega)]
    have : putS T q s M = T M := by unfold putS; rw [if_neg (by omega)]
    rw [this]
theorem cnt_put (T : Nat → Sl) (q : Nat) (s : Sl) (h : (T q).us = false) (hs : s.us = true) : ∀ M, q < M → cnt (putS T q s) M = cnt T M + 1
  | M + 1, hq => by
    unfold cnt
    by_cases e : q = M
    · subst e
      rw [cnt_off T q s q (Nat.le_refl _)]
      have : putS T q s q = s := by unfold putS; rw [if_pos rfl]
      rw [this, if_pos hs, if_neg (by rw [h]; decide)]
    · rw [cnt_put T q s h hs M (by omega)]
      have : putS T q s M = T M := by unfold putS; rw [if_neg (by omega)]
      rw [this]
      omega
theorem cnt_set (T : Nat → Sl) (q : Nat) (s : Sl) (h : (T q).us = s.us) : ∀ M, cnt (putS T q s) M = cnt T M
  | 0 => rfl
  | M + 1 => by
    unfold cnt
    rw [cnt_set T q s h M]
    by_cases e : M = q
    · subst e
      have : putS T M s M = s := by unfold putS; rw [if_pos rfl]
      rw [this, h]
    · have : putS T q s M = T M := by unfold putS; rw [if_neg e]
      rw [this]
theorem cnt_sl0 : ∀ M, cnt (fun _ => sl0) M = 0
  | 0 => rfl
  | M + 1 => by unfold cnt; rw [cnt_sl0 M]; rfl
/-- Each number in use is found where it lies. -/
def Inv (M : Nat) (T : Nat → Sl) : Prop := ∀ j, j < M → (T j).us = true → fd T M (T j).id = j
theorem putS_eq (T : Nat → Sl) (q : Nat) (s : Sl) : putS T q s q = s := by unfold putS; rw [if_pos rfl]
theorem putS_ne (T : Nat → Sl) {q j : Nat} (s : Sl) (h : j ≠ q) : putS T q s j = T j := by unfold putS; rw [if_neg h]
/-- Another number's path goes on as it was, or led to the slot that is put. -/
theorem fdF_put (T : Nat → Sl) (M : Nat) (q : Nat) (s : Sl) (hq : (T q).us = false) (y : Int) : ∀ f a, fdF (putS T q s) M y f a = fdF T M y f a ∨ fdF T M y f a = q
  | 0, _ => .inl rfl
  | f + 1, a => by
    unfold fdF
    by_cases e : a = q
    · subst e
      right
      rw [if_neg (by rw [hq]; simp)]
    · rw [putS_ne T s e]
      split
      · exact fdF_put T M q s hq y f _
      · exact .inl rfl
theorem fdF_put_id (T : Nat → Sl) (M : Nat) (q : Nat) (s : Sl) (hq : (T q).us = false) (y : Int) (hs : s.id = y) : ∀ f a, fdF T M y f a = q → fdF (putS T q s) M y f a = q
  | 0, _, h => h
  | f + 1, a, h => by
    unfold fdF at h ⊢
    by_cases e : a = q
    · subst e
      rw [putS_eq, if_neg (by rw [hs]; simp)]
    · rw [putS_ne T s e]
      split
      · rename_i g
        rw [if_pos g] at h
        exact fdF_put_id T M q s hq y hs f _ h
      · rename_i g
        rw [if_neg g] at h
        exact absurd h e
theorem fdF_set (T : Nat → Sl) (M : Nat) (q : Nat) (s : Sl) (hu : s.us = (T q).us) (hi : s.id = (T q).id) (y : Int) : ∀ f a, fdF (putS T q s) M y f a = fdF T M y f a
  | 0, _ => rfl
  | f + 1, a => by
    unfold fdF
    have e : (putS T q s a).us = (T a).us ∧ (putS T q s a).id = (T a).id := by
      by_cases e : a = q
      · subst e; rw [putS_eq]; exact ⟨hu, hi⟩
      · rw [putS_ne T s e]; exact ⟨rfl, rfl⟩
    rw [e.1, e.2, fdF_set T M q s hu hi y f]
/-- What is under a number. -/
def look17 (M : Nat) (T : Nat → Sl) (y : Int) : Option Sl := if (T (fd T M y)).us = true then some (T (fd T M y)) else none
theorem look_some {M : Nat} {T : Nat → Sl} (hf : free M T) {y : Int} {s : Sl} (h : look17 M T y = some s) : fd T M y < M ∧ T (fd T M y) = s ∧ s.us = true ∧ s.id = y := by
  unfold look17 at h
  split at h
  · rename_i g
    cases h
    obtain ⟨h1, h2⟩ := fd_stop T y hf
    refine ⟨h1, rfl, g, ?_⟩
    rcases h2 with h2 | h2
    · rw [g] at h2; cases h2
    · exact h2
  · cases h
theorem look_none {M : Nat} {T : Nat → Sl} {y : Int} : look17 M T y = none ↔ (T (fd T M y)).us = false := by
  unfold look17
  split
  · rename_i g; rw [g]; simp
  · rename_i g; simp [Bool.eq_false_iff.2 g]
theorem inv_put {M : Nat} {T : Nat → Sl} (hf : free M T) (hi : Inv M T) (s : Sl) (hs : s.us = true) (hn : look17 M T s.id = none) : Inv M (putS T (fd T M s.id) s) := by
  have hq := look_none.1 hn
  intro j hj hu
  by_cases e : j = fd T M s.id
  · rw [e, putS_eq]
    exact fdF_put_id T M _ s hq s.id rfl M _ rfl
  · rw [putS_ne T s e] at hu ⊢
    rcases fdF_put T M (fd T M s.id) s hq (T j).id M (homeN (T j).id M) with g | g
    · exact g.trans (hi j hj hu)
    · have : fd T M (T j).id = fd T M s.id := g
      rw [hi j hj hu] at this
      exact absurd this e
theorem look_put {M : Nat} {T : Nat → Sl} (hf : free M T) (hi : Inv M T) (s : Sl) (hs : s.us = true) (hn : look17 M T s.id = none) (hf' : free M (putS T (fd T M s.id) s)) (y : Int) :
    look17 M (putS T (fd T M s.id) s) y = if y = s.id then some s else look17 M T y := by
  have hq := look_none.1 hn
  have hql := (fd_stop T s.id hf).1
  by_cases e : y = s.id
  · subst e
    rw [if_pos rfl]
    have h1 : fd (putS T (fd T M s.id) s) M s.id = fd T M s.id := fdF_put_id T M _ s hq s.id rfl M _ rfl
    unfold look17
    rw [h1, putS_eq, if_pos hs]
  · rw [if_neg e]
    rcases fdF_put T M (fd T M s.id) s hq y M (homeN y M) with g | g
    · have g : fd (putS T (fd T M s.id) s) M y = fd T M y := g
      have hne : fd T M y ≠ fd T M s.id ∨ fd T M y = fd T M s.id := by omega
      rcases hne with hne | hne
      · unfold look17
        rw [g, putS_ne T s hne]
      · exfalso
        obtain ⟨k1, k2⟩ := fd_stop (putS T (fd T M s.id) s) y hf'
        rw [g, hne, putS_eq] at k2
        rcases k2 with k2 | k2
        · rw [hs] at k2; cases k2
        · exact e k2.symm
    · have g : fd T M y = fd T M s.id := g
      have h0 : look17 M T y = none := by rw [look_none, g]; exact hq
      rw [h0]
      apply Classical.byContradiction
      intro q
      obtain ⟨t, ht⟩ := Option.ne_none_iff_exists'.1 q
      obtain ⟨k1, k2, k3, k4⟩ := look_some hf' ht
      by_cases e2 : fd (putS T (fd T M s.id) s) M y = fd T M s.id
      · rw [e2, putS_eq] at k2
        rw [← k2] at k4
        exact e k4.symm
      · rw [putS_ne T s e2] at k2
        have := hi _ k1 (by rw [k2]; exact k3)
        rw [k2, k4, g] at this
        exact e2 this.symm
theorem fd_set {M : Nat} {T : Nat → Sl} (q : Nat) (s : Sl) (hu : s.us = (T q).us) (hi : s.id = (T q).id) (y : Int) : fd (putS T q s) M y = fd T M y := fdF_set T M q s hu hi y M _
theorem inv_set {M : Nat} {T : Nat → Sl} (hi : Inv M T) (q : Nat) (s : Sl) (hu : s.us = (T q).us) (he : s.id = (T q).id) : Inv M (putS T q s) := by
  intro j hj hj2
  rw [fd_set q s hu he]
  by_cases e : j = q
  · subst e
    rw [putS_eq] at hj2 ⊢
    rw [he]
    exact hi j hj (hu ▸ hj2)
  · rw [putS_ne T s e] at hj2 ⊢
    exact hi j hj hj2
theorem look_set {M : Nat} {T : Nat → Sl} (hf : free M T) (hi : Inv M T) (s : Sl) (hs : s.us = true) {y' : Int} {t : Sl} (ht : look17 M T y' = some t) (he : s.id = y') (y : Int) :
    look17 M (putS T (fd T M y') s) y = if y = y' then some s else look17 M T y := by
  obtain ⟨h1, h2, h3, h4⟩ := look_some hf ht
  have hu : s.us = (T (fd T M y')).us := by rw [h2, h3, hs]
  have hid : s.id = (T (fd T M y')).id := by rw [h2, h4, he]
  unfold look17
  rw [fd_set _ s hu hid]
  by_cases e : y = y'
  · subst e
    rw [if_pos rfl, putS_eq, if_pos hs]
  · rw [if_neg e]
    by_cases e2 : fd T M y = fd T M y'
    · obtain ⟨_, k⟩ := fd_stop T y hf
      rw [e2, h2] at k
      rcases k with k | k
      · rw [h3] at k; cases k
      · exact absurd (k.symm.trans h4) e
    · rw [putS_ne T s e2]
theorem free_set {M : Nat} {T : Nat → Sl} (hf : free M T) (q : Nat) (s : Sl) (hu : s.us = (T q).us) : free M (putS T q s) := by
  obtain ⟨j, hj, e⟩ := hf
  refine ⟨j, hj, ?_⟩
  by_cases e2 : j = q
  · subst e2; rw [putS_eq, hu, e]
  · rw [putS_ne T s e2, e]
end Go.Proofs.Ytmhkbepnankopaa

/- Runs of Go code, as printed by a program: no condition beyond those that each states. -/
namespace Go.Proofs.Ytmhkbepnankopaa
set_option linter.unusedVariables false
set_option linter.unusedSimpArgs false
set_option maxRecDepth 100000
open Go.RowKit E
attribute [local irreducible] fd homeN
set_option maxHeartbeats 2000000 in
theorem get_y (M : Nat) (n id : Int) (T : Nat → Sl) (h2 : P2 M) (h3 : 0 < M) (hf : free M T) (hl : fd T M id < M) (hu : (T (fd T M id)).us = true) : FnOk Try.prog 29 ([p0, u32A id]) (tbR n M T) (.tup [.agg [.val (.int .i64 (T (fd T M id)).pk), .val (.int .u64 (T (fd T M id)).bt), .val (.int .u64 (T (fd T M id)).mo)], .one (.val (.bool true))]) ([.gone, .gone]) :=
  fn_run Gad1_ok Try.func29 (orc := ⟨[false, false], []⟩) (obl := [(0 : Nat) < M,
      (0 : Nat) = (0 : Nat),
      n = n,
      (64 : Int) = (64 : Int),
      M = M,
      ∀ (i : Nat), i < M → Sl.id (T i) = Sl.id (slOf (gS T) i) ∧ Sl.us (T i) = Sl.us (slOf (gS T) i) ∧ Sl.pk (T i) = Sl.pk (slOf (gS T) i) ∧ Sl.bt (T i) = Sl.bt (slOf (gS T) i) ∧ Sl.mo (T i) = Sl.mo (slOf (gS T) i) ∧ True,
      (!true) = false,
      P2 M,
      free M (slOf (gS T)),
      (0 : Nat) = (0 : Nat),
      id = id,
      n = n,
      (64 : Int) = (64 : Int),
      M = M,
      ∀ (i : Nat), i < M → Sl.id (T i) = Sl.id (slOf (gS T) i) ∧ Sl.us (T i) = Sl.us (slOf (gS T) i) ∧ Sl.pk (T i) = Sl.pk (slOf (gS T) i) ∧ Sl.bt (T i) = Sl.bt (slOf (gS T) i) ∧ Sl.mo (T i) = Sl.mo (slOf (gS T) i) ∧ True,
      (0 : Int) ≤ (↑(fd (slOf (gS T)) M id) : Int),
      (↑(fd (slOf (gS T)) M id) : Int) < (↑M : Int),
      Int.toNat (↑(fd (slOf (gS T)) M id) : Int) < M,
      (!Sl.us (T (Int.toNat (↑(fd (slOf (gS T)) M id) : Int)))) = false,
      P2 M,
      free M (slOf (gS T)),
      (0 : Nat) = (0 : Nat),
      id = id,
      n = n,
      (64 : Int) = (64 : Int),
      M = M,
      ∀ (i : Nat), i < M → Sl.id (T i) = Sl.id (slOf (gS T) i) ∧ Sl.us (T i) = Sl.us (slOf (gS T) i) ∧ Sl.pk (T i) = Sl.pk (slOf (gS T) i) ∧ Sl.bt (T i) = Sl.bt (slOf (gS T) i) ∧ Sl.mo (T i) = Sl.mo (slOf (gS T) i) ∧ True,
      (0 : Int) ≤ (↑(fd (slOf (gS T)) M id) : Int),
      (↑(fd (slOf (gS T)) M id) : Int) < (↑M : Int),
      Int.toNat (↑(fd (slOf (gS T)) M id) : Int) < M,
      Sl.pk (T (Int.toNat (↑(fd (slOf (gS T)) M id) : Int))) = Sl.pk (T (fd T M id)),
      Sl.bt (T (Int.toNat (↑(fd (slOf (gS T)) M id) : Int))) = Sl.bt (T (fd T M id)),
      Sl.mo (T (Int.toNat (↑(fd (slOf (gS T)) M id) : Int))) = Sl.mo (T (fd T M id)),
      true = true]) (by kernel_rfl) (.cons (by assumption) (.cons (by rfl) (.cons (by rfl) (.cons (by rfl) (.cons (by rfl) (.cons (by (intro _ _; exact ⟨rfl, rfl, rfl, rfl, rfl, trivial⟩)) (.cons (by rfl) (.cons (by assumption) (.cons (by assumption) (.cons (by rfl) (.cons (by rfl) (.cons (by rfl) (.cons (by rfl) (.cons (by rfl) (.cons (by (intro _ _; exact ⟨rfl, rfl, rfl, rfl, rfl, trivial⟩)) (.cons (by omega) (.cons (by exact Int.ofNat_lt.2 hl) (.cons (by assumption) (.cons (by exact congrArg not hu) (.cons (by assumption) (.cons (by assumption) (.cons (by rfl) (.cons (by rfl) (.cons (by rfl) (.cons (by rfl) (.cons (by rfl) (.cons (by (intro _ _; exact ⟨rfl, rfl, rfl, rfl, rfl, trivial⟩)) (.cons (by omega) (.cons (by exact Int.ofNat_lt.2 hl) (.cons (by assumption) (.cons (by rfl) (.cons (by rfl) (.cons (by rfl) (.cons (by rfl) .nil)))))))))))))))))))))))))))))))))) (Nat.le_of_ble_eq_true (by kernel_rfl))

set_option maxHeartbeats 2000000 in
theorem get_n (M : Nat) (n id : Int) (T : Nat → Sl) (h2 : P2 M) (h3 : 0 < M) (hf : free M T) (hl : fd T M id < M) (hu : (T (fd T M id)).us = false) : FnOk Try.prog 29 ([p0, u32A id]) (tbR n M T) (.tup [.agg [.val (.int .i64 0), .val (.int .u64 0), .val (.int .u64 0)], .one (.val (.bool false))]) ([.gone, .gone]) :=
  fn_run Gad1_ok Try.func29 (orc := ⟨[false, true], []⟩) (obl := [(0 : Nat) < M,
      (0 : Nat) = (0 : Nat),
      n = n,
      (64 : Int) = (64 : Int),
      M = M,
      ∀ (i : Nat), i < M → Sl.id (T i) = Sl.id (slOf (gS T) i) ∧ Sl.us (T i) = Sl.us (slOf (gS T) i) ∧ Sl.pk (T i) = Sl.pk (slOf (gS T) i) ∧ Sl.bt (T i) = Sl.bt (slOf (gS T) i) ∧ Sl.mo (T i) = Sl.mo (slOf (gS T) i) ∧ True,
      (!true) = false,
      P2 M,
      free M (slOf (gS T)),
      (0 : Nat) = (0 : Nat),
      id = id,
      n = n,
      (64 : Int) = (64 : Int),
      M = M,
      ∀ (i : Nat), i < M → Sl.id (T i) = Sl.id (slOf (gS T) i) ∧ Sl.us (T i) = Sl.us (slOf (gS T) i) ∧ Sl.pk (T i) = Sl.pk (slOf (gS T) i) ∧ Sl.bt (T i) = Sl.bt (slOf (gS T) i) ∧ Sl.mo (T i) = Sl.mo (slOf (gS T) i) ∧ True,
      (0 : Int) ≤ (↑(fd (slOf (gS T)) M id) : Int),
      (↑(fd (slOf (gS T)) M id) : Int) < (↑M : Int),
      Int.toNat (↑(fd (slOf (gS T)) M id) : Int) < M,
      (!Sl.us (T (Int.toNat (↑(fd (slOf (gS T)) M id) : Int)))) = true,
      (0 : Int) = (0 : Int),
      (0 : Int) = (0 : Int),
      (0 : Int) = (0 : Int),
      false = false]) (by kernel_rfl) (.cons (by assumption) (.cons (by rfl) (.cons (by rfl) (.cons (by rfl) (.cons (by rfl) (.cons (by (intro _ _; exact ⟨rfl, rfl, rfl, rfl, rfl, trivial⟩)) (.cons (by rfl) (.cons (by assumption) (.cons (by assumption) (.cons (by rfl) (.cons (by rfl) (.cons (by rfl) (.cons (by rfl) (.cons (by rfl) (.cons (by (intro _ _; exact ⟨rfl, rfl, rfl, rfl, rfl, trivial⟩)) (.cons (by omega) (.cons (by exact Int.ofNat_lt.2 hl) (.cons (by assumption) (.cons (by exact congrArg not hu) (.cons (by rfl) (.cons (by rfl) (.cons (by rfl) (.cons (by rfl) .nil))))))))))))))))))))))) (Nat.le_of_ble_eq_true (by kernel_rfl))

set_option maxHeartbeats 2000000 in
theorem set_y (M : Nat) (n id p b o : Int) (T : Nat → Sl) (h2 : P2 M) (h3 : 0 < M) (hf : free M T) (hl : fd T M id < M) (hu : (T (fd T M id)).us = true) : FnOk Try.prog 32 ([p0, u32A id, .nv (.agg [.val (.int .i64 p), .val (.int .u64 b), .val (.int .u64 o)])]) (tbW n M T) (bA true) (tbW n M (putS T (fd T M id) ⟨(T (fd T M id)).id, true, p, b, o⟩)) :=
  fn_run Gad1_ok Try.func32 (orc := ⟨[false, false], []⟩) (obl := [(0 : Nat) < M,
      (0 : Nat) = (0 : Nat),
      n = n,
      (64 : Int) = (64 : Int),
      M = M,
      ∀ (i : Nat), i < M → Sl.id (T i) = Sl.id (slOf (gS T) i) ∧ Sl.us (T i) = Sl.us (slOf (gS T) i) ∧ Sl.pk (T i) = Sl.pk (slOf (gS T) i) ∧ Sl.bt (T i) = Sl.bt (slOf (gS T) i) ∧ Sl.mo (T i) = Sl.mo (slOf (gS T) i) ∧ True,
      (!true) = false,
      P2 M,
      free M (slOf (gS T)),
      (0 : Nat) = (0 : Nat),
      id = id,
      n = n,
      (64 : Int) = (64 : Int),
      M = M,
      ∀ (i : Nat), i < M → Sl.id (T i) = Sl.id (slOf (gS T) i) ∧ Sl.us (T i) = Sl.us (slOf (gS T) i) ∧ Sl.pk (T i) = Sl.pk (slOf (gS T) i) ∧ Sl.bt (T i) = Sl.bt (slOf (gS T) i) ∧ Sl.mo (T i) = Sl.mo (slOf (gS T) i) ∧ True,
      (0 : Int) ≤ (↑(fd (slOf (gS T)) M id) : Int),
      (↑(fd (slOf (gS T)) M id) : Int) < (↑M : Int),
      Int.toNat (↑(fd (slOf (gS T)) M id) : Int) < M,
      (!Sl.us (T (Int.toNat (↑(fd (slOf (gS T)) M id) : Int)))) = false,
      P2 M,
      free M (slOf (gS T)),
      (0 : Nat) = (0 : Nat),
      id = id,
      n = n,
      (64 : Int) = (64 : Int),
      M = M,
      ∀ (i : Nat), i < M → Sl.id (T i) = Sl.id (slOf (gS T) i) ∧ Sl.us (T i) = Sl.us (slOf (gS T) i) ∧ Sl.pk (T i) = Sl.pk (slOf (gS T) i) ∧ Sl.bt (T i) = Sl.bt (slOf (gS T) i) ∧ Sl.mo (T i) = Sl.mo (slOf (gS T) i) ∧ True,
      (0 : Int) ≤ (↑(fd (slOf (gS T)) M id) : Int),
      (↑(fd (slOf (gS T)) M id) : Int) < (↑M : Int),
      Int.toNat (↑(fd (slOf (gS T)) M id) : Int) < M,
      true = true,
      n = n,
      (64 : Int) = (64 : Int),
      M = M,
      ∀ (i : Nat), i < M → AllT (leAts ([(nat_lit 1, Bd.same (nat_lit 1)), (nat_lit 0, Bd.same (nat_lit 0))] ++ ([] ++ []) ++ ([] ++ ([((1 : Nat), Bd.same (1 : Nat))] ++ ([] ++ ([] ++ [])) ++ []) ++ ([] ++ [] ++ []))) (2 : Nat) (if i = Int.toNat (↑(fd (slOf (gS T)) M id) : Int) then List.take (2 : Nat) (gS T (Int.toNat (↑(fd (slOf (gS T)) M id) : Int))) ++ [At.val (Value.int IntKind.i64 p), At.val (Value.int IntKind.u64 b), At.val (Value.int IntKind.u64 o)] ++ List.drop (5 : Nat) (gS T (Int.toNat (↑(fd (slOf (gS T)) M id) : Int))) else gS T i) (gS (putS T (fd T M id) { id := Sl.id (T (fd T M id)), us := true, pk := p, bt := b, mo := o }) i))]) (by kernel_rfl) (.cons (by assumption) (.cons (by rfl) (.cons (by rfl) (.cons (by rfl) (.cons (by rfl) (.cons (by (intro _ _; exact ⟨rfl, rfl, rfl, rfl, rfl, trivial⟩)) (.cons (by rfl) (.cons (by assumption) (.cons (by assumption) (.cons (by rfl) (.cons (by rfl) (.cons (by rfl) (.cons (by rfl) (.cons (by rfl) (.cons (by (intro _ _; exact ⟨rfl, rfl, rfl, rfl, rfl, trivial⟩)) (.cons (by omega) (.cons (by exact Int.ofNat_lt.2 hl) (.cons (by assumption) (.cons (by exact congrArg not hu) (.cons (by assumption) (.cons (by assumption) (.cons (by rfl) (.cons (by rfl) (.cons (by rfl) (.cons (by rfl) (.cons (by rfl) (.cons (by (intro _ _; exact ⟨rfl, rfl, rfl, rfl, rfl, trivial⟩)) (.cons (by omega) (.cons (by exact Int.ofNat_lt.2 hl) (.cons (by assumption) (.cons (by rfl) (.cons (by rfl) (.cons (by rfl) (.cons (by rfl) (.cons (by (refine leG_eq (fun j hj => (set_eq hu j).symm) (fun _ _ => rfl))) .nil))))))))))))))))))))))))))))))))))) (Nat.le_of_ble_eq_true (by kernel_rfl))
end Go.Proofs.Ytmhkbepnankopaa

/- Runs of Go code, as printed by a program: no condition beyond those that each states. -/
namespace Go.Proofs.Ytmhkbepnankopaa
set_option linter.unusedVariables false
set_option linter.unusedSimpArgs false
set_option maxRecDepth 100000
open Go.RowKit E
attribute [local irreducible] fd homeN
set_option maxHeartbeats 2000000 in
theorem gr_y (M i : Nat) (n : Int) (T : Nat → Sl) (h2 : P2 (2 * M)) (h3 : 0 < M) (h4 : M ≤ 1000000) (hi : i < M) (hu : (T i).us = true) (hf : free (2 * M) (reT T (2 * M) i)) (hl : fd (reT T (2 * M) i) (2 * M) (T i).id < 2 * M) : CodeOk Try.prog 2 (loopOf Try.f40 0) (mkSt 35 [(0, p0), (16, .nv (.one (.own 1))), (17, iA M), (18, iA i)] [.box 78 [.own 2, .val (.int .i64 n), .val (.int .i64 64)], .row 80 5 M (gS T), .row 80 5 (2 * M) (gS (reT T (2 * M) i))]) .normal (mkSt 35 [(0, p0), (16, .nv (.one (.own 1))), (17, iA M), (18, iA (i + 1 : Nat))] [.box 78 [.own 2, .val (.int .i64 n), .val (.int .i64 64)], .row 80 5 M (gS T), .row 80 5 (2 * M) (gS (reT T (2 * M) (i + 1 : Nat)))]) :=
  code_run Gad1_ok (orc := ⟨[true, true], []⟩) (obl := [decide ((↑i : Int) < (↑M : Int)) = true,
      (0 : Int) ≤ (↑i : Int),
      (↑i : Int) < (↑M : Int),
      Int.toNat (↑i : Int) < M,
      Sl.us (T (Int.toNat (↑i : Int))) = true,
      P2 ((2 : Nat) * M),
      free ((2 : Nat) * M) (slOf (gS (reT T ((2 : Nat) * M) i))),
      (0 : Nat) = (0 : Nat),
      Sl.id (T (Int.toNat (↑i : Int))) = Sl.id (T (Int.toNat (↑i : Int))),
      n = n,
      (64 : Int) = (64 : Int),
      (2 : Nat) * M = (2 : Nat) * M,
      ∀ (i_1 : Nat), i_1 < (2 : Nat) * M → Sl.id (reT T ((2 : Nat) * M) i i_1) = Sl.id (slOf (gS (reT T ((2 : Nat) * M) i)) i_1) ∧ Sl.us (reT T ((2 : Nat) * M) i i_1) = Sl.us (slOf (gS (reT T ((2 : Nat) * M) i)) i_1) ∧ Sl.pk (reT T ((2 : Nat) * M) i i_1) = Sl.pk (slOf (gS (reT T ((2 : Nat) * M) i)) i_1) ∧ Sl.bt (reT T ((2 : Nat) * M) i i_1) = Sl.bt (slOf (gS (reT T ((2 : Nat) * M) i)) i_1) ∧ Sl.mo (reT T ((2 : Nat) * M) i i_1) = Sl.mo (slOf (gS (reT T ((2 : Nat) * M) i)) i_1) ∧ True,
      (0 : Int) ≤ (↑(fd (slOf (gS (reT T ((2 : Nat) * M) i))) ((2 : Nat) * M) (Sl.id (T (Int.toNat (↑i : Int))))) : Int),
      (↑(fd (slOf (gS (reT T ((2 : Nat) * M) i))) ((2 : Nat) * M) (Sl.id (T (Int.toNat (↑i : Int))))) : Int) < (↑((2 : Nat) * M) : Int),
      Int.toNat (↑(fd (slOf (gS (reT T ((2 : Nat) * M) i))) ((2 : Nat) * M) (Sl.id (T (Int.toNat (↑i : Int))))) : Int) < (2 : Nat) * M,
      (0 : Nat) = (0 : Nat),
      (↑M : Int) = (↑M : Int),
      IntKind.wrap IntKind.i64 ((↑i : Int) + (1 : Int)) = (↑(i + (1 : Nat)) : Int),
      n = n,
      (64 : Int) = (64 : Int),
      M = M,
      ∀ (i : Nat), i < M → Sl.id (T i) = Sl.id (T i) ∧ Sl.us (T i) = Sl.us (T i) ∧ Sl.pk (T i) = Sl.pk (T i) ∧ Sl.bt (T i) = Sl.bt (T i) ∧ Sl.mo (T i) = Sl.mo (T i) ∧ True,
      (2 : Nat) * M = (2 : Nat) * M,
      ∀ (i_1 : Nat), i_1 < (2 : Nat) * M → AllT (leAts ([(nat_lit 1, Bd.same (nat_lit 1)), (nat_lit 0, Bd.same (nat_lit 0))] ++ ([((0 : Nat), Bd.same (0 : Nat))] ++ ([((1 : Nat), Bd.same (1 : Nat))] ++ ([] ++ ([] ++ [])))) ++ ([] ++ ([((2 : Nat), Bd.same (2 : Nat))] ++ ([] ++ ([] ++ [])) ++ ([((2 : Nat), Bd.same (2 : Nat))] ++ ([] ++ ([] ++ [])) ++ ([] ++ []))) ++ ([] ++ ([] ++ []) ++ []))) (3 : Nat) (if i_1 = Int.toNat (↑(fd (slOf (gS (reT T ((2 : Nat) * M) i))) ((2 : Nat) * M) (Sl.id (T (Int.toNat (↑i : Int))))) : Int) then List.take (0 : Nat) (gS (reT T ((2 : Nat) * M) i) (Int.toNat (↑(fd (slOf (gS (reT T ((2 : Nat) * M) i))) ((2 : Nat) * M) (Sl.id (T (Int.toNat (↑i : Int))))) : Int))) ++ [At.val (Value.int IntKind.u32 (Sl.id (T (Int.toNat (↑i : Int))))), At.val (Value.bool (Sl.us (T (Int.toNat (↑i : Int))))), At.val (Value.int IntKind.i64 (Sl.pk (T (Int.toNat (↑i : Int))))), At.val (Value.int IntKind.u64 (Sl.bt (T (Int.toNat (↑i : Int))))), At.val (Value.int IntKind.u64 (Sl.mo (T (Int.toNat (↑i : Int)))))] ++ List.drop (5 : Nat) (gS (reT T ((2 : Nat) * M) i) (Int.toNat (↑(fd (slOf (gS (reT T ((2 : Nat) * M) i))) ((2 : Nat) * M) (Sl.id (T (Int.toNat (↑i : Int))))) : Int))) else gS (reT T ((2 : Nat) * M) i) i_1) (gS (reT T ((2 : Nat) * M) (i + (1 : Nat))) i_1))]) (by kernel_rfl) (.cons (by exact decide_eq_true (by omega)) (.cons (by omega) (.cons (by omega) (.cons (by assumption) (.cons (by assumption) (.cons (by assumption) (.cons (by assumption) (.cons (by rfl) (.cons (by rfl) (.cons (by rfl) (.cons (by rfl) (.cons (by rfl) (.cons (by (intro _ _; exact ⟨rfl, rfl, rfl, rfl, rfl, trivial⟩)) (.cons (by omega) (.cons (by exact Int.ofNat_lt.2 hl) (.cons (by assumption) (.cons (by rfl) (.cons (by rfl) (.cons (by exact w64 (by omega) (by omega)) (.cons (by rfl) (.cons (by rfl) (.cons (by rfl) (.cons (by (simp; done)) (.cons (by rfl) (.cons (by (refine leG_eq (fun j hj => (re_eq hu j).symm) (fun _ _ => rfl))) .nil))))))))))))))))))))))))) (Nat.le_of_ble_eq_true (by kernel_rfl))

set_option maxHeartbeats 2000000 in
theorem gr_n (M i : Nat) (n : Int) (T : Nat → Sl) (h4 : M ≤ 1000000) (hi : i < M) (hu : (T i).us = false) : CodeOk Try.prog 2 (loopOf Try.f40 0) (mkSt 35 [(0, p0), (16, .nv (.one (.own 1))), (17, iA M), (18, iA i)] [.box 78 [.own 2, .val (.int .i64 n), .val (.int .i64 64)], .row 80 5 M (gS T), .row 80 5 (2 * M) (gS (reT T (2 * M) i))]) .normal (mkSt 35 [(0, p0), (16, .nv (.one (.own 1))), (17, iA M), (18, iA (i + 1 : Nat))] [.box 78 [.own 2, .val (.int .i64 n), .val (.int .i64 64)], .row 80 5 M (gS T), .row 80 5 (2 * M) (gS (reT T (2 * M) (i + 1 : Nat)))]) :=
  code_run Gad1_ok (orc := ⟨[true, false], []⟩) (obl := [decide ((↑i : Int) < (↑M : Int)) = true,
      (0 : Int) ≤ (↑i : Int),
      (↑i : Int) < (↑M : Int),
      Int.toNat (↑i : Int) < M,
      Sl.us (T (Int.toNat (↑i : Int))) = false,
      (0 : Nat) = (0 : Nat),
      (↑M : Int) = (↑M : Int),
      IntKind.wrap IntKind.i64 ((↑i : Int) + (1 : Int)) = (↑(i + (1 : Nat)) : Int),
      n = n,
      (64 : Int) = (64 : Int),
      M = M,
      ∀ (i : Nat), i < M → Sl.id (T i) = Sl.id (T i) ∧ Sl.us (T i) = Sl.us (T i) ∧ Sl.pk (T i) = Sl.pk (T i) ∧ Sl.bt (T i) = Sl.bt (T i) ∧ Sl.mo (T i) = Sl.mo (T i) ∧ True,
      (2 : Nat) * M = (2 : Nat) * M,
      ∀ (i_1 : Nat), i_1 < (2 : Nat) * M → Sl.id (reT T ((2 : Nat) * M) i i_1) = Sl.id (reT T ((2 : Nat) * M) (i + (1 : Nat)) i_1) ∧ Sl.us (reT T ((2 : Nat) * M) i i_1) = Sl.us (reT T ((2 : Nat) * M) (i + (1 : Nat)) i_1) ∧ Sl.pk (reT T ((2 : Nat) * M) i i_1) = Sl.pk (reT T ((2 : Nat) * M) (i + (1 : Nat)) i_1) ∧ Sl.bt (reT T ((2 : Nat) * M) i i_1) = Sl.bt (reT T ((2 : Nat) * M) (i + (1 : Nat)) i_1) ∧ Sl.mo (reT T ((2 : Nat) * M) i i_1) = Sl.mo (reT T ((2 : Nat) * M) (i + (1 : Nat)) i_1) ∧ True]) (by kernel_rfl) (.cons (by exact decide_eq_true (by omega)) (.cons (by omega) (.cons (by omega) (.cons (by assumption) (.cons (by assumption) (.cons (by rfl) (.cons (by rfl) (.cons (by exact w64 (by omega) (by omega)) (.cons (by rfl) (.cons (by rfl) (.cons (by rfl) (.cons (by (simp; done)) (.cons (by rfl) (.cons (by (rw [re_no hu]; intro _ _; exact ⟨rfl, rfl, rfl, rfl, rfl, trivial⟩)) .nil)))))))))))))) (Nat.le_of_ble_eq_true (by kernel_rfl))

set_option maxHeartbeats 2000000 in
theorem gr_e (M : Nat) (n : Int) (T : Nat → Sl) (h4 : M ≤ 1000000) : CodeOk Try.prog 2 (loopOf Try.f40 0) (mkSt 35 [(0, p0), (16, .nv (.one (.own 1))), (17, iA M), (18, iA M)] [.box 78 [.own 2, .val (.int .i64 n), .val (.int .i64 64)], .row 80 5 M (gS T), .row 80 5 (2 * M) (gS (reT T (2 * M) M))]) (.exit 0) (mkSt 35 [] [.box 78 [.own 2, .val (.int .i64 n), .val (.int .i64 64)], .gone, .row 80 5 (2 * M) (gS (reT T (2 * M) M))]) :=
  code_run Gad1_ok (orc := ⟨[false], []⟩) (obl := [decide ((↑M : Int) < (↑M : Int)) = false,
      n = n,
      (64 : Int) = (64 : Int),
      (2 : Nat) * M = (2 : Nat) * M,
      ∀ (i : Nat), i < (2 : Nat) * M → Sl.id (reT T ((2 : Nat) * M) M i) = Sl.id (reT T ((2 : Nat) * M) M i) ∧ Sl.us (reT T ((2 : Nat) * M) M i) = Sl.us (reT T ((2 : Nat) * M) M i) ∧ Sl.pk (reT T ((2 : Nat) * M) M i) = Sl.pk (reT T ((2 : Nat) * M) M i) ∧ Sl.bt (reT T ((2 : Nat) * M) M i) = Sl.bt (reT T ((2 : Nat) * M) M i) ∧ Sl.mo (reT T ((2 : Nat) * M) M i) = Sl.mo (reT T ((2 : Nat) * M) M i) ∧ True]) (by kernel_rfl) (.cons (by exact decide_eq_false (by omega)) (.cons (by rfl) (.cons (by rfl) (.cons (by rfl) (.cons (by (simp; done)) .nil))))) (Nat.le_of_ble_eq_true (by kernel_rfl))

set_option maxHeartbeats 2000000 in
theorem gr_f (M : Nat) (n : Int) (T : Nat → Sl) (h2 : P2 (2 * M)) (h3 : 0 < M) (h4 : M ≤ 1000000) (ew : IntKind.wrap IntKind.i64 (2 * (M : Int)) = ((2 * M : Nat) : Int)) (l : CodeOk Try.prog 2 (.loop (loopOf Try.f40 0)) (mkSt 35 [(0, p0), (16, .nv (.one (.own 1))), (17, iA M), (18, iA 0)] [.box 78 [.own 2, .val (.int .i64 n), .val (.int .i64 64)], .row 80 5 M (gS T), .row 80 5 (2 * M) (gS (reT T (2 * M) 0))]) (.exit 0) (mkSt 35 [] [.box 78 [.own 2, .val (.int .i64 n), .val (.int .i64 64)], .gone, .row 80 5 (2 * M) (gS (reT T (2 * M) M))])) : FnOk Try.prog 40 ([p0]) (tbW n M T) (.any) ([.box 78 [.own 2, .val (.int .i64 n), .val (.int .i64 64)], .gone, .row 80 5 (2 * M) (gS (reT T (2 * M) M))]) :=
  fn_run Gad1_ok Try.func40 (orc := ⟨[], [⟨mkSt 35 [(0, p0), (16, .nv (.one (.own 1))), (17, iA M), (18, iA 0)] [.box 78 [.own 2, .val (.int .i64 n), .val (.int .i64 64)], .row 80 5 M (gS T), .row 80 5 (2 * M) (gS (reT T (2 * M) 0))], .exit 0, mkSt 35 [] [.box 78 [.own 2, .val (.int .i64 n), .val (.int .i64 64)], .gone, .row 80 5 (2 * M) (gS (reT T (2 * M) M))]⟩]⟩) (obl := [(0 : Int) ≤ IntKind.wrap IntKind.i64 ((2 : Int) * (↑M : Int)),
      IntKind.wrap IntKind.i64 ((2 : Int) * (↑M : Int)) = IntKind.wrap IntKind.i64 ((2 : Int) * (↑M : Int)),
      (↑(32 : Nat) : Int) * IntKind.wrap IntKind.i64 ((2 : Int) * (↑M : Int)) ≤ (281474976710656 : Int),
      IntKind.wrap IntKind.i64 ((2 : Int) * (↑M : Int)) ≤ (4611686018427387904 : Int),
      (0 : Nat) = (0 : Nat),
      (↑M : Int) = (↑M : Int),
      (0 : Int) = (0 : Int),
      n = n,
      (64 : Int) = (64 : Int),
      M = M,
      ∀ (i : Nat), i < M → Sl.id (T i) = Sl.id (T i) ∧ Sl.us (T i) = Sl.us (T i) ∧ Sl.pk (T i) = Sl.pk (T i) ∧ Sl.bt (T i) = Sl.bt (T i) ∧ Sl.mo (T i) = Sl.mo (T i) ∧ True,
      Int.toNat (IntKind.wrap IntKind.i64 ((2 : Int) * (↑M : Int))) = (2 : Nat) * M,
      ∀ (i : Nat), i < Int.toNat (IntKind.wrap IntKind.i64 ((2 : Int) * (↑M : Int))) → (0 : Int) = Sl.id (reT T ((2 : Nat) * M) (0 : Nat) i) ∧ false = Sl.us (reT T ((2 : Nat) * M) (0 : Nat) i) ∧ (0 : Int) = Sl.pk (reT T ((2 : Nat) * M) (0 : Nat) i) ∧ (0 : Int) = Sl.bt (reT T ((2 : Nat) * M) (0 : Nat) i) ∧ (0 : Int) = Sl.mo (reT T ((2 : Nat) * M) (0 : Nat) i) ∧ True,
      (2 : Nat) ≤ (3 : Nat),
      CodeOk Try.prog (2 : Nat) (Code.loop (loopOf Try.f40 (0 : Nat))) (mkSt (35 : Nat) [((0 : Nat), p0), ((16 : Nat), SV.nv (NV.one (At.own (1 : Nat)))), ((17 : Nat), iA (↑M : Int)), ((18 : Nat), iA (0 : Int))] [Seg.box (78 : TypeId) [At.own (2 : Nat), At.val (Value.int IntKind.i64 n), At.val (Value.int IntKind.i64 (64 : Int))], Seg.row (80 : TypeId) (5 : Nat) M (gS T), Seg.row (80 : TypeId) (5 : Nat) ((2 : Nat) * M) (gS (reT T ((2 : Nat) * M) (0 : Nat)))]) (Ex.exit (0 : Nat)) (mkSt (35 : Nat) [] [Seg.box (78 : TypeId) [At.own (2 : Nat), At.val (Value.int IntKind.i64 n), At.val (Value.int IntKind.i64 (64 : Int))], Seg.gone, Seg.row (80 : TypeId) (5 : Nat) ((2 : Nat) * M) (gS (reT T ((2 : Nat) * M) M))]),
      n = n,
      (64 : Int) = (64 : Int),
      (2 : Nat) * M = (2 : Nat) * M,
      ∀ (i : Nat), i < (2 : Nat) * M → Sl.id (reT T ((2 : Nat) * M) M i) = Sl.id (reT T ((2 : Nat) * M) M i) ∧ Sl.us (reT T ((2 : Nat) * M) M i) = Sl.us (reT T ((2 : Nat) * M) M i) ∧ Sl.pk (reT T ((2 : Nat) * M) M i) = Sl.pk (reT T ((2 : Nat) * M) M i) ∧ Sl.bt (reT T ((2 : Nat) * M) M i) = Sl.bt (reT T ((2 : Nat) * M) M i) ∧ Sl.mo (reT T ((2 : Nat) * M) M i) = Sl.mo (reT T ((2 : Nat) * M) M i) ∧ True]) (by kernel_rfl) (.cons (by (rw [ew]; omega)) (.cons (by rfl) (.cons (by (rw [ew]; omega)) (.cons (by (rw [ew]; omega)) (.cons (by rfl) (.cons (by rfl) (.cons (by rfl) (.cons (by rfl) (.cons (by rfl) (.cons (by rfl) (.cons (by (simp; done)) (.cons (by (rw [ew, Int.toNat_natCast]; done)) (.cons (by (intro _ _; exact ⟨rfl, rfl, rfl, rfl, rfl, trivial⟩)) (.cons (by trivial) (.cons (by assumption) (.cons (by rfl) (.cons (by rfl) (.cons (by rfl) (.cons (by (simp; done)) .nil))))))))))))))))))) (Nat.le_of_ble_eq_true (by kernel_rfl))
end Go.Proofs.Ytmhkbepnankopaa

/- admit: Get, Set, grow as specifications. No condition. -/
namespace Go.Proofs.Ytmhkbepnankopaa
set_option linter.unusedVariables false
set_option linter.unusedSimpArgs false
open Go.RowKit E
theorem cnt_put_le (T : Nat → Sl) (q : Nat) (s : Sl) : ∀ M, cnt (putS T q s) M ≤ cnt T M + 1
  | 0 => by unfold cnt; omega
  | M + 1 => by
    unfold cnt
    by_cases e : M = q
    · subst e
      rw [cnt_off T M s M (Nat.le_refl _)]
      split <;> split <;> omega
    · rw [putS_ne T s e]
      have := cnt_put_le T q s M
      omega
theorem cnt_re (T : Nat → Sl) (M' : Nat) : ∀ i, cnt (reT T M' i) M' ≤ i
  | 0 => by show cnt (fun _ => sl0) M' ≤ 0; rw [cnt_sl0]; omega
  | i + 1 => by
    have h := cnt_re T M' i
    show cnt (if (T i).us = true then _ else _) M' ≤ _
    split
    · have := cnt_put_le (reT T M' i) (fd (reT T M' i) M' (T i).id) (T i) M'
      omega
    · omega
/-- What is under a number: packets, bytes, how many bytes may wait. -/
def gtP (M : Nat) (T : Nat → Sl) (id : Int) : Int := if (T (fd T M id)).us = true then (T (fd T M id)).pk else 0
def gtB (M : Nat) (T : Nat → Sl) (id : Int) : Int := if (T (fd T M id)).us = true then (T (fd T M id)).bt else 0
def gtO (M : Nat) (T : Nat → Sl) (id : Int) : Int := if (T (fd T M id)).us = true then (T (fd T M id)).mo else 0
def gtU (M : Nat) (T : Nat → Sl) (id : Int) : Bool := (T (fd T M id)).us
theorem fnGet17 {M : Nat} (n id : Int) (T : Nat → Sl) (h2 : P2 M) (hf : free M T) : FnOk Try.prog 29 [p0, u32A id] (tbR n M T) (.tup [.agg [.val (.int .i64 (gtP M T id)), .val (.int .u64 (gtB M T id)), .val (.int .u64 (gtO M T id))], .one (.val (.bool (gtU M T id)))]) [.gone, .gone] := by
  have hl := (fd_stop T id hf).1
  unfold gtP gtB gtO gtU
  by_cases e : (T (fd T M id)).us = true
  · rw [if_pos e, if_pos e, if_pos e, e]
    exact get_y M n id T h2 h2.pos hf hl e
  · rw [if_neg e, if_neg e, if_neg e, Bool.eq_false_iff.2 e]
    exact get_n M n id T h2 h2.pos hf hl (Bool.eq_false_iff.2 e)
def gGet17 : List SV → List Seg → Option (CS × List Prop)
  | [.nv (.one (.ptr h 0)), .nv (.one (.val (.int .u32 id)))], mem => match tbAt mem h with
    | some (n, M, g) => some (⟨[p0, u32A id], tbR n M (slOf g), .tup [.agg [.val (.int .i64 (gtP M (slOf g) id)), .val (.int .u64 (gtB M (slOf g) id)), .val (.int .u64 (gtO M (slOf g) id))], .one (.val (.bool (gtU M (slOf g) id)))], [.gone, .gone]⟩, [P2 M, free M (slOf g)])
    | none => none
  | _, _ => none
theorem spGet17 : SpOk Try.prog 29 (.lift gGet17) := by
  intro args mem cs obl h ho
  unfold gGet17 at h
  split at h
  · split at h
    · simp only [Option.some.injEq, Prod.mk.injEq] at h
      obtain ⟨rfl, rfl⟩ := h
      exact fnGet17 _ _ _ ho.1 ho.2.1
    · cases h
  · cases h
def setT (M : Nat) (T : Nat → Sl) (id p b o : Int) : Nat → Sl := putS T (fd T M id) ⟨(T (fd T M id)).id, true, p, b, o⟩
def gSet17 : List SV → List Seg → Option (CS × List Prop)
  | [.nv (.one (.ptr h 0)), .nv (.one (.val (.int .u32 id))), .nv (.agg [.val (.int .i64 p), .val (.int .u64 b), .val (.int .u64 o)])], mem => match tbAt mem h with
    | some (n, M, g) => some (⟨[p0, u32A id, .nv (.agg [.val (.int .i64 p), .val (.int .u64 b), .val (.int .u64 o)])], tbW n M (slOf g), bA true, tbW n M (setT M (slOf g) id p b o)⟩, [P2 M, free M (slOf g), gtU M (slOf g) id = true])
    | none => none
  | _, _ => none
theorem spSet17 : SpOk Try.prog 32 (.lift gSet17) := by
  intro args mem cs obl h ho
  unfold gSet17 at h
  split at h
  · split at h
    · simp only [Option.some.injEq, Prod.mk.injEq] at h
      obtain ⟨rfl, rfl⟩ := h
      exact set_y _ _ _ _ _ _ _ ho.1 ho.1.pos ho.2.1 (fd_stop _ _ ho.2.1).1 ho.2.2.1
    · cases h
  · cases h
theorem fnGrow (M : Nat) (n : Int) (T : Nat → Sl) (h2 : P2 (2 * M)) (h4 : M ≤ 1000000) : FnOk Try.prog 40 [p0] (tbW n M T) .any [.box 78 [.own 2, .val (.int .i64 n), .val (.int .i64 64)], .gone, .row 80 5 (2 * M) (gS (reT T (2 * M) M))] := by
  have h3 : 0 < M := by have := h2.pos; omega
  refine gr_f M n T h2 h3 h4 (w64 rfl (by omega)) ?_
  refine count_loop (P := Try.prog) (m0 := 2) (c := loopOf Try.f40 0) (n := M) (fun i => mkSt 35 [(0, p0), (16, .nv (.one (.own 1))), (17, iA M), (18, iA i)] [.box 78 [.own 2, .val (.int .i64 n), .val (.int .i64 64)], .row 80 5 M (gS T), .row 80 5 (2 * M) (gS (reT T (2 * M) i))]) (X := .exit 0) (by simp)
    (fun i hi => ?_) (gr_e M n T h4)
  cases hu : (T i).us
  · exact gr_n M i n T h4 hi hu
  · have hf : free (2 * M) (reT T (2 * M) i) := free_cnt (by have := cnt_re T (2 * M) i; omega)
    exact gr_y M i n T h2 h3 h4 hi hu hf (fd_stop _ _ hf).1
def gGrow : List SV → List Seg → Option (CS × List Prop)
  | [.nv (.one (.ptr h 0))], mem => match tbAt mem h with
    | some (n, M, g) => some (⟨[p0], tbW n M (slOf g), .any, [.box 78 [.own 2, .val (.int .i64 n), .val (.int .i64 64)], .gone, .row 80 5 (2 * M) (gS (reT (slOf g) (2 * M) M))]⟩, [P2 (2 * M), M ≤ 1000000])
    | none => none
  | _, _ => none
theorem spGrow : SpOk Try.prog 40 (.lift gGrow) := by
  intro args mem cs obl h ho
  unfold gGrow at h
  split at h
  · split at h
    · simp only [Option.some.injEq, Prod.mk.injEq] at h
      obtain ⟨rfl, rfl⟩ := h
      exact fnGrow _ _ _ ho.1 ho.2.1
    · cases h
  · cases h
def Gad2 : List (FuncId × Sp) := (29, .lift gGet17) :: (32, .lift gSet17) :: (40, .lift gGrow) :: Gad1
theorem Gad2_ok : CtxOk Try.prog Gad2 := ctx_cons (enter_of Try.func29 (by kernel_rfl) (by kernel_rfl)) spGet17 <|
  ctx_cons (enter_of Try.func32 (by kernel_rfl) (by kernel_rfl)) spSet17 <|
  ctx_cons (enter_of Try.func40 (by kernel_rfl) (by kernel_rfl)) spGrow Gad1_ok
end Go.Proofs.Ytmhkbepnankopaa

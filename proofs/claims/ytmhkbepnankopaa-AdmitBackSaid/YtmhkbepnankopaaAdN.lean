/- Runs of Go code, as printed by a program: no condition beyond those that each states. -/
import Derived.Test.YtmhkbepnankopaaAdJ
import Derived.Test.YtmhkbepnankopaaChecked
import Derived.KernelRfl
import Derived.Test.YtmhkbepnankopaaWrF
namespace Go.Proofs.Ytmhkbepnankopaa
set_option linter.unusedVariables false
set_option linter.unusedSimpArgs false
set_option maxRecDepth 100000
open Go.RowKit E
attribute [local irreducible] fd homeN reT
set_option maxHeartbeats 2000000 in
theorem put_n (M n : Nat) (id p b o : Int) (T : Nat → Sl) (h2 : P2 M) (h3 : 0 < M) (h4 : M ≤ 1000000) (hf : free M T) (hl : fd T M id < M) (hu : (T (fd T M id)).us = false) (hn : n < 64) (e1 : IntKind.wrap IntKind.i64 ((n : Int) + 1) = ((n + 1 : Nat) : Int)) (e2 : IntKind.wrap IntKind.i64 (4 * ((n + 1 : Nat) : Int)) = ((4 * (n + 1) : Nat) : Int)) (e3 : IntKind.wrap IntKind.i64 (3 * (M : Int)) = ((3 * M : Nat) : Int)) (hs : ¬ 3 * M < 4 * (n + 1)) : FnOk Try.prog 26 ([p0, u32A id, .nv (.agg [.val (.int .i64 p), .val (.int .u64 b), .val (.int .u64 o)])]) (tbW (n : Nat) M T) (iA 0) ([.box 78 [.own 2, .val (.int .i64 (n + 1 : Nat)), .val (.int .i64 64)], .gone, .row 80 5 M (gS (putS T (fd T M id) ⟨id, true, p, b, o⟩))]) :=
  fn_run Gad2_ok Try.func26 (orc := ⟨[false, false, false, false], []⟩) (obl := [(0 : Nat) < M,
      (0 : Nat) = (0 : Nat),
      (↑n : Int) = (↑n : Int),
      (64 : Int) = (64 : Int),
      M = M,
      ∀ (i : Nat), i < M → Sl.id (T i) = Sl.id (slOf (gS T) i) ∧ Sl.us (T i) = Sl.us (slOf (gS T) i) ∧ Sl.pk (T i) = Sl.pk (slOf (gS T) i) ∧ Sl.bt (T i) = Sl.bt (slOf (gS T) i) ∧ Sl.mo (T i) = Sl.mo (slOf (gS T) i) ∧ True,
      (!true) = false,
      P2 M,
      free M (slOf (gS T)),
      (0 : Nat) = (0 : Nat),
      id = id,
      (↑n : Int) = (↑n : Int),
      (64 : Int) = (64 : Int),
      M = M,
      ∀ (i : Nat), i < M → Sl.id (T i) = Sl.id (slOf (gS T) i) ∧ Sl.us (T i) = Sl.us (slOf (gS T) i) ∧ Sl.pk (T i) = Sl.pk (slOf (gS T) i) ∧ Sl.bt (T i) = Sl.bt (slOf (gS T) i) ∧ Sl.mo (T i) = Sl.mo (slOf (gS T) i) ∧ True,
      (0 : Int) ≤ (↑(fd (slOf (gS T)) M id) : Int),
      (↑(fd (slOf (gS T)) M id) : Int) < (↑M : Int),
      Int.toNat (↑(fd (slOf (gS T)) M id) : Int) < M,
      Sl.us (T (Int.toNat (↑(fd (slOf (gS T)) M id) : Int))) = false,
      decide ((↑n : Int) ≥ (64 : Int)) = false,
      decide (IntKind.wrap IntKind.i64 ((4 : Int) * IntKind.wrap IntKind.i64 ((↑n : Int) + (1 : Int))) > IntKind.wrap IntKind.i64 ((3 : Int) * (↑M : Int))) = false,
      P2 M,
      free M (slOf (gS T)),
      (0 : Nat) = (0 : Nat),
      id = id,
      (↑n : Int) = (↑n : Int),
      (64 : Int) = (64 : Int),
      M = M,
      ∀ (i : Nat), i < M → Sl.id (T i) = Sl.id (slOf (gS T) i) ∧ Sl.us (T i) = Sl.us (slOf (gS T) i) ∧ Sl.pk (T i) = Sl.pk (slOf (gS T) i) ∧ Sl.bt (T i) = Sl.bt (slOf (gS T) i) ∧ Sl.mo (T i) = Sl.mo (slOf (gS T) i) ∧ True,
      (0 : Int) ≤ (↑(fd (slOf (gS T)) M id) : Int),
      (↑(fd (slOf (gS T)) M id) : Int) < (↑M : Int),
      Int.toNat (↑(fd (slOf (gS T)) M id) : Int) < M,
      (0 : Int) = (0 : Int),
      IntKind.wrap IntKind.i64 ((↑n : Int) + (1 : Int)) = (↑(n + (1 : Nat)) : Int),
      (64 : Int) = (64 : Int),
      M = M,
      ∀ (i : Nat), i < M → AllT (leAts ([(nat_lit 1, Bd.same (nat_lit 1)), (nat_lit 0, Bd.same (nat_lit 0))] ++ ([] ++ []) ++ ([] ++ ([((2 : Nat), Bd.same (1 : Nat))] ++ ([] ++ ([] ++ [])) ++ []) ++ ([] ++ [] ++ []))) (3 : Nat) (if i = Int.toNat (↑(fd (slOf (gS T)) M id) : Int) then List.take (0 : Nat) (gS T (Int.toNat (↑(fd (slOf (gS T)) M id) : Int))) ++ [At.val (Value.int IntKind.u32 id), At.val (Value.bool true), At.val (Value.int IntKind.i64 p), At.val (Value.int IntKind.u64 b), At.val (Value.int IntKind.u64 o)] ++ List.drop (5 : Nat) (gS T (Int.toNat (↑(fd (slOf (gS T)) M id) : Int))) else gS T i) (gS (putS T (fd T M id) { id := id, us := true, pk := p, bt := b, mo := o }) i))]) (by kernel_rfl) (.cons (by assumption) (.cons (by rfl) (.cons (by rfl) (.cons (by rfl) (.cons (by rfl) (.cons (by (intro _ _; exact ⟨rfl, rfl, rfl, rfl, rfl, trivial⟩)) (.cons (by rfl) (.cons (by assumption) (.cons (by assumption) (.cons (by rfl) (.cons (by rfl) (.cons (by rfl) (.cons (by rfl) (.cons (by rfl) (.cons (by (intro _ _; exact ⟨rfl, rfl, rfl, rfl, rfl, trivial⟩)) (.cons (by omega) (.cons (by exact Int.ofNat_lt.2 hl) (.cons (by assumption) (.cons (by assumption) (.cons (by exact decide_eq_false (by omega)) (.cons (by (rw [e1, e2, e3]; exact decide_eq_false (by omega))) (.cons (by assumption) (.cons (by assumption) (.cons (by rfl) (.cons (by rfl) (.cons (by rfl) (.cons (by rfl) (.cons (by rfl) (.cons (by (intro _ _; exact ⟨rfl, rfl, rfl, rfl, rfl, trivial⟩)) (.cons (by omega) (.cons (by exact Int.ofNat_lt.2 hl) (.cons (by assumption) (.cons (by rfl) (.cons (by assumption) (.cons (by rfl) (.cons (by rfl) (.cons (by (refine leG_eq (fun j hj => (put_eq2 j).symm) (fun _ _ => rfl))) .nil))))))))))))))))))))))))))))))))))))) (Nat.le_of_ble_eq_true (by kernel_rfl))

set_option maxHeartbeats 2000000 in
theorem put_g (M n : Nat) (id p b o : Int) (T : Nat → Sl) (h2 : P2 M) (h3 : 0 < M) (h4 : M ≤ 1000000) (hf : free M T) (hl : fd T M id < M) (hu : (T (fd T M id)).us = false) (hn : n < 64) (e1 : IntKind.wrap IntKind.i64 ((n : Int) + 1) = ((n + 1 : Nat) : Int)) (e2 : IntKind.wrap IntKind.i64 (4 * ((n + 1 : Nat) : Int)) = ((4 * (n + 1) : Nat) : Int)) (e3 : IntKind.wrap IntKind.i64 (3 * (M : Int)) = ((3 * M : Nat) : Int)) (hs : 3 * M < 4 * (n + 1)) (k2 : P2 (2 * M)) (kf : free (2 * M) (reT T (2 * M) M)) (kl : fd (reT T (2 * M) M) (2 * M) id < 2 * M) : FnOk Try.prog 26 ([p0, u32A id, .nv (.agg [.val (.int .i64 p), .val (.int .u64 b), .val (.int .u64 o)])]) (tbW (n : Nat) M T) (iA 0) ([.box 78 [.own 2, .val (.int .i64 (n + 1 : Nat)), .val (.int .i64 64)], .gone, .row 80 5 (2 * M) (gS (putS (reT T (2 * M) M) (fd (reT T (2 * M) M) (2 * M) id) ⟨id, true, p, b, o⟩))]) :=
  fn_run Gad2_ok Try.func26 (orc := ⟨[false, false, false, true], []⟩) (obl := [(0 : Nat) < M,
      (0 : Nat) = (0 : Nat),
      (↑n : Int) = (↑n : Int),
      (64 : Int) = (64 : Int),
      M = M,
      ∀ (i : Nat), i < M → Sl.id (T i) = Sl.id (slOf (gS T) i) ∧ Sl.us (T i) = Sl.us (slOf (gS T) i) ∧ Sl.pk (T i) = Sl.pk (slOf (gS T) i) ∧ Sl.bt (T i) = Sl.bt (slOf (gS T) i) ∧ Sl.mo (T i) = Sl.mo (slOf (gS T) i) ∧ True,
      (!true) = false,
      P2 M,
      free M (slOf (gS T)),
      (0 : Nat) = (0 : Nat),
      id = id,
      (↑n : Int) = (↑n : Int),
      (64 : Int) = (64 : Int),
      M = M,
      ∀ (i : Nat), i < M → Sl.id (T i) = Sl.id (slOf (gS T) i) ∧ Sl.us (T i) = Sl.us (slOf (gS T) i) ∧ Sl.pk (T i) = Sl.pk (slOf (gS T) i) ∧ Sl.bt (T i) = Sl.bt (slOf (gS T) i) ∧ Sl.mo (T i) = Sl.mo (slOf (gS T) i) ∧ True,
      (0 : Int) ≤ (↑(fd (slOf (gS T)) M id) : Int),
      (↑(fd (slOf (gS T)) M id) : Int) < (↑M : Int),
      Int.toNat (↑(fd (slOf (gS T)) M id) : Int) < M,
      Sl.us (T (Int.toNat (↑(fd (slOf (gS T)) M id) : Int))) = false,
      decide ((↑n : Int) ≥ (64 : Int)) = false,
      decide (IntKind.wrap IntKind.i64 ((4 : Int) * IntKind.wrap IntKind.i64 ((↑n : Int) + (1 : Int))) > IntKind.wrap IntKind.i64 ((3 : Int) * (↑M : Int))) = true,
      P2 ((2 : Nat) * M),
      M ≤ (1000000 : Nat),
      (0 : Nat) = (0 : Nat),
      (↑n : Int) = (↑n : Int),
      (64 : Int) = (64 : Int),
      M = M,
      ∀ (i : Nat), i < M → Sl.id (T i) = Sl.id (slOf (gS T) i) ∧ Sl.us (T i) = Sl.us (slOf (gS T) i) ∧ Sl.pk (T i) = Sl.pk (slOf (gS T) i) ∧ Sl.bt (T i) = Sl.bt (slOf (gS T) i) ∧ Sl.mo (T i) = Sl.mo (slOf (gS T) i) ∧ True,
      ∀ (i : Nat), i < (2 : Nat) * M → (true && (true && (true && (true && (true && true))))) = true,
      P2 ((2 : Nat) * M),
      free ((2 : Nat) * M) (slOf (gS (reT (slOf (gS T)) ((2 : Nat) * M) M))),
      (0 : Nat) = (0 : Nat),
      id = id,
      (↑n : Int) = (↑n : Int),
      (64 : Int) = (64 : Int),
      (2 : Nat) * M = (2 : Nat) * M,
      ∀ (i : Nat), i < (2 : Nat) * M → Sl.id (reT (slOf (gS T)) ((2 : Nat) * M) M i) = Sl.id (slOf (gS (reT (slOf (gS T)) ((2 : Nat) * M) M)) i) ∧ Sl.us (reT (slOf (gS T)) ((2 : Nat) * M) M i) = Sl.us (slOf (gS (reT (slOf (gS T)) ((2 : Nat) * M) M)) i) ∧ Sl.pk (reT (slOf (gS T)) ((2 : Nat) * M) M i) = Sl.pk (slOf (gS (reT (slOf (gS T)) ((2 : Nat) * M) M)) i) ∧ Sl.bt (reT (slOf (gS T)) ((2 : Nat) * M) M i) = Sl.bt (slOf (gS (reT (slOf (gS T)) ((2 : Nat) * M) M)) i) ∧ Sl.mo (reT (slOf (gS T)) ((2 : Nat) * M) M i) = Sl.mo (slOf (gS (reT (slOf (gS T)) ((2 : Nat) * M) M)) i) ∧ True,
      (0 : Int) ≤ (↑(fd (slOf (gS (reT (slOf (gS T)) ((2 : Nat) * M) M))) ((2 : Nat) * M) id) : Int),
      (↑(fd (slOf (gS (reT (slOf (gS T)) ((2 : Nat) * M) M))) ((2 : Nat) * M) id) : Int) < (↑((2 : Nat) * M) : Int),
      Int.toNat (↑(fd (slOf (gS (reT (slOf (gS T)) ((2 : Nat) * M) M))) ((2 : Nat) * M) id) : Int) < (2 : Nat) * M,
      (0 : Int) = (0 : Int),
      IntKind.wrap IntKind.i64 ((↑n : Int) + (1 : Int)) = (↑(n + (1 : Nat)) : Int),
      (64 : Int) = (64 : Int),
      (2 : Nat) * M = (2 : Nat) * M,
      ∀ (i : Nat), i < (2 : Nat) * M → AllT (leAts ([(nat_lit 1, Bd.same (nat_lit 1)), (nat_lit 0, Bd.same (nat_lit 0))] ++ ([] ++ []) ++ ([] ++ ([((2 : Nat), Bd.same (4 : Nat))] ++ ([] ++ ([] ++ [])) ++ []) ++ ([] ++ [] ++ []))) (3 : Nat) (if i = Int.toNat (↑(fd (slOf (gS (reT (slOf (gS T)) ((2 : Nat) * M) M))) ((2 : Nat) * M) id) : Int) then List.take (0 : Nat) (gS (reT (slOf (gS T)) ((2 : Nat) * M) M) (Int.toNat (↑(fd (slOf (gS (reT (slOf (gS T)) ((2 : Nat) * M) M))) ((2 : Nat) * M) id) : Int))) ++ [At.val (Value.int IntKind.u32 id), At.val (Value.bool true), At.val (Value.int IntKind.i64 p), At.val (Value.int IntKind.u64 b), At.val (Value.int IntKind.u64 o)] ++ List.drop (5 : Nat) (gS (reT (slOf (gS T)) ((2 : Nat) * M) M) (Int.toNat (↑(fd (slOf (gS (reT (slOf (gS T)) ((2 : Nat) * M) M))) ((2 : Nat) * M) id) : Int))) else gS (reT (slOf (gS T)) ((2 : Nat) * M) M) i) (gS (putS (reT T ((2 : Nat) * M) M) (fd (reT T ((2 : Nat) * M) M) ((2 : Nat) * M) id) { id := id, us := true, pk := p, bt := b, mo := o }) i))]) (by kernel_rfl) (.cons (by assumption) (.cons (by rfl) (.cons (by rfl) (.cons (by rfl) (.cons (by rfl) (.cons (by (intro _ _; exact ⟨rfl, rfl, rfl, rfl, rfl, trivial⟩)) (.cons (by rfl) (.cons (by assumption) (.cons (by assumption) (.cons (by rfl) (.cons (by rfl) (.cons (by rfl) (.cons (by rfl) (.cons (by rfl) (.cons (by (intro _ _; exact ⟨rfl, rfl, rfl, rfl, rfl, trivial⟩)) (.cons (by omega) (.cons (by exact Int.ofNat_lt.2 hl) (.cons (by assumption) (.cons (by assumption) (.cons (by exact decide_eq_false (by omega)) (.cons (by (rw [e1, e2, e3]; exact decide_eq_true (by omega))) (.cons (by assumption) (.cons (by assumption) (.cons (by rfl) (.cons (by rfl) (.cons (by rfl) (.cons (by rfl) (.cons (by (intro _ _; exact ⟨rfl, rfl, rfl, rfl, rfl, trivial⟩)) (.cons (by (intro _ _; rfl)) (.cons (by assumption) (.cons (by assumption) (.cons (by rfl) (.cons (by rfl) (.cons (by rfl) (.cons (by rfl) (.cons (by rfl) (.cons (by (intro _ _; exact ⟨rfl, rfl, rfl, rfl, rfl, trivial⟩)) (.cons (by omega) (.cons (by exact Int.ofNat_lt.2 kl) (.cons (by assumption) (.cons (by rfl) (.cons (by assumption) (.cons (by rfl) (.cons (by rfl) (.cons (by (refine leG_eq (fun j hj => (put_eq2 j).symm) (fun _ _ => rfl))) .nil))))))))))))))))))))))))))))))))))))))))))))) (Nat.le_of_ble_eq_true (by kernel_rfl))

set_option maxHeartbeats 2000000 in
theorem plus17 (p b n : Int) : PureOk Try.prog 41 ([.nv (.agg [.val (.int .i64 p), .val (.int .u64 b)]), uA n]) (.nv (.agg [.val (.int .i64 (IntKind.wrap .i64 (p + 1))), .val (.int .u64 (IntKind.wrap .u64 (b + n)))])) :=
  pure_run G0_ok Try.func41 (orc := ⟨[], []⟩) (obl := [IntKind.wrap IntKind.i64 (p + (1 : Int)) = IntKind.wrap IntKind.i64 (p + (1 : Int)),
      IntKind.wrap IntKind.u64 (b + n) = IntKind.wrap IntKind.u64 (b + n)]) (by kernel_rfl) (.cons (by rfl) (.cons (by rfl) .nil))

set_option maxHeartbeats 2000000 in
theorem less17 (p b n : Int) : PureOk Try.prog 31 ([.nv (.agg [.val (.int .i64 p), .val (.int .u64 b)]), uA n]) (.nv (.agg [.val (.int .i64 (IntKind.wrap .i64 (p - 1))), .val (.int .u64 (IntKind.wrap .u64 (b - n)))])) :=
  pure_run G0_ok Try.func31 (orc := ⟨[], []⟩) (obl := [IntKind.wrap IntKind.i64 (p - (1 : Int)) = IntKind.wrap IntKind.i64 (p - (1 : Int)),
      IntKind.wrap IntKind.u64 (b - n) = IntKind.wrap IntKind.u64 (b - n)]) (by kernel_rfl) (.cons (by rfl) (.cons (by rfl) .nil))
end Go.Proofs.Ytmhkbepnankopaa

/- admit: Put, plus, less as specifications. No condition. -/
namespace Go.Proofs.Ytmhkbepnankopaa
set_option linter.unusedVariables false
set_option linter.unusedSimpArgs false
open Go.RowKit E
/-- How many slots there are ahead of a Put, and what they hold. -/
def mM (n M : Nat) : Nat := if 3 * M < 4 * (n + 1) then 2 * M else M
def mT (n M : Nat) (T : Nat → Sl) : Nat → Sl := if 3 * M < 4 * (n + 1) then reT T (2 * M) M else T
def putT (n M : Nat) (T : Nat → Sl) (id p b o : Int) : Nat → Sl := putS (mT n M T) (fd (mT n M T) (mM n M) id) ⟨id, true, p, b, o⟩
abbrev tbP (n M : Nat) (T : Nat → Sl) (id p b o : Int) : List Seg := [.box 78 [.own 2, .val (.int .i64 (n + 1 : Nat)), .val (.int .i64 64)], .gone, .row 80 5 (mM n M) (gS (putT n M T id p b o))]
theorem fnPut17 {M n : Nat} (id p b o : Int) (T : Nat → Sl) (h2 : P2 M) (h4 : M ≤ 1000) (hf : free M T) (hu : (T (fd T M id)).us = false) (hn : n < 64) : FnOk Try.prog 26 [p0, u32A id, .nv (.agg [.val (.int .i64 p), .val (.int .u64 b), .val (.int .u64 o)])] (tbW (n : Nat) M T) (iA 0) (tbP n M T id p b o) := by
  have hl := (fd_stop T id hf).1
  have e1 : IntKind.wrap IntKind.i64 ((n : Int) + 1) = ((n + 1 : Nat) : Int) := w64 rfl (by omega)
  have e2 : IntKind.wrap IntKind.i64 (4 * ((n + 1 : Nat) : Int)) = ((4 * (n + 1) : Nat) : Int) := w64 (by omega) (by omega)
  have e3 : IntKind.wrap IntKind.i64 (3 * (M : Int)) = ((3 * M : Nat) : Int) := w64 (by omega) (by omega)
  unfold tbP putT mM mT
  by_cases hs : 3 * M < 4 * (n + 1)
  · rw [if_pos hs, if_pos hs]
    have k2 : P2 (2 * M) := by
      obtain ⟨m, e, hm⟩ := h2
      refine ⟨m + 1, by rw [Nat.pow_succ, ← e]; omega, ?_⟩
      apply Classical.byContradiction
      intro q
      have : m = 20 := by omega
      subst this
      omega
    have kf : free (2 * M) (reT T (2 * M) M) := free_cnt (by have := cnt_re T (2 * M) M; have := h2.pos; omega)
    exact put_g M n id p b o T h2 h2.pos (by omega) hf hl hu hn e1 e2 e3 hs k2 kf (fd_stop _ _ kf).1
  · rw [if_neg hs, if_neg hs]
    exact put_n M n id p b o T h2 h2.pos (by omega) hf hl hu hn e1 e2 e3 hs
def gPut17 : List SV → List Seg → Option (CS × List Prop)
  | [.nv (.one (.ptr h 0)), .nv (.one (.val (.int .u32 id))), .nv (.agg [.val (.int .i64 p), .val (.int .u64 b), .val (.int .u64 o)])], mem => match tbAt mem h with
    | some (n, M, g) => some (⟨[p0, u32A id, .nv (.agg [.val (.int .i64 p), .val (.int .u64 b), .val (.int .u64 o)])], tbW (n.toNat : Nat) M (slOf g), iA 0, tbP n.toNat M (slOf g) id p b o⟩, [P2 M, M ≤ 1000, free M (slOf g), (slOf g (fd (slOf g) M id)).us = false, n.toNat < 64])
    | none => none
  | _, _ => none
theorem spPut17 : SpOk Try.prog 26 (.lift gPut17) := by
  intro args mem cs obl h ho
  unfold gPut17 at h
  split at h
  · split at h
    · simp only [Option.some.injEq, Prod.mk.injEq] at h
      obtain ⟨rfl, rfl⟩ := h
      obtain ⟨o1, o2, o3, o4, o5, _⟩ := ho
      exact fnPut17 _ _ _ _ _ o1 o2 o3 o4 o5
    · cases h
  · cases h
def gPlus17 : List SV → Option (SV × List Prop)
  | [.nv (.agg [.val (.int .i64 p), .val (.int .u64 b)]), .nv (.one (.val (.int .u64 n)))] => some (.nv (.agg [.val (.int .i64 (IntKind.wrap .i64 (p + 1))), .val (.int .u64 (IntKind.wrap .u64 (b + n)))]), [])
  | _ => none
theorem spPlus17 : SpOk Try.prog 41 (pureS gPlus17) := pureS_ok (by
  intro args r obl h ho
  unfold gPlus17 at h
  split at h
  · simp only [Option.some.injEq, Prod.mk.injEq] at h
    obtain ⟨rfl, rfl⟩ := h
    exact ⟨rfl, rfl, plus17 _ _ _⟩
  · cases h)
def gLess17 : List SV → Option (SV × List Prop)
  | [.nv (.agg [.val (.int .i64 p), .val (.int .u64 b)]), .nv (.one (.val (.int .u64 n)))] => some (.nv (.agg [.val (.int .i64 (IntKind.wrap .i64 (p - 1))), .val (.int .u64 (IntKind.wrap .u64 (b - n)))]), [])
  | _ => none
theorem spLess17 : SpOk Try.prog 31 (pureS gLess17) := pureS_ok (by
  intro args r obl h ho
  unfold gLess17 at h
  split at h
  · simp only [Option.some.injEq, Prod.mk.injEq] at h
    obtain ⟨rfl, rfl⟩ := h
    exact ⟨rfl, rfl, less17 _ _ _⟩
  · cases h)
def Gad3 : List (FuncId × Sp) := (26, .lift gPut17) :: (41, pureS gPlus17) :: (31, pureS gLess17) :: (42, pureS gLen64) :: Gad2
theorem Gad3_ok : CtxOk Try.prog Gad3 := ctx_cons (enter_of Try.func26 (by kernel_rfl) (by kernel_rfl)) spPut17 <|
  ctx_cons (enter_of Try.func41 (by kernel_rfl) (by kernel_rfl)) spPlus17 <|
  ctx_cons (enter_of Try.func31 (by kernel_rfl) (by kernel_rfl)) spLess17 <|
  ctx_cons (enter_of Try.func42 (by kernel_rfl) (by kernel_rfl)) spLen64 Gad2_ok
end Go.Proofs.Ytmhkbepnankopaa

/- Runs of Go code, as printed by a program: no condition beyond those that each states. -/
namespace Go.Proofs.Ytmhkbepnankopaa
set_option linter.unusedVariables false
set_option linter.unusedSimpArgs false
set_option maxRecDepth 100000
open Go.RowKit E
attribute [local irreducible] fd homeN reT capU
set_option maxHeartbeats 2000000 in
theorem sh_z (n : Nat) : PureOk Try.prog 30 ([uA 0, iA n]) (uA 0) :=
  pure_run Gad3_ok Try.func30 (orc := ⟨[true, true], []⟩) (obl := [((0 : Int) == (0 : Int)) = true,
      true = true,
      (0 : Int) = (0 : Int)]) (by kernel_rfl) (.cons (by rfl) (.cons (by rfl) (.cons (by rfl) .nil)))

set_option maxHeartbeats 2000000 in
theorem sh_0 (a : Int) (h : a ≠ 0) : PureOk Try.prog 30 ([uA a, iA 0]) (uA a) :=
  pure_run Gad3_ok Try.func30 (orc := ⟨[false, true], []⟩) (obl := [(a == (0 : Int)) = false,
      decide ((0 : Int) ≤ (0 : Int)) = true,
      a = a]) (by kernel_rfl) (.cons (by exact decide_eq_false (by omega)) (.cons (by rfl) (.cons (by rfl) .nil)))

set_option maxHeartbeats 2000000 in
theorem sh_m (a : Int) (n : Nat) (h : a ≠ 0) (hn : 0 < n) (hn2 : n ≤ 16) (h1 : 0 ≤ a) (h2 : a ≤ 18446744073709551615) (eb : IntKind.wrap IntKind.i64 ((Lib.bitLen a.toNat : Nat) + (n : Int)) = ((Lib.bitLen a.toNat + n : Nat) : Int)) (hb : 64 < Lib.bitLen a.toNat + n) : PureOk Try.prog 30 ([uA a, iA n]) (uA 18446744073709551615) :=
  pure_run Gad3_ok Try.func30 (orc := ⟨[false, false, false, true], []⟩) (obl := [(a == (0 : Int)) = false,
      decide ((↑n : Int) ≤ (0 : Int)) = false,
      decide ((↑n : Int) ≥ (64 : Int)) = false,
      (0 : Int) ≤ a,
      a ≤ (18446744073709551615 : Int),
      decide (IntKind.wrap IntKind.i64 ((↑(Lib.bitLen (Int.toNat a)) : Int) + (↑n : Int)) > (64 : Int)) = true,
      (18446744073709551615 : Int) = (18446744073709551615 : Int)]) (by kernel_rfl) (.cons (by exact decide_eq_false (by omega)) (.cons (by exact decide_eq_false (by omega)) (.cons (by exact decide_eq_false (by omega)) (.cons (by assumption) (.cons (by assumption) (.cons (by (rw [eb]; exact decide_eq_true (by omega))) (.cons (by rfl) .nil)))))))

set_option maxHeartbeats 2000000 in
theorem sh_y (a : Int) (n : Nat) (h : a ≠ 0) (hn : 0 < n) (hn2 : n ≤ 16) (h1 : 0 ≤ a) (h2 : a ≤ 18446744073709551615) (eb : IntKind.wrap IntKind.i64 ((Lib.bitLen a.toNat : Nat) + (n : Int)) = ((Lib.bitLen a.toNat + n : Nat) : Int)) (hb : ¬ 64 < Lib.bitLen a.toNat + n) (ev : IntKind.wrap IntKind.u64 (a * (2 : Int) ^ min (Int.toNat (n : Int)) (IntKind.bits IntKind.u64)) = a * (2 : Int) ^ n) : PureOk Try.prog 30 ([uA a, iA n]) (uA (a * 2 ^ n)) :=
  pure_run Gad3_ok Try.func30 (orc := ⟨[false, false, false, false], []⟩) (obl := [(a == (0 : Int)) = false,
      decide ((↑n : Int) ≤ (0 : Int)) = false,
      decide ((↑n : Int) ≥ (64 : Int)) = false,
      (0 : Int) ≤ a,
      a ≤ (18446744073709551615 : Int),
      decide (IntKind.wrap IntKind.i64 ((↑(Lib.bitLen (Int.toNat a)) : Int) + (↑n : Int)) > (64 : Int)) = false,
      (0 : Int) ≤ (↑n : Int),
      IntKind.wrap IntKind.u64 (a * (2 : Int) ^ min (Int.toNat (↑n : Int)) (IntKind.bits IntKind.u64)) = a * (2 : Int) ^ n]) (by kernel_rfl) (.cons (by exact decide_eq_false (by omega)) (.cons (by exact decide_eq_false (by omega)) (.cons (by exact decide_eq_false (by omega)) (.cons (by assumption) (.cons (by assumption) (.cons (by (rw [eb]; exact decide_eq_false (by omega))) (.cons (by omega) (.cons (by assumption) .nil))))))))

set_option maxHeartbeats 2000000 in
theorem rsh_n (a b c : Int) (n i : Nat) (hn : n ≤ 16) (hi : i < n) (h1 : 0 ≤ a) (h2 : a ≤ 18446744073709551615) (hc : c = capU (a + a)) : CodeOk Try.prog 0 (loopOf Try.f37 0) (mkSt 19 [(0, uA a), (1, iA n), (5, iA i)] []) .normal (mkSt 19 [(0, uA c), (1, iA n), (5, iA (i + 1 : Nat))] []) :=
  code_run Gad3_ok (orc := ⟨[true, true], []⟩) (obl := [decide ((↑i : Int) < (↑n : Int)) = true,
      decide ((↑i : Int) < (64 : Int)) = true,
      (0 : Int) ≤ a,
      a ≤ (18446744073709551615 : Int),
      (0 : Int) ≤ a,
      a ≤ (18446744073709551615 : Int),
      capU (a + a) = c,
      (↑n : Int) = (↑n : Int),
      IntKind.wrap IntKind.i64 ((↑i : Int) + (1 : Int)) = (↑(i + (1 : Nat)) : Int)]) (by kernel_rfl) (.cons (by exact decide_eq_true (by omega)) (.cons (by exact decide_eq_true (by omega)) (.cons (by assumption) (.cons (by assumption) (.cons (by assumption) (.cons (by assumption) (.cons (by exact hc.symm) (.cons (by rfl) (.cons (by exact w64 (by omega) (by omega)) .nil))))))))) (Nat.le_of_ble_eq_true (by kernel_rfl))

set_option maxHeartbeats 2000000 in
theorem rsh_e (a : Int) (n : Nat) (hn : n ≤ 16) : CodeOk Try.prog 0 (loopOf Try.f37 0) (mkSt 19 [(0, uA a), (1, iA n), (5, iA n)] []) (.exit 0) (mkSt 19 [(0, uA a)] []) :=
  code_run Gad3_ok (orc := ⟨[false, false], []⟩) (obl := [decide ((↑n : Int) < (↑n : Int)) = false,
      false = false,
      a = a]) (by kernel_rfl) (.cons (by exact decide_eq_false (by omega)) (.cons (by rfl) (.cons (by rfl) .nil))) (Nat.le_of_ble_eq_true (by kernel_rfl))

set_option maxHeartbeats 2000000 in
theorem rsh_f (a b : Int) (n : Nat) (hn : n ≤ 16) (l : CodeOk Try.prog 0 (.loop (loopOf Try.f37 0)) (mkSt 19 [(0, uA a), (1, iA n), (5, iA 0)] []) (.exit 0) (mkSt 19 [(0, uA b)] [])) : FnOk Try.prog 37 ([uA a, iA n]) ([]) (uA b) ([]) :=
  fn_run Gad3_ok Try.func37 (orc := ⟨[], [⟨mkSt 19 [(0, uA a), (1, iA n), (5, iA 0)] [], .exit 0, mkSt 19 [(0, uA b)] []⟩]⟩) (obl := [a = a,
      (↑n : Int) = (↑n : Int),
      (0 : Int) = (0 : Int),
      (0 : Nat) ≤ (0 : Nat),
      CodeOk Try.prog (0 : Nat) (Code.loop (loopOf Try.f37 (0 : Nat))) (mkSt (19 : Nat) [((0 : Nat), uA a), ((1 : Nat), iA (↑n : Int)), ((5 : Nat), iA (0 : Int))] []) (Ex.exit (0 : Nat)) (mkSt (19 : Nat) [((0 : Nat), uA b)] []),
      b = b]) (by kernel_rfl) (.cons (by rfl) (.cons (by rfl) (.cons (by rfl) (.cons (by trivial) (.cons (by assumption) (.cons (by rfl) .nil)))))) (Nat.le_of_ble_eq_true (by kernel_rfl))
end Go.Proofs.Ytmhkbepnankopaa

/- admit: both Shifts as specifications. No condition. -/
namespace Go.Proofs.Ytmhkbepnankopaa
set_option linter.unusedVariables false
set_option linter.unusedSimpArgs false
open Go.RowKit E
/-- A number doubled some times, capped. -/
def shU (a : Int) (n : Nat) : Int := capU (a * 2 ^ n)
theorem shU_s {a : Int} (n : Nat) (h1 : 0 ≤ a) : capU (shU a n + shU a n) = shU a (n + 1) := by
  unfold shU
  rw [Int.pow_succ]
  have : 0 ≤ a * 2 ^ n := Int.mul_nonneg h1 (Int.pow_nonneg (by omega))
  generalize e : a * 2 ^ n = x at this
  have e2 : a * (2 ^ n * 2) = x * 2 := by rw [← e, Int.mul_assoc]
  rw [e2]
  unfold capU
  (repeat' split) <;> omega
theorem shU_bd {a : Int} (n : Nat) (h1 : 0 ≤ a) : 0 ≤ shU a n ∧ shU a n ≤ 18446744073709551615 := capU_bd (Int.mul_nonneg h1 (Int.pow_nonneg (by omega)))
theorem shU_0 {a : Int} (h1 : 0 ≤ a) (h2 : a ≤ 18446744073709551615) : shU a 0 = a := by
  unfold shU capU
  rw [Int.pow_zero, Int.mul_one, if_pos h2]
theorem pureShift {a : Int} {n : Nat} (h1 : 0 ≤ a) (h2 : a ≤ 18446744073709551615) (hn : n ≤ 16) : PureOk Try.prog 30 [uA a, iA n] (uA (shU a n)) := by
  by_cases h : a = 0
  · subst h
    have : shU 0 n = 0 := by unfold shU capU; rw [Int.zero_mul]; rfl
    rw [this]
    exact sh_z n
  by_cases h0 : n = 0
  · subst h0
    rw [shU_0 h1 h2]
    exact sh_0 a h
  have hl : Lib.bitLen a.toNat ≤ 64 := (bl_le 64 (by omega)).2 (by omega)
  have eb : IntKind.wrap IntKind.i64 ((Lib.bitLen a.toNat : Nat) + (n : Int)) = ((Lib.bitLen a.toNat + n : Nat) : Int) := w64 (by omega) (by omega)
  have hp : (2 : Nat) ^ 64 = 2 ^ (64 - n) * 2 ^ n := by rw [← Nat.pow_add]; congr 1; omega
  have ea : a * 2 ^ n = ((a.toNat * 2 ^ n : Nat) : Int) := by
    rw [Int.natCast_mul, Int.natCast_pow, Int.toNat_of_nonneg h1]; rfl
  have hpp : 0 < 2 ^ n := Nat.two_pow_pos n
  by_cases hb : 64 < Lib.bitLen a.toNat + n
  · have hx : ¬ a.toNat < 2 ^ (64 - n) := by rw [← bl_le (64 - n) (by omega)]; omega
    have : shU a n = 18446744073709551615 := by
      unfold shU capU
      rw [ea, if_neg]
      have : 2 ^ (64 - n) * 2 ^ n ≤ a.toNat * 2 ^ n := Nat.mul_le_mul_right _ (by omega)
      omega
    rw [this]
    exact sh_m a n h (by omega) hn h1 h2 eb hb
  · have hx : a.toNat < 2 ^ (64 - n) := by rw [← bl_le (64 - n) (by omega)]; omega
    have hy : a.toNat * 2 ^ n < 2 ^ 64 := by rw [hp]; exact Nat.mul_lt_mul_of_pos_right hx hpp
    have : shU a n = a * 2 ^ n := by
      unfold shU capU
      rw [ea, if_pos (by omega)]
    rw [this]
    refine sh_y a n h (by omega) hn h1 h2 eb hb ?_
    have : min (Int.toNat (n : Int)) (IntKind.bits IntKind.u64) = n := by
      rw [Int.toNat_natCast]; exact Nat.min_eq_left (by show n ≤ 64; omega)
    rw [this, ea]
    show ((a.toNat * 2 ^ n : Nat) : Int) % 18446744073709551616 = _
    omega
def gShift17 : List SV → Option (SV × List Prop)
  | [.nv (.one (.val (.int .u64 a))), .nv (.one (.val (.int .i64 n)))] => some (uA (shU a n.toNat), [0 ≤ a, a ≤ 18446744073709551615, 0 ≤ n, n.toNat ≤ 16])
  | _ => none
theorem spShift17 : SpOk Try.prog 30 (pureS gShift17) := pureS_ok (by
  intro args r obl h ho
  unfold gShift17 at h
  split at h
  · rename_i a n
    simp only [Option.some.injEq, Prod.mk.injEq] at h
    obtain ⟨rfl, rfl⟩ := h
    obtain ⟨o1, o2, o3, o4, _⟩ := ho
    obtain ⟨k, rfl⟩ : ∃ k : Nat, n = k := ⟨n.toNat, by omega⟩
    rw [Int.toNat_natCast] at o4 ⊢
    exact ⟨rfl, rfl, pureShift o1 o2 o4⟩
  · cases h)
theorem fnRsh {a : Int} {n : Nat} (h1 : 0 ≤ a) (h2 : a ≤ 18446744073709551615) (hn : n ≤ 16) : FnOk Try.prog 37 [uA a, iA n] [] (uA (shU a n)) [] := by
  refine rsh_f a (shU a n) n hn ?_
  have := count_loop (P := Try.prog) (m0 := 0) (c := loopOf Try.f37 0) (n := n) (fun i => mkSt 19 [(0, uA (shU a i)), (1, iA n), (5, iA i)] []) (X := .exit 0) (by simp)
    (fun i hi => rsh_n (shU a i) (shU a (i + 1)) _ n i hn hi (shU_bd i h1).1 (shU_bd i h1).2 (shU_s i h1).symm) (rsh_e (shU a n) n hn)
  rw [shU_0 h1 h2] at this
  exact this
def gRsh17 : List SV → List Seg → Option (CS × List Prop)
  | [.nv (.one (.val (.int .u64 a))), .nv (.one (.val (.int .i64 n)))], mem => some (⟨[uA a, iA (n.toNat : Nat)], [], uA (shU a n.toNat), []⟩, [0 ≤ a, a ≤ 18446744073709551615, n.toNat ≤ 16])
  | _, _ => none
theorem spRsh17 : SpOk Try.prog 37 (.lift gRsh17) := by
  intro args mem cs obl h ho
  unfold gRsh17 at h
  split at h
  · simp only [Option.some.injEq, Prod.mk.injEq] at h
    obtain ⟨rfl, rfl⟩ := h
    exact fnRsh ho.1 ho.2.1 ho.2.2.1
  · cases h
def Gad4 : List (FuncId × Sp) := (30, pureS gShift17) :: (37, .lift gRsh17) :: Gad3
theorem Gad4_ok : CtxOk Try.prog Gad4 := ctx_cons (enter_of Try.func30 (by kernel_rfl) (by kernel_rfl)) spShift17 <|
  ctx_cons (enter_of Try.func37 (by kernel_rfl) (by kernel_rfl)) spRsh17 Gad3_ok
end Go.Proofs.Ytmhkbepnankopaa

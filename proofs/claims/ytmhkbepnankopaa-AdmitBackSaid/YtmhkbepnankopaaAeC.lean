/- admit: the table of a new gate. No condition. -/
import Derived.Test.YtmhkbepnankopaaAdX
import Derived.Test.YtmhkbepnankopaaChecked
import Derived.KernelRfl
namespace Go.Proofs.Ytmhkbepnankopaa
set_option linter.unusedVariables false
set_option linter.unusedSimpArgs false
open Go.RowKit E
/-- The table when the first i flows were put into it: how many slots, and the slots. -/
def tbF (F : Fl) : Nat → Nat × (Nat → Sl)
  | 0 => (8, fun _ => sl0)
  | i + 1 => (mM i (tbF F i).1, putT i (tbF F i).1 (tbF F i).2 (F.id i) 0 0 (F.ca i))
abbrev gtD (P B S U n b : Int) (h : Nat) : List At := [.any, .any, .any, .any, .val (.int .i64 P), .val (.int .u64 B), .val (.int .i64 S), .val (.int .u64 U), .any, .any, .any, .val (.int .i64 n), .val (.int .u64 b), .ptr h 0]
/-- The sizes: 8, 16, 32, 64, 128. -/
def szN (i : Nat) : Nat := if i ≤ 6 then 8 else if i ≤ 12 then 16 else if i ≤ 24 then 32 else if i ≤ 48 then 64 else 128
theorem tbF_M (F : Fl) : ∀ i, i ≤ 64 → (tbF F i).1 = szN i
  | 0, _ => rfl
  | i + 1, h => by
    show mM i (tbF F i).1 = _
    rw [tbF_M F i (by omega)]
    unfold mM szN
    (repeat' split) <;> omega
theorem szN_bd (i : Nat) : P2 (szN i) ∧ szN i ≤ 128 ∧ (i ≤ 64 → i + 1 < szN i) := by
  unfold szN
  (repeat' split)
  · exact ⟨⟨3, rfl, by omega⟩, by omega, by omega⟩
  · exact ⟨⟨4, rfl, by omega⟩, by omega, by omega⟩
  · exact ⟨⟨5, rfl, by omega⟩, by omega, by omega⟩
  · exact ⟨⟨6, rfl, by omega⟩, by omega, by omega⟩
  · exact ⟨⟨7, rfl, by omega⟩, by omega, by omega⟩
theorem cnt_re2 (T : Nat → Sl) (M' : Nat) : ∀ i, cnt (reT T M' i) M' ≤ cnt T i
  | 0 => by show cnt (fun _ => sl0) M' ≤ 0; rw [cnt_sl0]; omega
  | i + 1 => by
    have h := cnt_re2 T M' i
    show cnt (if (T i).us = true then _ else _) M' ≤ cnt T i + (if (T i).us = true then 1 else 0)
    split
    · have := cnt_put_le (reT T M' i) (fd (reT T M' i) M' (T i).id) (T i) M'
      omega
    · omega
/-- What grows holds what it held. -/
theorem re_ok {M : Nat} {T : Nat → Sl} (hf : free M T) (hi : Inv M T) : ∀ i, i ≤ M →
    Inv (2 * M) (reT T (2 * M) i) ∧ (∀ y, look17 (2 * M) (reT T (2 * M) i) y = match look17 M T y with | some s => if fd T M y < i then some s else none | none => none)
  | 0, _ => by
    refine ⟨fun j hj hu => (by cases hu), fun y => ?_⟩
    have : look17 (2 * M) (reT T (2 * M) 0) y = none := by rw [look_none]; rfl
    rw [this]
    cases look17 M T y
    · rfl
    · simp
  | i + 1, h => by
    obtain ⟨h1, h2⟩ := re_ok hf hi i (by omega)
    have hf2 : free (2 * M) (reT T (2 * M) i) := free_cnt (by have := cnt_re T (2 * M) i; omega)
    have hf3 : free (2 * M) (reT T (2 * M) (i + 1)) := free_cnt (by have := cnt_re T (2 * M) (i + 1); omega)
    cases hu : (T i).us
    · rw [re_no hu]
      refine ⟨h1, fun y => ?_⟩
      rw [h2 y]
      cases e : look17 M T y with
      | none => rfl
      | some s =>
        obtain ⟨k1, k2, k3, k4⟩ := look_some hf e
        have : fd T M y ≠ i := by
          intro q
          rw [q] at k2
          rw [k2, k3] at hu
          cases hu
        have h3 : (fd T M y < i) = (fd T M y < i + 1) := by apply propext; omega
        simp only [h3]
    · have e : reT T (2 * M) (i + 1) = putS (reT T (2 * M) i) (fd (reT T (2 * M) i) (2 * M) (T i).id) (T i) := if_pos hu
      have hfd := hi i (by omega) hu
      have hl : look17 M T (T i).id = some (T i) := by unfold look17; rw [hfd, if_pos hu]
      have hn : look17 (2 * M) (reT T (2 * M) i) (T i).id = none := by
        rw [h2, hl]
        simp only [hfd]
        exact if_neg (by omega)
      rw [e] at hf3 ⊢
      refine ⟨inv_put hf2 h1 (T i) hu hn, fun y => ?_⟩
      rw [look_put hf2 h1 (T i) hu hn hf3 y, h2 y]
      by_cases q : y = (T i).id
      · subst q
        rw [if_pos rfl, hl]
        simp only [hfd]
        rw [if_pos (by omega)]
      · rw [if_neg q]
        cases e : look17 M T y with
        | none => rfl
        | some s =>
          obtain ⟨k1, k2, k3, k4⟩ := look_some hf e
          have : fd T M y ≠ i := by
            intro q2
            rw [q2] at k2
            rw [k2] at q
            exact q k4.symm
          have h3 : (fd T M y < i) = (fd T M y < i + 1) := by apply propext; omega
          simp only [h3]
theorem grow_ok {M : Nat} {T : Nat → Sl} (hf : free M T) (hi : Inv M T) : Inv (2 * M) (reT T (2 * M) M) ∧ ∀ y, look17 (2 * M) (reT T (2 * M) M) y = look17 M T y := by
  obtain ⟨h1, h2⟩ := re_ok hf hi M (Nat.le_refl _)
  refine ⟨h1, fun y => ?_⟩
  rw [h2 y]
  cases e : look17 M T y with
  | none => rfl
  | some s => simp only [(look_some hf e).1, if_true]
/-- The table of a new gate: each flow by its number. -/
structure TabOk (F : Fl) (i M : Nat) (T : Nat → Sl) : Prop where
  inv : Inv M T
  cn : cnt T M ≤ i
  no : ∀ y, (∀ k, k < i → F.id k ≠ y) → look17 M T y = none
  yes : ∀ k, k < i → look17 M T (F.id k) = some ⟨F.id k, true, 0, 0, F.ca k⟩
theorem tbF_ok (F : Fl) {n : Nat} (hn : n ≤ 64) (hd : ∀ j k, j < n → k < j → F.id j ≠ F.id k) : ∀ i, i ≤ n → TabOk F i (tbF F i).1 (tbF F i).2
  | 0, _ => by
    refine ⟨fun j hj hu => (by cases hu), ?_, fun y _ => by rw [look_none]; rfl, fun k hk => by omega⟩
    show cnt (fun _ => sl0) 8 ≤ 0
    rw [cnt_sl0]; omega
  | i + 1, h => by
    have ih := tbF_ok F hn hd i (by omega)
    have eM := tbF_M F i (by omega)
    have eM' := tbF_M F (i + 1) (by omega)
    obtain ⟨b1, b2, b3⟩ := szN_bd i
    obtain ⟨c1, c2, c3⟩ := szN_bd (i + 1)
    have hf : free (tbF F i).1 (tbF F i).2 := free_cnt (by have := ih.cn; have := b3 (by omega); omega)
    have hno := ih.no (F.id i) (fun k hk => (hd i k (by omega) hk).symm)
    -- the table ahead of the put
    have key : Inv (mM i (tbF F i).1) (mT i (tbF F i).1 (tbF F i).2) ∧ (∀ y, look17 (mM i (tbF F i).1) (mT i (tbF F i).1 (tbF F i).2) y = look17 (tbF F i).1 (tbF F i).2 y) ∧ cnt (mT i (tbF F i).1 (tbF F i).2) (mM i (tbF F i).1) ≤ i := by
      unfold mM mT
      split
      · obtain ⟨g1, g2⟩ := grow_ok hf ih.inv
        have hc := cnt_re2 (tbF F i).2 (2 * (tbF F i).1) (tbF F i).1
        have := ih.cn
        exact ⟨g1, g2, by omega⟩
      · exact ⟨ih.inv, fun _ => rfl, ih.cn⟩
    obtain ⟨k1, k2, k3⟩ := key
    have k4 : free (mM i (tbF F i).1) (mT i (tbF F i).1 (tbF F i).2) := free_cnt (by
      have h1 := b3 (by omega)
      have : (tbF F i).1 ≤ mM i (tbF F i).1 := by unfold mM; split <;> omega
      omega)
    show TabOk F (i + 1) (mM i (tbF F i).1) (putT i (tbF F i).1 (tbF F i).2 (F.id i) 0 0 (F.ca i))
    have hno2 : look17 (mM i (tbF F i).1) (mT i (tbF F i).1 (tbF F i).2) (F.id i) = none := by rw [k2]; exact hno
    have hc : cnt (putT i (tbF F i).1 (tbF F i).2 (F.id i) 0 0 (F.ca i)) (mM i (tbF F i).1) ≤ i + 1 := by
      have := cnt_put_le (mT i (tbF F i).1 (tbF F i).2) (fd (mT i (tbF F i).1 (tbF F i).2) (mM i (tbF F i).1) (F.id i)) ⟨F.id i, true, 0, 0, F.ca i⟩ (mM i (tbF F i).1)
      unfold putT
      omega
    have hM : mM i (tbF F i).1 = szN (i + 1) := eM'
    have hf' : free (mM i (tbF F i).1) (putT i (tbF F i).1 (tbF F i).2 (F.id i) 0 0 (F.ca i)) := free_cnt (by
      rw [hM] at hc ⊢
      have := c3
      have h9 := b3 (by omega)
      have : i + 1 < szN (i + 1) := by unfold szN at h9 ⊢; (repeat' split) <;> (repeat' split at h9) <;> omega
      omega)
    have hlk := look_put k4 k1 ⟨F.id i, true, 0, 0, F.ca i⟩ rfl hno2 hf'
    refine ⟨inv_put k4 k1 ⟨F.id i, true, 0, 0, F.ca i⟩ rfl hno2, hc, fun y hy => ?_, fun k hk => ?_⟩
    · show look17 _ (putS _ _ _) y = none
      rw [hlk y, if_neg (fun q => hy i (by omega) q.symm), k2]
      exact ih.no y (fun k hk => hy k (by omega))
    · show look17 _ (putS _ _ _) (F.id k) = _
      rw [hlk (F.id k)]
      by_cases e : k = i
      · subst e
        exact if_pos rfl
      · rw [if_neg (show F.id k ≠ F.id i from (hd i k (by omega) (by omega)).symm), k2]
        exact ih.yes k (by omega)
end Go.Proofs.Ytmhkbepnankopaa

/- Runs of Go code, as printed by a program: no condition beyond those that each states. -/
namespace Go.Proofs.Ytmhkbepnankopaa
set_option linter.unusedVariables false
set_option linter.unusedSimpArgs false
set_option maxRecDepth 100000
open Go.RowKit E
attribute [local irreducible] fd homeN reT capU gtP gtB gtO gtU setT shU Ga.fit Ga.may chkF chkA mM putT
set_option maxHeartbeats 2000000 in
theorem new_e (c : Cf) (n : Nat) (F : Fl) (he : chkA c n F ≠ 0) : FnOk Try.prog 8 ([cfV c (.own 0)]) ([.ro 5 n (gFl F)]) (.tup [.one (.val (.pointer none)), .one (.val (.int .i64 (chkA c n F)))]) ([.ro 5 n (gFl F)]) :=
  fn_run Gad8_ok Try.func8 (orc := ⟨[true], []⟩) (obl := [Cf.a c = Cf.a { a := Cf.a c, c := Cf.c c, l := Cf.l c, q := Cf.q c, P := Cf.P c, B := Cf.B c, S := Cf.S c, U := Cf.U c, r := Cf.r c, u := Cf.u c },
      Cf.c c = Cf.c { a := Cf.a c, c := Cf.c c, l := Cf.l c, q := Cf.q c, P := Cf.P c, B := Cf.B c, S := Cf.S c, U := Cf.U c, r := Cf.r c, u := Cf.u c },
      Cf.l c = Cf.l { a := Cf.a c, c := Cf.c c, l := Cf.l c, q := Cf.q c, P := Cf.P c, B := Cf.B c, S := Cf.S c, U := Cf.U c, r := Cf.r c, u := Cf.u c },
      Cf.q c = Cf.q { a := Cf.a c, c := Cf.c c, l := Cf.l c, q := Cf.q c, P := Cf.P c, B := Cf.B c, S := Cf.S c, U := Cf.U c, r := Cf.r c, u := Cf.u c },
      Cf.P c = Cf.P { a := Cf.a c, c := Cf.c c, l := Cf.l c, q := Cf.q c, P := Cf.P c, B := Cf.B c, S := Cf.S c, U := Cf.U c, r := Cf.r c, u := Cf.u c },
      Cf.B c = Cf.B { a := Cf.a c, c := Cf.c c, l := Cf.l c, q := Cf.q c, P := Cf.P c, B := Cf.B c, S := Cf.S c, U := Cf.U c, r := Cf.r c, u := Cf.u c },
      Cf.S c = Cf.S { a := Cf.a c, c := Cf.c c, l := Cf.l c, q := Cf.q c, P := Cf.P c, B := Cf.B c, S := Cf.S c, U := Cf.U c, r := Cf.r c, u := Cf.u c },
      Cf.U c = Cf.U { a := Cf.a c, c := Cf.c c, l := Cf.l c, q := Cf.q c, P := Cf.P c, B := Cf.B c, S := Cf.S c, U := Cf.U c, r := Cf.r c, u := Cf.u c },
      Cf.r c = Cf.r { a := Cf.a c, c := Cf.c c, l := Cf.l c, q := Cf.q c, P := Cf.P c, B := Cf.B c, S := Cf.S c, U := Cf.U c, r := Cf.r c, u := Cf.u c },
      Cf.u c = Cf.u { a := Cf.a c, c := Cf.c c, l := Cf.l c, q := Cf.q c, P := Cf.P c, B := Cf.B c, S := Cf.S c, U := Cf.U c, r := Cf.r c, u := Cf.u c },
      n = n,
      ∀ (i : Nat), i < n → Fl.id F i = Fl.id (flOf (gFl F)) i ∧ Fl.co F i = Fl.co (flOf (gFl F)) i ∧ Fl.bu F i = Fl.bu (flOf (gFl F)) i ∧ Fl.si F i = Fl.si (flOf (gFl F)) i ∧ Fl.ca F i = Fl.ca (flOf (gFl F)) i ∧ True,
      (chkA { a := Cf.a c, c := Cf.c c, l := Cf.l c, q := Cf.q c, P := Cf.P c, B := Cf.B c, S := Cf.S c, U := Cf.U c, r := Cf.r c, u := Cf.u c } n (flOf (gFl F)) != (0 : Int)) = true,
      Value.pointer none = Value.pointer none,
      chkA { a := Cf.a c, c := Cf.c c, l := Cf.l c, q := Cf.q c, P := Cf.P c, B := Cf.B c, S := Cf.S c, U := Cf.U c, r := Cf.r c, u := Cf.u c } n (flOf (gFl F)) = chkA c n F,
      n = n,
      ∀ (i : Nat), i < n → Fl.id F i = Fl.id F i ∧ Fl.co F i = Fl.co F i ∧ Fl.bu F i = Fl.bu F i ∧ Fl.si F i = Fl.si F i ∧ Fl.ca F i = Fl.ca F i ∧ True]) (by kernel_rfl) (.cons (by rfl) (.cons (by rfl) (.cons (by rfl) (.cons (by rfl) (.cons (by rfl) (.cons (by rfl) (.cons (by rfl) (.cons (by rfl) (.cons (by rfl) (.cons (by rfl) (.cons (by rfl) (.cons (by (intro _ _; exact ⟨rfl, rfl, rfl, rfl, rfl, trivial⟩)) (.cons (by exact bne_iff_ne.2 he) (.cons (by rfl) (.cons (by rfl) (.cons (by rfl) (.cons (by (simp; done)) .nil))))))))))))))))) (Nat.le_of_ble_eq_true (by kernel_rfl))

set_option maxHeartbeats 2000000 in
theorem nw_n (c : Cf) (n i M : Nat) (F : Fl) (T : Nat → Sl) (hi : i < n) (hn : n ≤ 64) (h2 : P2 M) (h3 : M ≤ 1000) (hf : free M T) (hu : (T (fd T M (F.id i))).us = false) : CodeOk Try.prog 1 (loopOf Try.f8 0) (mkSt 38 [(1, .nv (.one (.ptr 1 0))), (5, .nv (.one (.ptr 2 0))), (19, .nv (.one (.own 0))), (20, iA n), (21, iA i)] [.ro 5 n (gFl F), .box 25 (cfC c (.own 0)), .box 78 [.own 3, .val (.int .i64 (i : Nat)), .val (.int .i64 64)], .row 80 5 M (gS T)]) .normal (mkSt 38 [(1, .nv (.one (.ptr 1 0))), (5, .nv (.one (.ptr 2 0))), (19, .nv (.one (.own 0))), (20, iA n), (21, iA (i + 1))] [.ro 5 n (gFl F), .box 25 (cfC c (.own 0)), .box 78 [.own 3, .val (.int .i64 ((i + 1) : Nat)), .val (.int .i64 64)], .row 80 5 (mM i M) (gS (putT i M T (F.id i) 0 0 (F.ca i)))]) :=
  code_run Gad8_ok (orc := ⟨[true], []⟩) (obl := [decide ((↑i : Int) < (↑n : Int)) = true,
      (0 : Int) ≤ (↑i : Int),
      (↑i : Int) < (↑n : Int),
      Int.toNat (↑i : Int) < n,
      P2 M,
      M ≤ (1000 : Nat),
      free M (slOf (gS T)),
      Sl.us (slOf (gS T) (fd (slOf (gS T)) M (Fl.id F (Int.toNat (↑i : Int))))) = false,
      Int.toNat (↑i : Int) < (64 : Nat),
      (0 : Nat) = (0 : Nat),
      Fl.id F (Int.toNat (↑i : Int)) = Fl.id F (Int.toNat (↑i : Int)),
      (0 : Int) = (0 : Int),
      (0 : Int) = (0 : Int),
      Fl.ca F (Int.toNat (↑i : Int)) = Fl.ca F (Int.toNat (↑i : Int)),
      (↑i : Int) = (↑(Int.toNat (↑i : Int)) : Int),
      (64 : Int) = (64 : Int),
      M = M,
      ∀ (i : Nat), i < M → Sl.id (T i) = Sl.id (slOf (gS T) i) ∧ Sl.us (T i) = Sl.us (slOf (gS T) i) ∧ Sl.pk (T i) = Sl.pk (slOf (gS T) i) ∧ Sl.bt (T i) = Sl.bt (slOf (gS T) i) ∧ Sl.mo (T i) = Sl.mo (slOf (gS T) i) ∧ True,
      ∀ (i_1 : Nat), i_1 < mM (Int.toNat (↑i : Int)) M → (true && (true && (true && (true && (true && true))))) = true,
      (0 : Nat) = (0 : Nat),
      (0 : Nat) = (0 : Nat),
      (↑n : Int) = (↑n : Int),
      IntKind.wrap IntKind.i64 ((↑i : Int) + (1 : Int)) = (↑i : Int) + (1 : Int),
      n = n,
      ∀ (i : Nat), i < n → Fl.id F i = Fl.id F i ∧ Fl.co F i = Fl.co F i ∧ Fl.bu F i = Fl.bu F i ∧ Fl.si F i = Fl.si F i ∧ Fl.ca F i = Fl.ca F i ∧ True,
      Cf.a c = Cf.a c,
      Cf.c c = Cf.c c,
      Cf.l c = Cf.l c,
      Cf.q c = Cf.q c,
      Cf.P c = Cf.P c,
      Cf.B c = Cf.B c,
      Cf.S c = Cf.S c,
      Cf.U c = Cf.U c,
      Cf.r c = Cf.r c,
      Cf.u c = Cf.u c,
      (↑(Int.toNat (↑i : Int) + (1 : Nat)) : Int) = (↑(i + (1 : Nat)) : Int),
      (64 : Int) = (64 : Int),
      mM (Int.toNat (↑i : Int)) M = mM i M,
      ∀ (i_1 : Nat), i_1 < mM (Int.toNat (↑i : Int)) M → Sl.id (putT (Int.toNat (↑i : Int)) M (slOf (gS T)) (Fl.id F (Int.toNat (↑i : Int))) (0 : Int) (0 : Int) (Fl.ca F (Int.toNat (↑i : Int))) i_1) = Sl.id (putT i M T (Fl.id F i) (0 : Int) (0 : Int) (Fl.ca F i) i_1) ∧ Sl.us (putT (Int.toNat (↑i : Int)) M (slOf (gS T)) (Fl.id F (Int.toNat (↑i : Int))) (0 : Int) (0 : Int) (Fl.ca F (Int.toNat (↑i : Int))) i_1) = Sl.us (putT i M T (Fl.id F i) (0 : Int) (0 : Int) (Fl.ca F i) i_1) ∧ Sl.pk (putT (Int.toNat (↑i : Int)) M (slOf (gS T)) (Fl.id F (Int.toNat (↑i : Int))) (0 : Int) (0 : Int) (Fl.ca F (Int.toNat (↑i : Int))) i_1) = Sl.pk (putT i M T (Fl.id F i) (0 : Int) (0 : Int) (Fl.ca F i) i_1) ∧ Sl.bt (putT (Int.toNat (↑i : Int)) M (slOf (gS T)) (Fl.id F (Int.toNat (↑i : Int))) (0 : Int) (0 : Int) (Fl.ca F (Int.toNat (↑i : Int))) i_1) = Sl.bt (putT i M T (Fl.id F i) (0 : Int) (0 : Int) (Fl.ca F i) i_1) ∧ Sl.mo (putT (Int.toNat (↑i : Int)) M (slOf (gS T)) (Fl.id F (Int.toNat (↑i : Int))) (0 : Int) (0 : Int) (Fl.ca F (Int.toNat (↑i : Int))) i_1) = Sl.mo (putT i M T (Fl.id F i) (0 : Int) (0 : Int) (Fl.ca F i) i_1) ∧ True]) (by kernel_rfl) (.cons (by exact decide_eq_true (by omega)) (.cons (by omega) (.cons (by omega) (.cons (by assumption) (.cons (by assumption) (.cons (by assumption) (.cons (by assumption) (.cons (by assumption) (.cons (by omega) (.cons (by rfl) (.cons (by rfl) (.cons (by rfl) (.cons (by rfl) (.cons (by rfl) (.cons (by rfl) (.cons (by rfl) (.cons (by rfl) (.cons (by (intro _ _; exact ⟨rfl, rfl, rfl, rfl, rfl, trivial⟩)) (.cons (by (intro _ _; rfl)) (.cons (by rfl) (.cons (by rfl) (.cons (by rfl) (.cons (by exact w64 (by omega) (by omega)) (.cons (by rfl) (.cons (by (simp; done)) (.cons (by rfl) (.cons (by rfl) (.cons (by rfl) (.cons (by rfl) (.cons (by rfl) (.cons (by rfl) (.cons (by rfl) (.cons (by rfl) (.cons (by rfl) (.cons (by rfl) (.cons (by rfl) (.cons (by rfl) (.cons (by rfl) (.cons (by (intro _ _; exact ⟨rfl, rfl, rfl, rfl, rfl, trivial⟩)) .nil))))))))))))))))))))))))))))))))))))))) (Nat.le_of_ble_eq_true (by kernel_rfl))

set_option maxHeartbeats 2000000 in
theorem nw_e (c : Cf) (n M : Nat) (F : Fl) (T : Nat → Sl) (hn : n ≤ 64) : CodeOk Try.prog 1 (loopOf Try.f8 0) (mkSt 38 [(1, .nv (.one (.ptr 1 0))), (5, .nv (.one (.ptr 2 0))), (19, .nv (.one (.own 0))), (20, iA n), (21, iA n)] [.ro 5 n (gFl F), .box 25 (cfC c (.own 0)), .box 78 [.own 3, .val (.int .i64 (n : Nat)), .val (.int .i64 64)], .row 80 5 M (gS T)]) (.exit 0) (mkSt 38 [(1, .nv (.one (.ptr 1 0))), (5, .nv (.one (.ptr 2 0)))] [.ro 5 n (gFl F), .box 25 (cfC c (.own 0)), .box 78 [.own 3, .val (.int .i64 (n : Nat)), .val (.int .i64 64)], .row 80 5 M (gS T)]) :=
  code_run Gad8_ok (orc := ⟨[false], []⟩) (obl := [decide ((↑n : Int) < (↑n : Int)) = false,
      (0 : Nat) = (0 : Nat),
      (0 : Nat) = (0 : Nat),
      n = n,
      ∀ (i : Nat), i < n → Fl.id F i = Fl.id F i ∧ Fl.co F i = Fl.co F i ∧ Fl.bu F i = Fl.bu F i ∧ Fl.si F i = Fl.si F i ∧ Fl.ca F i = Fl.ca F i ∧ True,
      Cf.a c = Cf.a c,
      Cf.c c = Cf.c c,
      Cf.l c = Cf.l c,
      Cf.q c = Cf.q c,
      Cf.P c = Cf.P c,
      Cf.B c = Cf.B c,
      Cf.S c = Cf.S c,
      Cf.U c = Cf.U c,
      Cf.r c = Cf.r c,
      Cf.u c = Cf.u c,
      (↑n : Int) = (↑n : Int),
      (64 : Int) = (64 : Int),
      M = M,
      ∀ (i : Nat), i < M → Sl.id (T i) = Sl.id (T i) ∧ Sl.us (T i) = Sl.us (T i) ∧ Sl.pk (T i) = Sl.pk (T i) ∧ Sl.bt (T i) = Sl.bt (T i) ∧ Sl.mo (T i) = Sl.mo (T i) ∧ True]) (by kernel_rfl) (.cons (by exact decide_eq_false (by omega)) (.cons (by rfl) (.cons (by rfl) (.cons (by rfl) (.cons (by (simp; done)) (.cons (by rfl) (.cons (by rfl) (.cons (by rfl) (.cons (by rfl) (.cons (by rfl) (.cons (by rfl) (.cons (by rfl) (.cons (by rfl) (.cons (by rfl) (.cons (by rfl) (.cons (by rfl) (.cons (by rfl) (.cons (by rfl) (.cons (by (simp; done)) .nil))))))))))))))))))) (Nat.le_of_ble_eq_true (by kernel_rfl))

set_option maxHeartbeats 2000000 in
theorem new_o (c : Cf) (n M : Nat) (F : Fl) (T : Nat → Sl) (he : chkA c n F = 0) (hn : n ≤ 64) (l : CodeOk Try.prog 1 (.loop (loopOf Try.f8 0)) (mkSt 38 [(1, .nv (.one (.ptr 1 0))), (5, .nv (.one (.ptr 2 0))), (19, .nv (.one (.own 0))), (20, iA n), (21, iA 0)] [.ro 5 n (gFl F), .box 25 (cfC c (.own 0)), .box 78 [.own 3, .val (.int .i64 (0 : Nat)), .val (.int .i64 64)], .row 80 5 8 (gS (fun _ => sl0))]) (.exit 0) (mkSt 38 [(1, .nv (.one (.ptr 1 0))), (5, .nv (.one (.ptr 2 0)))] [.ro 5 n (gFl F), .box 25 (cfC c (.own 0)), .box 78 [.own 3, .val (.int .i64 (n : Nat)), .val (.int .i64 64)], .row 80 5 M (gS T)])) : FnOk Try.prog 8 ([cfV c (.own 0)]) ([.ro 5 n (gFl F)]) (.tup [.one (.ptr 1 0), .one (.val (.int .i64 0))]) ([.ro 5 n (gFl F), .box 60 (gtD c.P c.B c.S c.U 0 0 2), .box 78 [.own 3, .val (.int .i64 (n : Nat)), .val (.int .i64 64)], .row 80 5 M (gS T)]) :=
  fn_run Gad8_ok Try.func8 (orc := ⟨[false], [⟨mkSt 38 [(1, .nv (.one (.ptr 1 0))), (5, .nv (.one (.ptr 2 0))), (19, .nv (.one (.own 0))), (20, iA n), (21, iA 0)] [.ro 5 n (gFl F), .box 25 (cfC c (.own 0)), .box 78 [.own 3, .val (.int .i64 (0 : Nat)), .val (.int .i64 64)], .row 80 5 8 (gS (fun _ => sl0))], .exit 0, mkSt 38 [(1, .nv (.one (.ptr 1 0))), (5, .nv (.one (.ptr 2 0)))] [.ro 5 n (gFl F), .box 25 (cfC c (.own 0)), .box 78 [.own 3, .val (.int .i64 (n : Nat)), .val (.int .i64 64)], .row 80 5 M (gS T)]⟩]⟩) (obl := [Cf.a c = Cf.a { a := Cf.a c, c := Cf.c c, l := Cf.l c, q := Cf.q c, P := Cf.P c, B := Cf.B c, S := Cf.S c, U := Cf.U c, r := Cf.r c, u := Cf.u c },
      Cf.c c = Cf.c { a := Cf.a c, c := Cf.c c, l := Cf.l c, q := Cf.q c, P := Cf.P c, B := Cf.B c, S := Cf.S c, U := Cf.U c, r := Cf.r c, u := Cf.u c },
      Cf.l c = Cf.l { a := Cf.a c, c := Cf.c c, l := Cf.l c, q := Cf.q c, P := Cf.P c, B := Cf.B c, S := Cf.S c, U := Cf.U c, r := Cf.r c, u := Cf.u c },
      Cf.q c = Cf.q { a := Cf.a c, c := Cf.c c, l := Cf.l c, q := Cf.q c, P := Cf.P c, B := Cf.B c, S := Cf.S c, U := Cf.U c, r := Cf.r c, u := Cf.u c },
      Cf.P c = Cf.P { a := Cf.a c, c := Cf.c c, l := Cf.l c, q := Cf.q c, P := Cf.P c, B := Cf.B c, S := Cf.S c, U := Cf.U c, r := Cf.r c, u := Cf.u c },
      Cf.B c = Cf.B { a := Cf.a c, c := Cf.c c, l := Cf.l c, q := Cf.q c, P := Cf.P c, B := Cf.B c, S := Cf.S c, U := Cf.U c, r := Cf.r c, u := Cf.u c },
      Cf.S c = Cf.S { a := Cf.a c, c := Cf.c c, l := Cf.l c, q := Cf.q c, P := Cf.P c, B := Cf.B c, S := Cf.S c, U := Cf.U c, r := Cf.r c, u := Cf.u c },
      Cf.U c = Cf.U { a := Cf.a c, c := Cf.c c, l := Cf.l c, q := Cf.q c, P := Cf.P c, B := Cf.B c, S := Cf.S c, U := Cf.U c, r := Cf.r c, u := Cf.u c },
      Cf.r c = Cf.r { a := Cf.a c, c := Cf.c c, l := Cf.l c, q := Cf.q c, P := Cf.P c, B := Cf.B c, S := Cf.S c, U := Cf.U c, r := Cf.r c, u := Cf.u c },
      Cf.u c = Cf.u { a := Cf.a c, c := Cf.c c, l := Cf.l c, q := Cf.q c, P := Cf.P c, B := Cf.B c, S := Cf.S c, U := Cf.U c, r := Cf.r c, u := Cf.u c },
      n = n,
      ∀ (i : Nat), i < n → Fl.id F i = Fl.id (flOf (gFl F)) i ∧ Fl.co F i = Fl.co (flOf (gFl F)) i ∧ Fl.bu F i = Fl.bu (flOf (gFl F)) i ∧ Fl.si F i = Fl.si (flOf (gFl F)) i ∧ Fl.ca F i = Fl.ca (flOf (gFl F)) i ∧ True,
      (chkA { a := Cf.a c, c := Cf.c c, l := Cf.l c, q := Cf.q c, P := Cf.P c, B := Cf.B c, S := Cf.S c, U := Cf.U c, r := Cf.r c, u := Cf.u c } n (flOf (gFl F)) != (0 : Int)) = false,
      (64 : Int) = (64 : Int),
      ∀ (i : Nat), i < (8 : Nat) → (true && (true && (true && (true && (true && true))))) = true,
      (0 : Nat) = (0 : Nat),
      (0 : Nat) = (0 : Nat),
      (↑n : Int) = (↑n : Int),
      (0 : Int) = (0 : Int),
      n = n,
      ∀ (i : Nat), i < n → Fl.id F i = Fl.id F i ∧ Fl.co F i = Fl.co F i ∧ Fl.bu F i = Fl.bu F i ∧ Fl.si F i = Fl.si F i ∧ Fl.ca F i = Fl.ca F i ∧ True,
      Cf.a c = Cf.a c,
      Cf.c c = Cf.c c,
      Cf.l c = Cf.l c,
      Cf.q c = Cf.q c,
      Cf.P c = Cf.P c,
      Cf.B c = Cf.B c,
      Cf.S c = Cf.S c,
      Cf.U c = Cf.U c,
      Cf.r c = Cf.r c,
      Cf.u c = Cf.u c,
      (0 : Int) = (↑(0 : Nat) : Int),
      (64 : Int) = (64 : Int),
      (8 : Nat) = (8 : Nat),
      ∀ (i : Nat), i < (8 : Nat) → Sl.id sl0 = Sl.id sl0 ∧ Sl.us sl0 = Sl.us sl0 ∧ Sl.pk sl0 = Sl.pk sl0 ∧ Sl.bt sl0 = Sl.bt sl0 ∧ Sl.mo sl0 = Sl.mo sl0 ∧ True,
      (1 : Nat) ≤ (4 : Nat),
      CodeOk Try.prog (1 : Nat) (Code.loop (loopOf Try.f8 (0 : Nat))) (mkSt (38 : Nat) [((1 : Nat), SV.nv (NV.one (At.ptr (1 : Nat) (0 : Nat)))), ((5 : Nat), SV.nv (NV.one (At.ptr (2 : Nat) (0 : Nat)))), ((19 : Nat), SV.nv (NV.one (At.own (0 : Nat)))), ((20 : Nat), iA (↑n : Int)), ((21 : Nat), iA (0 : Int))] [Seg.ro (5 : Nat) n (gFl F), Seg.box (25 : TypeId) (cfC c (At.own (0 : Nat))), Seg.box (78 : TypeId) [At.own (3 : Nat), At.val (Value.int IntKind.i64 (↑(0 : Nat) : Int)), At.val (Value.int IntKind.i64 (64 : Int))], Seg.row (80 : TypeId) (5 : Nat) (8 : Nat) (gS fun (x : Nat) => sl0)]) (Ex.exit (0 : Nat)) (mkSt (38 : Nat) [((1 : Nat), SV.nv (NV.one (At.ptr (1 : Nat) (0 : Nat)))), ((5 : Nat), SV.nv (NV.one (At.ptr (2 : Nat) (0 : Nat))))] [Seg.ro (5 : Nat) n (gFl F), Seg.box (25 : TypeId) (cfC c (At.own (0 : Nat))), Seg.box (78 : TypeId) [At.own (3 : Nat), At.val (Value.int IntKind.i64 (↑n : Int)), At.val (Value.int IntKind.i64 (64 : Int))], Seg.row (80 : TypeId) (5 : Nat) M (gS T)]),
      (0 : Nat) = (0 : Nat),
      (0 : Int) = (0 : Int),
      n = n,
      ∀ (i : Nat), i < n → Fl.id F i = Fl.id F i ∧ Fl.co F i = Fl.co F i ∧ Fl.bu F i = Fl.bu F i ∧ Fl.si F i = Fl.si F i ∧ Fl.ca F i = Fl.ca F i ∧ True,
      Cf.P c = Cf.P c,
      Cf.B c = Cf.B c,
      Cf.S c = Cf.S c,
      Cf.U c = Cf.U c,
      (0 : Int) = (0 : Int),
      (0 : Int) = (0 : Int),
      (0 : Nat) = (0 : Nat),
      (↑n : Int) = (↑n : Int),
      (64 : Int) = (64 : Int),
      M = M,
      ∀ (i : Nat), i < M → Sl.id (T i) = Sl.id (T i) ∧ Sl.us (T i) = Sl.us (T i) ∧ Sl.pk (T i) = Sl.pk (T i) ∧ Sl.bt (T i) = Sl.bt (T i) ∧ Sl.mo (T i) = Sl.mo (T i) ∧ True]) (by kernel_rfl) (.cons (by rfl) (.cons (by rfl) (.cons (by rfl) (.cons (by rfl) (.cons (by rfl) (.cons (by rfl) (.cons (by rfl) (.cons (by rfl) (.cons (by rfl) (.cons (by rfl) (.cons (by rfl) (.cons (by (intro _ _; exact ⟨rfl, rfl, rfl, rfl, rfl, trivial⟩)) (.cons (by exact bne_eq_false_iff_eq.2 he) (.cons (by rfl) (.cons (by trivial) (.cons (by rfl) (.cons (by rfl) (.cons (by rfl) (.cons (by rfl) (.cons (by rfl) (.cons (by (simp; done)) (.cons (by rfl) (.cons (by rfl) (.cons (by rfl) (.cons (by rfl) (.cons (by rfl) (.cons (by rfl) (.cons (by rfl) (.cons (by rfl) (.cons (by rfl) (.cons (by rfl) (.cons (by rfl) (.cons (by rfl) (.cons (by rfl) (.cons (by trivial) (.cons (by trivial) (.cons (by assumption) (.cons (by rfl) (.cons (by rfl) (.cons (by rfl) (.cons (by (simp; done)) (.cons (by rfl) (.cons (by rfl) (.cons (by rfl) (.cons (by rfl) (.cons (by rfl) (.cons (by rfl) (.cons (by rfl) (.cons (by rfl) (.cons (by rfl) (.cons (by rfl) (.cons (by (simp; done)) .nil)))))))))))))))))))))))))))))))))))))))))))))))))))) (Nat.le_of_ble_eq_true (by kernel_rfl))
end Go.Proofs.Ytmhkbepnankopaa

/- admit: the document's gate, words. No condition. -/
namespace Go.Proofs.Ytmhkbepnankopaa
set_option linter.unusedVariables false
set_option linter.unusedSimpArgs false
open Go.RowKit E
abbrev gI (F : Nat → Int) : Nat → List At := fun k => [.val (.int .i64 (F k))]
def putF (F : Nat → Int) (j : Nat) (v : Int) : Nat → Int := fun k => if k = j then v else F k
/-- Sums of the first places, as the machine reckons them. -/
def sI (F : Nat → Int) : Nat → Int
  | 0 => 0
  | i + 1 => IntKind.wrap .i64 (sI F i + F i)
def sU (F : Nat → Int) : Nat → Int
  | 0 => 0
  | i + 1 => IntKind.wrap .u64 (sU F i + F i)
theorem put0 {F : Nat → Int} {j : Nat} {v : Int} (k : Nat) : gI (putF F j v) k = (if k = j then List.take 0 (gI F j) ++ [.val (.int .i64 v)] ++ List.drop 1 (gI F j) else gI F k) := by
  unfold gI putF
  split <;> rfl
theorem put1 {F : Nat → Int} {j : Nat} {v : Int} (k : Nat) : gU64 (putF F j v) k = (if k = j then List.take 0 (gU64 F j) ++ [.val (.int .u64 v)] ++ List.drop 1 (gU64 F j) else gU64 F k) := by
  unfold gU64 putF
  split <;> rfl
end Go.Proofs.Ytmhkbepnankopaa

/- Runs of Go code, as printed by a program: no condition beyond those that each states. -/
namespace Go.Proofs.Ytmhkbepnankopaa
set_option linter.unusedVariables false
set_option linter.unusedSimpArgs false
set_option maxRecDepth 100000
open Go.RowKit E
attribute [local irreducible] fd homeN reT capU gtP gtB gtO gtU setT shU Ga.fit Ga.may chkF chkA mM putT sI sU
set_option maxHeartbeats 2000000 in
theorem rnew_n (c : Cf) (n i : Nat) (F : Fl) (hi : i < n) (hn : n ≤ 100) : CodeOk Try.prog 1 (loopOf Try.f17 0) (mkSt 34 [(1, .nv (.one (.ptr 1 0))), (3, .nv (.one (.ptr 2 0))), (4, iA i)] [.ro 5 n (gFl F), .box 25 (cfC c (.own 0)), .box 74 (cfC c (.own 0) ++ [.own 3, .own 4]), .row 3 1 i (gI (fun _ => 0)), .row 22 1 i (gU64 (fun _ => 0))]) .normal (mkSt 34 [(1, .nv (.one (.ptr 1 0))), (3, .nv (.one (.ptr 2 0))), (4, iA (i + 1 : Nat))] [.ro 5 n (gFl F), .box 25 (cfC c (.own 0)), .box 74 (cfC c (.own 0) ++ [.own 3, .own 4]), .row 3 1 (i + 1) (gI (fun _ => 0)), .row 22 1 (i + 1) (gU64 (fun _ => 0))]) :=
  code_run Gad8_ok (orc := ⟨[true], []⟩) (obl := [decide ((↑i : Int) < (↑n : Int)) = true,
      i + (1 : Nat) ≤ (4611686018427387904 : Nat),
      (i + (1 : Nat)) * (8 : Nat) ≤ (140737488355328 : Nat),
      i + (1 : Nat) ≤ (4611686018427387904 : Nat),
      (i + (1 : Nat)) * (8 : Nat) ≤ (140737488355328 : Nat),
      (0 : Nat) = (0 : Nat),
      (0 : Nat) = (0 : Nat),
      IntKind.wrap IntKind.i64 ((↑i : Int) + (1 : Int)) = (↑(i + (1 : Nat)) : Int),
      n = n,
      ∀ (i : Nat), i < n → Fl.id F i = Fl.id F i ∧ Fl.co F i = Fl.co F i ∧ Fl.bu F i = Fl.bu F i ∧ Fl.si F i = Fl.si F i ∧ Fl.ca F i = Fl.ca F i ∧ True,
      Cf.a c = Cf.a c,
      Cf.c c = Cf.c c,
      Cf.l c = Cf.l c,
      Cf.q c = Cf.q c,
      Cf.P c = Cf.P c,
      Cf.B c = Cf.B c,
      Cf.S c = Cf.S c,
      Cf.U c = Cf.U c,
      Cf.r c = Cf.r c,
      Cf.u c = Cf.u c,
      Cf.a c = Cf.a c,
      Cf.c c = Cf.c c,
      Cf.l c = Cf.l c,
      Cf.q c = Cf.q c,
      Cf.P c = Cf.P c,
      Cf.B c = Cf.B c,
      Cf.S c = Cf.S c,
      Cf.U c = Cf.U c,
      Cf.r c = Cf.r c,
      Cf.u c = Cf.u c,
      i + (1 : Nat) = i + (1 : Nat),
      ∀ (i_1 : Nat), i_1 < i + (1 : Nat) → AllT (leAts ([(nat_lit 0, Bd.same (nat_lit 0))] ++ ([((1 : Nat), Bd.same (1 : Nat))] ++ ([((2 : Nat), Bd.same (2 : Nat))] ++ ([] ++ []))) ++ ([] ++ ([] ++ ([] ++ ([] ++ ([] ++ ([] ++ ([] ++ ([] ++ ([] ++ ([] ++ ([] ++ ([((0 : Nat), Bd.same (0 : Nat))] ++ [])))))))))) ++ ([] ++ ([] ++ ([] ++ ([] ++ ([] ++ ([] ++ ([] ++ ([] ++ ([] ++ ([] ++ ([((0 : Nat), Bd.same (0 : Nat))] ++ ([((3 : Nat), Bd.same (6 : Nat))] ++ ([((4 : Nat), Bd.same (8 : Nat))] ++ [])))))))))))) ++ [])) ++ ([] ++ ([] ++ ([] ++ ([] ++ []))) ++ []))) (5 : Nat) (if i_1 = i then [At.val (Value.int IntKind.i64 (0 : Int))] else gI (fun (x : Nat) => (0 : Int)) i_1) (gI (fun (x : Nat) => (0 : Int)) i_1)),
      i + (1 : Nat) = i + (1 : Nat),
      ∀ (i_1 : Nat), i_1 < i + (1 : Nat) → AllT (leAts ([(nat_lit 0, Bd.same (nat_lit 0))] ++ ([((1 : Nat), Bd.same (1 : Nat))] ++ ([((2 : Nat), Bd.same (2 : Nat))] ++ ([] ++ []))) ++ ([] ++ ([] ++ ([] ++ ([] ++ ([] ++ ([] ++ ([] ++ ([] ++ ([] ++ ([] ++ ([] ++ ([((0 : Nat), Bd.same (0 : Nat))] ++ [])))))))))) ++ ([] ++ ([] ++ ([] ++ ([] ++ ([] ++ ([] ++ ([] ++ ([] ++ ([] ++ ([] ++ ([((0 : Nat), Bd.same (0 : Nat))] ++ ([((3 : Nat), Bd.same (6 : Nat))] ++ ([((4 : Nat), Bd.same (8 : Nat))] ++ [])))))))))))) ++ [])) ++ ([] ++ ([] ++ ([] ++ ([] ++ []))) ++ []))) (5 : Nat) (if i_1 = i then [At.val (Value.int IntKind.u64 (0 : Int))] else gU64 (fun (x : Nat) => (0 : Int)) i_1) (gU64 (fun (x : Nat) => (0 : Int)) i_1))]) (by kernel_rfl) (.cons (by exact decide_eq_true (by omega)) (.cons (by omega) (.cons (by omega) (.cons (by omega) (.cons (by omega) (.cons (by rfl) (.cons (by rfl) (.cons (by exact w64 (by omega) (by omega)) (.cons (by rfl) (.cons (by (simp; done)) (.cons (by rfl) (.cons (by rfl) (.cons (by rfl) (.cons (by rfl) (.cons (by rfl) (.cons (by rfl) (.cons (by rfl) (.cons (by rfl) (.cons (by rfl) (.cons (by rfl) (.cons (by rfl) (.cons (by rfl) (.cons (by rfl) (.cons (by rfl) (.cons (by rfl) (.cons (by rfl) (.cons (by rfl) (.cons (by rfl) (.cons (by rfl) (.cons (by rfl) (.cons (by rfl) (.cons (by (refine leG_eq (fun i hi => ?_) (fun _ _ => rfl); (repeat' split) <;> first | rfl | omega | (subst_vars; rfl) | (simp_all; done))) (.cons (by rfl) (.cons (by (refine leG_eq (fun i hi => ?_) (fun _ _ => rfl); (repeat' split) <;> first | rfl | omega | (subst_vars; rfl) | (simp_all; done))) .nil)))))))))))))))))))))))))))))))))) (Nat.le_of_ble_eq_true (by kernel_rfl))

set_option maxHeartbeats 2000000 in
theorem rnew_e (c : Cf) (n : Nat) (F : Fl) (hn : n ≤ 100) : CodeOk Try.prog 1 (loopOf Try.f17 0) (mkSt 34 [(1, .nv (.one (.ptr 1 0))), (3, .nv (.one (.ptr 2 0))), (4, iA n)] [.ro 5 n (gFl F), .box 25 (cfC c (.own 0)), .box 74 (cfC c (.own 0) ++ [.own 3, .own 4]), .row 3 1 n (gI (fun _ => 0)), .row 22 1 n (gU64 (fun _ => 0))]) (.exit 0) (mkSt 34 [(3, .nv (.one (.ptr 1 0)))] [.ro 5 n (gFl F), .box 74 (cfC c (.own 0) ++ [.own 2, .own 3]), .row 3 1 n (gI (fun _ => 0)), .row 22 1 n (gU64 (fun _ => 0))]) :=
  code_run Gad8_ok (orc := ⟨[false], []⟩) (obl := [decide ((↑n : Int) < (↑n : Int)) = false,
      (0 : Nat) = (0 : Nat),
      n = n,
      ∀ (i : Nat), i < n → Fl.id F i = Fl.id F i ∧ Fl.co F i = Fl.co F i ∧ Fl.bu F i = Fl.bu F i ∧ Fl.si F i = Fl.si F i ∧ Fl.ca F i = Fl.ca F i ∧ True,
      Cf.a c = Cf.a c,
      Cf.c c = Cf.c c,
      Cf.l c = Cf.l c,
      Cf.q c = Cf.q c,
      Cf.P c = Cf.P c,
      Cf.B c = Cf.B c,
      Cf.S c = Cf.S c,
      Cf.U c = Cf.U c,
      Cf.r c = Cf.r c,
      Cf.u c = Cf.u c,
      n = n,
      ∀ (i : Nat), i < n → (0 : Int) = (0 : Int) ∧ True,
      n = n,
      ∀ (i : Nat), i < n → (0 : Int) = (0 : Int) ∧ True]) (by kernel_rfl) (.cons (by exact decide_eq_false (by omega)) (.cons (by rfl) (.cons (by rfl) (.cons (by (simp; done)) (.cons (by rfl) (.cons (by rfl) (.cons (by rfl) (.cons (by rfl) (.cons (by rfl) (.cons (by rfl) (.cons (by rfl) (.cons (by rfl) (.cons (by rfl) (.cons (by rfl) (.cons (by rfl) (.cons (by (intro _ _; exact ⟨rfl, trivial⟩)) (.cons (by rfl) (.cons (by (intro _ _; exact ⟨rfl, trivial⟩)) .nil)))))))))))))))))) (Nat.le_of_ble_eq_true (by kernel_rfl))

set_option maxHeartbeats 2000000 in
theorem rnew (c : Cf) (n : Nat) (F : Fl) (l : CodeOk Try.prog 1 (.loop (loopOf Try.f17 0)) (mkSt 34 [(1, .nv (.one (.ptr 1 0))), (3, .nv (.one (.ptr 2 0))), (4, iA 0)] [.ro 5 n (gFl F), .box 25 (cfC c (.own 0)), .box 74 (cfC c (.own 0) ++ [.own 3, .own 4]), .row 3 1 0 (gI (fun _ => 0)), .row 22 1 0 (gU64 (fun _ => 0))]) (.exit 0) (mkSt 34 [(3, .nv (.one (.ptr 1 0)))] [.ro 5 n (gFl F), .box 74 (cfC c (.own 0) ++ [.own 2, .own 3]), .row 3 1 n (gI (fun _ => 0)), .row 22 1 n (gU64 (fun _ => 0))])) : FnOk Try.prog 17 ([cfV c (.own 0)]) ([.ro 5 n (gFl F)]) (.nv (.one (.ptr 1 0))) ([.ro 5 n (gFl F), .box 74 (cfC c (.own 0) ++ [.own 2, .own 3]), .row 3 1 n (gI (fun _ => 0)), .row 22 1 n (gU64 (fun _ => 0))]) :=
  fn_run Gad8_ok Try.func17 (orc := ⟨[], [⟨mkSt 34 [(1, .nv (.one (.ptr 1 0))), (3, .nv (.one (.ptr 2 0))), (4, iA 0)] [.ro 5 n (gFl F), .box 25 (cfC c (.own 0)), .box 74 (cfC c (.own 0) ++ [.own 3, .own 4]), .row 3 1 0 (gI (fun _ => 0)), .row 22 1 0 (gU64 (fun _ => 0))], .exit 0, mkSt 34 [(3, .nv (.one (.ptr 1 0)))] [.ro 5 n (gFl F), .box 74 (cfC c (.own 0) ++ [.own 2, .own 3]), .row 3 1 n (gI (fun _ => 0)), .row 22 1 n (gU64 (fun _ => 0))]⟩]⟩) (obl := [(0 : Nat) = (0 : Nat),
      (0 : Nat) = (0 : Nat),
      (0 : Int) = (0 : Int),
      n = n,
      ∀ (i : Nat), i < n → Fl.id F i = Fl.id F i ∧ Fl.co F i = Fl.co F i ∧ Fl.bu F i = Fl.bu F i ∧ Fl.si F i = Fl.si F i ∧ Fl.ca F i = Fl.ca F i ∧ True,
      Cf.a c = Cf.a c,
      Cf.c c = Cf.c c,
      Cf.l c = Cf.l c,
      Cf.q c = Cf.q c,
      Cf.P c = Cf.P c,
      Cf.B c = Cf.B c,
      Cf.S c = Cf.S c,
      Cf.U c = Cf.U c,
      Cf.r c = Cf.r c,
      Cf.u c = Cf.u c,
      Cf.a c = Cf.a c,
      Cf.c c = Cf.c c,
      Cf.l c = Cf.l c,
      Cf.q c = Cf.q c,
      Cf.P c = Cf.P c,
      Cf.B c = Cf.B c,
      Cf.S c = Cf.S c,
      Cf.U c = Cf.U c,
      Cf.r c = Cf.r c,
      Cf.u c = Cf.u c,
      (0 : Nat) = (0 : Nat),
      (0 : Nat) = (0 : Nat),
      (1 : Nat) ≤ (5 : Nat),
      CodeOk Try.prog (1 : Nat) (Code.loop (loopOf Try.f17 (0 : Nat))) (mkSt (34 : Nat) [((1 : Nat), SV.nv (NV.one (At.ptr (1 : Nat) (0 : Nat)))), ((3 : Nat), SV.nv (NV.one (At.ptr (2 : Nat) (0 : Nat)))), ((4 : Nat), iA (0 : Int))] [Seg.ro (5 : Nat) n (gFl F), Seg.box (25 : TypeId) (cfC c (At.own (0 : Nat))), Seg.box (74 : TypeId) (cfC c (At.own (0 : Nat)) ++ [At.own (3 : Nat), At.own (4 : Nat)]), Seg.row (3 : TypeId) (1 : Nat) (0 : Nat) (gI fun (x : Nat) => (0 : Int)), Seg.row (22 : TypeId) (1 : Nat) (0 : Nat) (gU64 fun (x : Nat) => (0 : Int))]) (Ex.exit (0 : Nat)) (mkSt (34 : Nat) [((3 : Nat), SV.nv (NV.one (At.ptr (1 : Nat) (0 : Nat))))] [Seg.ro (5 : Nat) n (gFl F), Seg.box (74 : TypeId) (cfC c (At.own (0 : Nat)) ++ [At.own (2 : Nat), At.own (3 : Nat)]), Seg.row (3 : TypeId) (1 : Nat) n (gI fun (x : Nat) => (0 : Int)), Seg.row (22 : TypeId) (1 : Nat) n (gU64 fun (x : Nat) => (0 : Int))]),
      (0 : Nat) = (0 : Nat),
      n = n,
      ∀ (i : Nat), i < n → Fl.id F i = Fl.id F i ∧ Fl.co F i = Fl.co F i ∧ Fl.bu F i = Fl.bu F i ∧ Fl.si F i = Fl.si F i ∧ Fl.ca F i = Fl.ca F i ∧ True,
      Cf.a c = Cf.a c,
      Cf.c c = Cf.c c,
      Cf.l c = Cf.l c,
      Cf.q c = Cf.q c,
      Cf.P c = Cf.P c,
      Cf.B c = Cf.B c,
      Cf.S c = Cf.S c,
      Cf.U c = Cf.U c,
      Cf.r c = Cf.r c,
      Cf.u c = Cf.u c,
      n = n,
      ∀ (i : Nat), i < n → (0 : Int) = (0 : Int) ∧ True,
      n = n,
      ∀ (i : Nat), i < n → (0 : Int) = (0 : Int) ∧ True]) (by kernel_rfl) (.cons (by rfl) (.cons (by rfl) (.cons (by rfl) (.cons (by rfl) (.cons (by (simp; done)) (.cons (by rfl) (.cons (by rfl) (.cons (by rfl) (.cons (by rfl) (.cons (by rfl) (.cons (by rfl) (.cons (by rfl) (.cons (by rfl) (.cons (by rfl) (.cons (by rfl) (.cons (by rfl) (.cons (by rfl) (.cons (by rfl) (.cons (by rfl) (.cons (by rfl) (.cons (by rfl) (.cons (by rfl) (.cons (by rfl) (.cons (by rfl) (.cons (by rfl) (.cons (by rfl) (.cons (by rfl) (.cons (by trivial) (.cons (by assumption) (.cons (by rfl) (.cons (by rfl) (.cons (by (simp; done)) (.cons (by rfl) (.cons (by rfl) (.cons (by rfl) (.cons (by rfl) (.cons (by rfl) (.cons (by rfl) (.cons (by rfl) (.cons (by rfl) (.cons (by rfl) (.cons (by rfl) (.cons (by rfl) (.cons (by (intro _ _; exact ⟨rfl, trivial⟩)) (.cons (by rfl) (.cons (by (intro _ _; exact ⟨rfl, trivial⟩)) .nil)))))))))))))))))))))))))))))))))))))))))))))) (Nat.le_of_ble_eq_true (by kernel_rfl))

set_option maxHeartbeats 2000000 in
theorem rtot_n (c : Cf) (n i : Nat) (F : Fl) (P B : Nat → Int) (p b : Int) (hi : i < n) (hn : n ≤ 100) : CodeOk Try.prog 4 (loopOf Try.f23 0) (mkSt 36 [(0, .nv (.one (.ptr 0 0))), (4, iA p), (5, uA b), (6, iA i)] [.robox 74 (cfC c (.own 1) ++ [.own 2, .own 3]), .ro 5 n (gFl F), .ro 1 n (gI P), .ro 1 n (gU64 B)]) .normal (mkSt 36 [(0, .nv (.one (.ptr 0 0))), (4, iA (IntKind.wrap .i64 (p + P i))), (5, uA (IntKind.wrap .u64 (b + B i))), (6, iA (i + 1 : Nat))] [.robox 74 (cfC c (.own 1) ++ [.own 2, .own 3]), .ro 5 n (gFl F), .ro 1 n (gI P), .ro 1 n (gU64 B)]) :=
  code_run Gad8_ok (orc := ⟨[true], []⟩) (obl := [decide ((↑i : Int) < (↑n : Int)) = true,
      (0 : Int) ≤ (↑i : Int),
      (↑i : Int) < (↑n : Int),
      Int.toNat (↑i : Int) < n,
      (0 : Int) ≤ (↑i : Int),
      (↑i : Int) < (↑n : Int),
      Int.toNat (↑i : Int) < n,
      (0 : Nat) = (0 : Nat),
      IntKind.wrap IntKind.i64 (p + P (Int.toNat (↑i : Int))) = IntKind.wrap IntKind.i64 (p + P i),
      IntKind.wrap IntKind.u64 (b + B (Int.toNat (↑i : Int))) = IntKind.wrap IntKind.u64 (b + B i),
      IntKind.wrap IntKind.i64 ((↑i : Int) + (1 : Int)) = (↑(i + (1 : Nat)) : Int),
      Cf.a c = Cf.a c,
      Cf.c c = Cf.c c,
      Cf.l c = Cf.l c,
      Cf.q c = Cf.q c,
      Cf.P c = Cf.P c,
      Cf.B c = Cf.B c,
      Cf.S c = Cf.S c,
      Cf.U c = Cf.U c,
      Cf.r c = Cf.r c,
      Cf.u c = Cf.u c,
      n = n,
      ∀ (i : Nat), i < n → Fl.id F i = Fl.id F i ∧ Fl.co F i = Fl.co F i ∧ Fl.bu F i = Fl.bu F i ∧ Fl.si F i = Fl.si F i ∧ Fl.ca F i = Fl.ca F i ∧ True,
      n = n,
      ∀ (i : Nat), i < n → P i = P i ∧ True,
      n = n,
      ∀ (i : Nat), i < n → B i = B i ∧ True]) (by kernel_rfl) (.cons (by exact decide_eq_true (by omega)) (.cons (by omega) (.cons (by omega) (.cons (by assumption) (.cons (by omega) (.cons (by omega) (.cons (by assumption) (.cons (by rfl) (.cons (by rfl) (.cons (by rfl) (.cons (by exact w64 (by omega) (by omega)) (.cons (by rfl) (.cons (by rfl) (.cons (by rfl) (.cons (by rfl) (.cons (by rfl) (.cons (by rfl) (.cons (by rfl) (.cons (by rfl) (.cons (by rfl) (.cons (by rfl) (.cons (by rfl) (.cons (by (simp; done)) (.cons (by rfl) (.cons (by (intro _ _; exact ⟨rfl, trivial⟩)) (.cons (by rfl) (.cons (by (intro _ _; exact ⟨rfl, trivial⟩)) .nil))))))))))))))))))))))))))) (Nat.le_of_ble_eq_true (by kernel_rfl))

set_option maxHeartbeats 2000000 in
theorem rtot_e (c : Cf) (n : Nat) (F : Fl) (P B : Nat → Int) (p b : Int) (hn : n ≤ 100) : CodeOk Try.prog 4 (loopOf Try.f23 0) (mkSt 36 [(0, .nv (.one (.ptr 0 0))), (4, iA p), (5, uA b), (6, iA n)] [.robox 74 (cfC c (.own 1) ++ [.own 2, .own 3]), .ro 5 n (gFl F), .ro 1 n (gI P), .ro 1 n (gU64 B)]) (.exit 0) (mkSt 36 [(4, iA p), (5, uA b)] [.robox 74 (cfC c (.own 1) ++ [.own 2, .own 3]), .ro 5 n (gFl F), .ro 1 n (gI P), .ro 1 n (gU64 B)]) :=
  code_run Gad8_ok (orc := ⟨[false], []⟩) (obl := [decide ((↑n : Int) < (↑n : Int)) = false,
      p = p,
      b = b,
      Cf.a c = Cf.a c,
      Cf.c c = Cf.c c,
      Cf.l c = Cf.l c,
      Cf.q c = Cf.q c,
      Cf.P c = Cf.P c,
      Cf.B c = Cf.B c,
      Cf.S c = Cf.S c,
      Cf.U c = Cf.U c,
      Cf.r c = Cf.r c,
      Cf.u c = Cf.u c,
      n = n,
      ∀ (i : Nat), i < n → Fl.id F i = Fl.id F i ∧ Fl.co F i = Fl.co F i ∧ Fl.bu F i = Fl.bu F i ∧ Fl.si F i = Fl.si F i ∧ Fl.ca F i = Fl.ca F i ∧ True,
      n = n,
      ∀ (i : Nat), i < n → P i = P i ∧ True,
      n = n,
      ∀ (i : Nat), i < n → B i = B i ∧ True]) (by kernel_rfl) (.cons (by exact decide_eq_false (by omega)) (.cons (by rfl) (.cons (by rfl) (.cons (by rfl) (.cons (by rfl) (.cons (by rfl) (.cons (by rfl) (.cons (by rfl) (.cons (by rfl) (.cons (by rfl) (.cons (by rfl) (.cons (by rfl) (.cons (by rfl) (.cons (by rfl) (.cons (by (simp; done)) (.cons (by rfl) (.cons (by (intro _ _; exact ⟨rfl, trivial⟩)) (.cons (by rfl) (.cons (by (intro _ _; exact ⟨rfl, trivial⟩)) .nil))))))))))))))))))) (Nat.le_of_ble_eq_true (by kernel_rfl))

set_option maxHeartbeats 2000000 in
theorem rtot (c : Cf) (n : Nat) (F : Fl) (P B : Nat → Int) (p b : Int) (hn : n ≤ 100) (l : CodeOk Try.prog 4 (.loop (loopOf Try.f23 0)) (mkSt 36 [(0, .nv (.one (.ptr 0 0))), (4, iA 0), (5, uA 0), (6, iA 0)] [.robox 74 (cfC c (.own 1) ++ [.own 2, .own 3]), .ro 5 n (gFl F), .ro 1 n (gI P), .ro 1 n (gU64 B)]) (.exit 0) (mkSt 36 [(4, iA p), (5, uA b)] [.robox 74 (cfC c (.own 1) ++ [.own 2, .own 3]), .ro 5 n (gFl F), .ro 1 n (gI P), .ro 1 n (gU64 B)])) : FnOk Try.prog 23 ([.nv (.one (.ptr 0 0))]) ([.robox 74 (cfC c (.own 1) ++ [.own 2, .own 3]), .ro 5 n (gFl F), .ro 1 n (gI P), .ro 1 n (gU64 B)]) (.tup [.one (.val (.int .i64 p)), .one (.val (.int .u64 b))]) ([.gone, .gone, .gone, .gone]) :=
  fn_run Gad8_ok Try.func23 (orc := ⟨[], [⟨mkSt 36 [(0, .nv (.one (.ptr 0 0))), (4, iA 0), (5, uA 0), (6, iA 0)] [.robox 74 (cfC c (.own 1) ++ [.own 2, .own 3]), .ro 5 n (gFl F), .ro 1 n (gI P), .ro 1 n (gU64 B)], .exit 0, mkSt 36 [(4, iA p), (5, uA b)] [.robox 74 (cfC c (.own 1) ++ [.own 2, .own 3]), .ro 5 n (gFl F), .ro 1 n (gI P), .ro 1 n (gU64 B)]⟩]⟩) (obl := [(0 : Nat) = (0 : Nat),
      (0 : Int) = (0 : Int),
      (0 : Int) = (0 : Int),
      (0 : Int) = (0 : Int),
      Cf.a c = Cf.a c,
      Cf.c c = Cf.c c,
      Cf.l c = Cf.l c,
      Cf.q c = Cf.q c,
      Cf.P c = Cf.P c,
      Cf.B c = Cf.B c,
      Cf.S c = Cf.S c,
      Cf.U c = Cf.U c,
      Cf.r c = Cf.r c,
      Cf.u c = Cf.u c,
      n = n,
      ∀ (i : Nat), i < n → Fl.id F i = Fl.id F i ∧ Fl.co F i = Fl.co F i ∧ Fl.bu F i = Fl.bu F i ∧ Fl.si F i = Fl.si F i ∧ Fl.ca F i = Fl.ca F i ∧ True,
      n = n,
      ∀ (i : Nat), i < n → P i = P i ∧ True,
      n = n,
      ∀ (i : Nat), i < n → B i = B i ∧ True,
      (4 : Nat) ≤ (4 : Nat),
      CodeOk Try.prog (4 : Nat) (Code.loop (loopOf Try.f23 (0 : Nat))) (mkSt (36 : Nat) [((0 : Nat), SV.nv (NV.one (At.ptr (0 : Nat) (0 : Nat)))), ((4 : Nat), iA (0 : Int)), ((5 : Nat), uA (0 : Int)), ((6 : Nat), iA (0 : Int))] [Seg.robox (74 : TypeId) (cfC c (At.own (1 : Nat)) ++ [At.own (2 : Nat), At.own (3 : Nat)]), Seg.ro (5 : Nat) n (gFl F), Seg.ro (1 : Nat) n (gI P), Seg.ro (1 : Nat) n (gU64 B)]) (Ex.exit (0 : Nat)) (mkSt (36 : Nat) [((4 : Nat), iA p), ((5 : Nat), uA b)] [Seg.robox (74 : TypeId) (cfC c (At.own (1 : Nat)) ++ [At.own (2 : Nat), At.own (3 : Nat)]), Seg.ro (5 : Nat) n (gFl F), Seg.ro (1 : Nat) n (gI P), Seg.ro (1 : Nat) n (gU64 B)]),
      p = p,
      b = b]) (by kernel_rfl) (.cons (by rfl) (.cons (by rfl) (.cons (by rfl) (.cons (by rfl) (.cons (by rfl) (.cons (by rfl) (.cons (by rfl) (.cons (by rfl) (.cons (by rfl) (.cons (by rfl) (.cons (by rfl) (.cons (by rfl) (.cons (by rfl) (.cons (by rfl) (.cons (by rfl) (.cons (by (simp; done)) (.cons (by rfl) (.cons (by (intro _ _; exact ⟨rfl, trivial⟩)) (.cons (by rfl) (.cons (by (intro _ _; exact ⟨rfl, trivial⟩)) (.cons (by trivial) (.cons (by assumption) (.cons (by rfl) (.cons (by rfl) .nil)))))))))))))))))))))))) (Nat.le_of_ble_eq_true (by kernel_rfl))

set_option maxHeartbeats 2000000 in
theorem rchg (c : Cf) (n j : Nat) (F : Fl) (P B : Nat → Int) (p b : Int) (hn : n ≤ 100) (hj : j < n) : FnOk Try.prog 35 ([.nv (.one (.ptr 0 0)), iA j, iA p, uA b]) ([.box 74 (cfC c (.own 1) ++ [.own 2, .own 3]), .ro 5 n (gFl F), .row 3 1 n (gI P), .row 22 1 n (gU64 B)]) (.any) ([.box 74 (cfC c (.own 1) ++ [.own 4, .own 5]), .ro 5 n (gFl F), .gone, .gone, .row 3 1 n (gI (putF P j p)), .row 22 1 n (gU64 (putF B j b))]) :=
  fn_run Gad8_ok Try.func35 (orc := ⟨[], []⟩) (obl := [n ≤ (4611686018427387904 : Nat),
      n * (8 : Nat) ≤ (140737488355328 : Nat),
      n ≤ (4611686018427387904 : Nat),
      n * (8 : Nat) ≤ (140737488355328 : Nat),
      (0 : Int) ≤ (↑j : Int),
      (↑j : Int) < (↑n : Int),
      Int.toNat (↑j : Int) < n,
      (0 : Int) ≤ (↑j : Int),
      (↑j : Int) < (↑n : Int),
      Int.toNat (↑j : Int) < n,
      Cf.a c = Cf.a c,
      Cf.c c = Cf.c c,
      Cf.l c = Cf.l c,
      Cf.q c = Cf.q c,
      Cf.P c = Cf.P c,
      Cf.B c = Cf.B c,
      Cf.S c = Cf.S c,
      Cf.U c = Cf.U c,
      Cf.r c = Cf.r c,
      Cf.u c = Cf.u c,
      n = n,
      ∀ (i : Nat), i < n → Fl.id F i = Fl.id F i ∧ Fl.co F i = Fl.co F i ∧ Fl.bu F i = Fl.bu F i ∧ Fl.si F i = Fl.si F i ∧ Fl.ca F i = Fl.ca F i ∧ True,
      n = n,
      ∀ (i : Nat), i < n → AllT (leAts ([(nat_lit 3, Bd.same (nat_lit 3)), (nat_lit 2, Bd.same (nat_lit 2)), (nat_lit 1, Bd.same (nat_lit 1)), (nat_lit 0, Bd.same (nat_lit 0))] ++ [] ++ ([] ++ ([] ++ ([] ++ ([] ++ ([] ++ ([] ++ ([] ++ ([] ++ ([] ++ ([] ++ ([] ++ ([] ++ ([] ++ ([((1 : Nat), Bd.same (1 : Nat))] ++ ([((4 : Nat), Bd.same (4 : Nat))] ++ ([((5 : Nat), Bd.same (5 : Nat))] ++ [])))))))))))) ++ []))) ++ ([] ++ ([] ++ ([] ++ [])) ++ []))) (6 : Nat) (if i = Int.toNat (↑j : Int) then List.take (0 : Nat) (gI P (Int.toNat (↑j : Int))) ++ [At.val (Value.int IntKind.i64 p)] ++ List.drop (1 : Nat) (gI P (Int.toNat (↑j : Int))) else gI P i) (gI (putF P j p) i)),
      n = n,
      ∀ (i : Nat), i < n → AllT (leAts ([(nat_lit 3, Bd.same (nat_lit 3)), (nat_lit 2, Bd.same (nat_lit 2)), (nat_lit 1, Bd.same (nat_lit 1)), (nat_lit 0, Bd.same (nat_lit 0))] ++ [] ++ ([] ++ ([] ++ ([] ++ ([] ++ ([] ++ ([] ++ ([] ++ ([] ++ ([] ++ ([] ++ ([] ++ ([] ++ ([] ++ ([((1 : Nat), Bd.same (1 : Nat))] ++ ([((4 : Nat), Bd.same (4 : Nat))] ++ ([((5 : Nat), Bd.same (5 : Nat))] ++ [])))))))))))) ++ []))) ++ ([] ++ ([] ++ ([] ++ [])) ++ []))) (6 : Nat) (if i = Int.toNat (↑j : Int) then List.take (0 : Nat) (gU64 B (Int.toNat (↑j : Int))) ++ [At.val (Value.int IntKind.u64 b)] ++ List.drop (1 : Nat) (gU64 B (Int.toNat (↑j : Int))) else gU64 B i) (gU64 (putF B j b) i))]) (by kernel_rfl) (.cons (by omega) (.cons (by omega) (.cons (by omega) (.cons (by omega) (.cons (by omega) (.cons (by omega) (.cons (by assumption) (.cons (by omega) (.cons (by omega) (.cons (by assumption) (.cons (by rfl) (.cons (by rfl) (.cons (by rfl) (.cons (by rfl) (.cons (by rfl) (.cons (by rfl) (.cons (by rfl) (.cons (by rfl) (.cons (by rfl) (.cons (by rfl) (.cons (by rfl) (.cons (by (simp; done)) (.cons (by rfl) (.cons (by (refine leG_eq (fun j hj => (put0 j).symm) (fun _ _ => rfl))) (.cons (by rfl) (.cons (by (refine leG_eq (fun j hj => (put1 j).symm) (fun _ _ => rfl))) .nil)))))))))))))))))))))))))) (Nat.le_of_ble_eq_true (by kernel_rfl))
end Go.Proofs.Ytmhkbepnankopaa

/- admit: the document's New, Total, change as specifications. No condition. -/
namespace Go.Proofs.Ytmhkbepnankopaa
set_option linter.unusedVariables false
set_option linter.unusedSimpArgs false
open Go.RowKit E
/-- The document's gate. -/
structure Rg where
  c : Cf
  n : Nat
  F : Fl
  P : Nat → Int
  B : Nat → Int
abbrev Rg.R (x : Rg) : List Seg := [.robox 74 (cfC x.c (.own 1) ++ [.own 2, .own 3]), .ro 5 x.n (gFl x.F), .ro 1 x.n (gI x.P), .ro 1 x.n (gU64 x.B)]
abbrev Rg.W (x : Rg) : List Seg := [.box 74 (cfC x.c (.own 1) ++ [.own 2, .own 3]), .ro 5 x.n (gFl x.F), .row 3 1 x.n (gI x.P), .row 22 1 x.n (gU64 x.B)]
abbrev Rg.V (x : Rg) : List Seg := [.box 74 (cfC x.c (.own 1) ++ [.own 4, .own 5]), .ro 5 x.n (gFl x.F), .gone, .gone, .row 3 1 x.n (gI x.P), .row 22 1 x.n (gU64 x.B)]
abbrev gone4 : List Seg := [.gone, .gone, .gone, .gone]
def rgAt (mem : List Seg) (h : Nat) : Option (Rg × List Prop) :=
  match boxAt mem h with
  | some [.val (.int .i64 a), .val (.int .i64 c), .val (.int .i64 l), .val (.int .i64 q), .val (.int .i64 P), .val (.int .u64 B), .val (.int .i64 S), .val (.int .u64 U), .val (.int .u64 r), .val (.int .u64 u), fl, p, b] =>
    match srcOf mem 5 fl, srcOf mem 1 p, srcOf mem 1 b with
    | some (n, g, _), some (n2, g2, _), some (n3, g3, _) => some (⟨⟨a, c, l, q, P, B, S, U, r, u⟩, n, flOf g, colOf g2, colOf g3⟩, [n2 = n, n3 = n, n ≤ 100])
    | _, _, _ => none
  | _ => none
theorem fnRNew (c : Cf) (n : Nat) (F : Fl) (hn : n ≤ 100) : FnOk Try.prog 17 [cfV c (.own 0)] [.ro 5 n (gFl F)] (.nv (.one (.ptr 1 0))) [.ro 5 n (gFl F), .box 74 (cfC c (.own 0) ++ [.own 2, .own 3]), .row 3 1 n (gI (fun _ => 0)), .row 22 1 n (gU64 (fun _ => 0))] := by
  refine rnew c n F ?_
  exact count_loop (P := Try.prog) (m0 := 1) (c := loopOf Try.f17 0) (n := n) (fun i => mkSt 34 [(1, .nv (.one (.ptr 1 0))), (3, .nv (.one (.ptr 2 0))), (4, iA i)] [.ro 5 n (gFl F), .box 25 (cfC c (.own 0)), .box 74 (cfC c (.own 0) ++ [.own 3, .own 4]), .row 3 1 i (gI (fun _ => 0)), .row 22 1 i (gU64 (fun _ => 0))]) (X := .exit 0) (by simp) (fun i hi => rnew_n c n i F hi hn) (rnew_e c n F hn)
def gRNew : List SV → List Seg → Option (CS × List Prop)
  | [.nv (.agg [.val (.int .i64 a), .val (.int .i64 c), .val (.int .i64 l), .val (.int .i64 q), .val (.int .i64 P), .val (.int .u64 B), .val (.int .i64 S), .val (.int .u64 U), .val (.int .u64 r), .val (.int .u64 u), fl])], mem => match srcOf mem 5 fl with
    | some (n, g, _) => some (⟨[cfV ⟨a, c, l, q, P, B, S, U, r, u⟩ (.own 0)], [.ro 5 n (gFl (flOf g))], .nv (.one (.ptr 1 0)), [.ro 5 n (gFl (flOf g)), .box 74 (cfC ⟨a, c, l, q, P, B, S, U, r, u⟩ (.own 0) ++ [.own 2, .own 3]), .row 3 1 n (gI (fun _ => 0)), .row 22 1 n (gU64 (fun _ => 0))]⟩, [n ≤ 100])
    | none => none
  | _, _ => none
theorem spRNew : SpOk Try.prog 17 (.lift gRNew) := by
  intro args mem cs obl h ho
  unfold gRNew at h
  split at h
  · split at h
    · simp only [Option.some.injEq, Prod.mk.injEq] at h
      obtain ⟨rfl, rfl⟩ := h
      exact fnRNew _ _ _ ho.1
    · cases h
  · cases h
theorem fnRTot (x : Rg) (hn : x.n ≤ 100) : FnOk Try.prog 23 [p0] x.R (.tup [.one (.val (.int .i64 (sI x.P x.n))), .one (.val (.int .u64 (sU x.B x.n)))]) gone4 := by
  obtain ⟨c, n, F, P, B⟩ := x
  refine rtot c n F P B _ _ hn ?_
  exact count_loop (P := Try.prog) (m0 := 4) (c := loopOf Try.f23 0) (n := n) (fun i => mkSt 36 [(0, .nv (.one (.ptr 0 0))), (4, iA (sI P i)), (5, uA (sU B i)), (6, iA i)] [.robox 74 (cfC c (.own 1) ++ [.own 2, .own 3]), .ro 5 n (gFl F), .ro 1 n (gI P), .ro 1 n (gU64 B)]) (X := .exit 0) (by simp) (fun i hi => rtot_n c n i F P B _ _ hi hn) (rtot_e c n F P B _ _ hn)
def gRTot : List SV → List Seg → Option (CS × List Prop)
  | [.nv (.one (.ptr h 0))], mem => match rgAt mem h with
    | some (x, o) => some (⟨[p0], x.R, .tup [.one (.val (.int .i64 (sI x.P x.n))), .one (.val (.int .u64 (sU x.B x.n)))], gone4⟩, (x.n ≤ 100) :: o)
    | none => none
  | _, _ => none
theorem spRTot : SpOk Try.prog 23 (.lift gRTot) := by
  intro args mem cs obl h ho
  unfold gRTot at h
  split at h
  · split at h
    · simp only [Option.some.injEq, Prod.mk.injEq] at h
      obtain ⟨rfl, rfl⟩ := h
      exact fnRTot _ ho.1
    · cases h
  · cases h
def Rg.chg (x : Rg) (j : Nat) (p b : Int) : Rg := { x with P := putF x.P j p, B := putF x.B j b }
def gRChg : List SV → List Seg → Option (CS × List Prop)
  | [.nv (.one (.ptr h 0)), .nv (.one (.val (.int .i64 j))), .nv (.one (.val (.int .i64 p))), .nv (.one (.val (.int .u64 b)))], mem => match rgAt mem h with
    | some (x, o) => some (⟨[p0, iA (j.toNat : Nat), iA p, uA b], x.W, .any, (x.chg j.toNat p b).V⟩, (x.n ≤ 100) :: (j.toNat < x.n) :: o)
    | none => none
  | _, _ => none
theorem spRChg : SpOk Try.prog 35 (.lift gRChg) := by
  intro args mem cs obl h ho
  unfold gRChg at h
  split at h
  · split at h
    · simp only [Option.some.injEq, Prod.mk.injEq] at h
      obtain ⟨rfl, rfl⟩ := h
      exact rchg _ _ _ _ _ _ _ _ ho.1 ho.2.1
    · cases h
  · cases h
def Gad9 : List (FuncId × Sp) := (17, .lift gRNew) :: (23, .lift gRTot) :: (35, .lift gRChg) :: Gad8
theorem Gad9_ok : CtxOk Try.prog Gad9 := ctx_cons (enter_of Try.func17 (by kernel_rfl) (by kernel_rfl)) spRNew <|
  ctx_cons (enter_of Try.func23 (by kernel_rfl) (by kernel_rfl)) spRTot <|
  ctx_cons (enter_of Try.func35 (by kernel_rfl) (by kernel_rfl)) spRChg Gad8_ok
end Go.Proofs.Ytmhkbepnankopaa

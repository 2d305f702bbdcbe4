/- MailFirst: the law. No condition. -/
import Derived.Test.YtajdkbgbekdbmaaMmC
namespace Go.Proofs.Ytajdkbgbekdbmaa
set_option linter.unusedVariables false
set_option linter.unusedSimpArgs false
open Go.RowKit E
/-! sending a row -/
theorem send_room60 {l : List Int} {j : Nat} (hj : j < l.length) (hl : l.length ≤ 50) : sndR false 60 ((l.take j).map vI) = true ∧ sndB false 60 ((l.take j).map vI) (.int .i64 (lT l j)) = (l.take (j + 1)).map vI := by
  have h1 : sndR false 60 ((l.take j).map vI) = true := by
    unfold sndR
    simp [List.length_take]; omega
  refine ⟨h1, ?_⟩
  unfold sndB
  rw [if_pos h1]
  have e : lT l j = l[j] := by unfold lT; rw [List.getD_eq_getElem?_getD, List.getElem?_eq_getElem hj]; rfl
  rw [e, List.take_succ_eq_append_getElem hj, List.map_append]
  rfl
theorem in_loop {n : Nat} {A : Nat → Option Addr} {M C : Nat → Nat} (hn : n ≤ 20) (L : List (List Int)) (al l : List Int) (i : Nat) (hl : l.length ≤ 50) : ∀ (m j : Nat), j + m = l.length →
    LoopOk Try.prog 1 (loopOf Try.f3 1) (mkSt 103 [(0, .nv (.one (.own 0))), (3, .nv (.one (.own 2))), (4, .nv (.one (.own 3))), (5, .nv (.one (.val (.slice none 0 0)))), (7, .nv (.one (.own 4))), (8, .nv (.one (.ptr 5 0))), (23, .nv (.one (.own 0))), (24, iA n), (25, iA i), (39, .nv (.one (.own 4))), (40, iA l.length), (41, iA j)] (mfM n A M C L i al ++ [.ro 1 l.length (gN (lT l)), .box 56 [.chn 6, .val (.bool false)], .chan 60 ((l.take j).map vI) false])) (.exit 2)
      (mkSt 103 [(0, .nv (.one (.own 0))), (3, .nv (.one (.own 2))), (4, .nv (.one (.own 3))), (5, .nv (.one (.val (.slice none 0 0)))), (7, .nv (.one (.own 4))), (8, .nv (.one (.ptr 5 0))), (23, .nv (.one (.own 0))), (24, iA n), (25, iA i)] (mfM n A M C L i al ++ [.ro 1 l.length (gN (lT l)), .box 56 [.chn 6, .val (.bool false)], .chan 60 (l.map vI) false]))
  | 0, j, hm => by
    have : j = l.length := by omega
    subst this
    exact LoopOk.last (by simp) (mi_x n A M C hn L al l i hl)
  | m + 1, j, hm => by
    obtain ⟨h1, h2⟩ := send_room60 (show j < l.length by omega) hl
    exact LoopOk.step (mi_r n A M C hn L al l i j (by omega) hl h1 h2) (in_loop hn L al l i hl m (j + 1) (by omega))
/-! a round of the first loop -/
noncomputable abbrev mfL : Code := loopOf Try.f3 0
set_option maxRecDepth 100000 in
theorem mf_body : mfL = .seq (subC [false] mfL) (.seq (subC [true, false] mfL) (.seq (.block 1 (.seq (subC [true, true, false, true, false] mfL) (subC [true, true, false, true, true] mfL))) (subC [true, true, true] mfL))) := by kernel_rfl
def idR : List (Nat × Bd) := [(0, .same 0), (1, .same 1), (2, .same 2), (3, .same 3), (4, .same 4)]
def r1S (n : Nat) (A : Nat → Option Addr) (M C : Nat → Nat) (L : List (List Int)) (i : Nat) (al l : List Int) : E.St := mkSt 103 [(0, .nv (.one (.own 0))), (3, .nv (.one (.own 2))), (4, .nv (.one (.own 3))), (5, .nv (.one (.val (.slice none 0 0)))), (7, .nv (.one (.own 4))), (23, .nv (.one (.own 0))), (24, iA n), (25, iA i)] (mfM n A M C L i al ++ [.ro 1 l.length (gN (lT l))])
set_option maxRecDepth 100000 in
theorem tr_in {n : Nat} {A : Nat → Option Addr} {M C : Nat → Nat} (L : List (List Int)) (al l : List Int) (i : Nat) :
    Tran 1 ⟨(mfC n A M C L i al).set 7 (.nv (.one (.own 4))), mfM n A M C L i al ++ [.ro 1 l.length (gN (lT l))]⟩ (r1S n A M C L i al l) := by
  refine Tran.leR idR ?_ ?_ (by kernel_rfl) (by kernel_rfl) (Nat.le_of_ble_eq_true rfl)
  · rw [show leTm idR (r1S n A M C L i al l).mem.length ((mfC n A M C L i al).set 7 (.nv (.one (.own 4)))) (r1S n A M C L i al l).tm = [Value.slice none 0 0 = Value.slice none 0 0, (n : Int) = n, (i : Int) = i] from by kernel_rfl]
    exact ⟨rfl, rfl, rfl, trivial⟩
  · rw [show leMem idR (r1S n A M C L i al l).mem.length (mfM n A M C L i al ++ [.ro 1 l.length (gN (lT l))]) 0 (r1S n A M C L i al l).mem = [n = n, leG idR 5 n (gRw A M C) (gRw A M C), FA L = FA L, i = i, leG idR 5 i (fun j => [.root 1 j true]) (fun j => [.root 1 j true]), al.length = al.length, leG idR 5 al.length (gN (lT al)) (gN (lT al)), l.length = l.length, leG idR 5 l.length (gN (lT l)) (gN (lT l))] from by kernel_rfl]
    exact ⟨rfl, fun j hj => ⟨rfl, trivial⟩, rfl, rfl, fun j hj => ⟨rfl, trivial⟩, rfl, fun j hj => ⟨rfl, trivial⟩, rfl, fun j hj => ⟨rfl, trivial⟩, trivial⟩
def upR : List (Nat × Bd) := [(0, .same 0), (1, .same 6), (2, .same 2), (3, .same 3)]
def z1T (n i : Nat) : List SV := (mkSt 103 [(0, .nv (.one (.own 0))), (3, .nv (.one (.own 2))), (4, .nv (.one (.own 3))), (5, .nv (.one (.val (.slice none 0 0)))), (8, .nv (.one (.ptr 4 0))), (23, .nv (.one (.own 0))), (24, iA n), (25, iA i)] []).tm
def y1S (n : Nat) (A : Nat → Option Addr) (M C : Nat → Nat) (L : List (List Int)) (i : Nat) (al : List Int) : E.St := mkSt 103 [(0, .nv (.one (.own 0))), (3, .nv (.one (.own 2))), (4, .nv (.one (.own 3))), (5, .nv (.one (.val (.slice none 0 0)))), (23, .nv (.one (.own 0))), (24, iA n), (25, iA i)] (mfM n A M C L (i + 1) al)
set_option maxRecDepth 100000 in
theorem tr_up {n : Nat} {A : Nat → Option Addr} {M C : Nat → Nat} (L : List (List Int)) (al l : List Int) (i : Nat) (hi : L.length = i) :
    Tran 1 ⟨z1T n i, [.ro 1 n (gRw A M C), .abs (FA L), .row 26 1 (i + 1) (gBx i), .row 3 1 al.length (gN (lT al)), .box tBx [.chn 5, .val (.bool false)], .chan 60 (l.map vI) false]⟩ (y1S n A M C (L ++ [l]) i al) := by
  refine (fa_grow hi).trans ?_
  refine Tran.leR upR ?_ ?_ (by kernel_rfl) (by kernel_rfl) (Nat.le_of_ble_eq_true rfl)
  · rw [show leTm upR (y1S n A M C (L ++ [l]) i al).mem.length (z1T n i) (y1S n A M C (L ++ [l]) i al).tm = [Value.slice none 0 0 = Value.slice none 0 0, (n : Int) = n, (i : Int) = i] from by kernel_rfl]
    exact ⟨rfl, rfl, rfl, trivial⟩
  · rw [show leMem upR (y1S n A M C (L ++ [l]) i al).mem.length [.ro 1 n (gRw A M C), .gone, .row 26 1 (i + 1) (rtG 6), .row 3 1 al.length (gN (lT al)), .gone, .gone, .abs (FA (L ++ [l]))] 0 (y1S n A M C (L ++ [l]) i al).mem = [n = n, leG upR 4 n (gRw A M C) (gRw A M C), FA (L ++ [l]) = FA (L ++ [l]), i + 1 = i + 1, leG upR 4 (i + 1) (rtG 6) (fun j => [.root 1 j true]), al.length = al.length, leG upR 4 al.length (gN (lT al)) (gN (lT al))] from by kernel_rfl]
    exact ⟨rfl, fun j hj => ⟨rfl, trivial⟩, rfl, rfl, fun j hj => ⟨rfl, trivial⟩, rfl, fun j hj => ⟨rfl, trivial⟩, trivial⟩
section
variable {w0 : World} {n : Nat} {A : Nat → Option Addr} {M C : Nat → Nat} {R : Nat → List Int} (hn : n ≤ 20) (hR : RwIn w0 A M C R n)
include hn hR
theorem mf_round {L : List (List Int)} {al : List Int} {i : Nat} (hi : i < n) (hs : M i ≤ 50) (hL : L.length = i) (hal : al.length ≤ 1000) :
    CodeOkW Try.prog w0 1 mfL (mfS n A M C L i al) .normal (mfS n A M C (L ++ [R i]) (i + 1) (al ++ R i)) := by
  have hlen := hR.len i hi
  rw [mf_body]
  refine CodeOkW.seq (mf_a n A M C hn L al i hi).inW (CodeOkW.seq (mf_b n A M C hn L al i).inW (CodeOkW.seq (CodeOkW.blk (CodeOkW.seq (mf_c n A M C L al i hi).inW ?_)) (mf_d n A M C hn (L ++ [R i]) (al ++ R i) i hi).inW))
  refine CodeOkW.bringS (t := 7) (ao := A i) (n := M i) (cap := C i) (wd := 1) (g := gN (lT (R i))) ?_ (fun env' he => hR.seg i hi _ env' he) ?_
  · show (mfC n A M C L i al)[7]? = _
    unfold mfC
    rw [Int.toNat_natCast]
    rw [List.getElem?_set_self (Nat.le_of_ble_eq_true (by kernel_rfl))]
    rfl
  · have h1 := mf_r n A M C hn L al (R i) i hi (by omega) (by omega) (by simp) (in_loop (A := A) (M := M) (C := C) hn L al (R i) i (by omega) (R i).length 0 (by omega)).code
    have h2 := (CodeOk.pre (tr_in (n := n) (A := A) (M := M) (C := C) L al (R i) i) h1).post (tr_up (n := n) (A := A) (M := M) (C := C) L (al ++ R i) (R i) i hL)
    rw [hlen] at h2
    exact h2.inW
/-- The first rows. -/
def rwL (R : Nat → List Int) (i : Nat) : List (List Int) := (List.range i).map R
omit hn hR in
theorem rwL_succ (R : Nat → List Int) (i : Nat) : rwL R (i + 1) = rwL R i ++ [R i] := by simp [rwL, List.range_succ]
omit hn hR in
theorem rwL_len (R : Nat → List Int) (i : Nat) : (rwL R i).length = i := by simp [rwL]
omit hn in
theorem al_len : ∀ i, i ≤ n → (∀ j, j < i → M j ≤ 50) → (rwL R i).flatten.length ≤ 50 * i
  | 0, _, _ => by simp [rwL]
  | i + 1, h, hs => by
    have h1 := al_len i (by omega) (fun j hj => hs j (by omega))
    have h2 := hR.len i (by omega)
    have h3 := hs i (by omega)
    rw [rwL_succ, List.flatten_append, List.length_append]
    have e : [R i].flatten.length = (R i).length := by simp
    rw [e]
    omega
theorem mf_next {i : Nat} (hi : i < n) (hs : ∀ j, j ≤ i → M j ≤ 50) : CodeOkW Try.prog w0 1 mfL (mfS n A M C (rwL R i) i (rwL R i).flatten) .normal (mfS n A M C (rwL R (i + 1)) (i + 1) (rwL R (i + 1)).flatten) := by
  have h := mf_round hn hR (L := rwL R i) (al := (rwL R i).flatten) hi (hs i (Nat.le_refl _)) (rwL_len R i) (by have := al_len hR i (by omega) (fun j hj => hs j (by omega)); omega)
  rw [rwL_succ, List.flatten_append]
  simpa using h
end
set_option maxRecDepth 100000 in
theorem tr_0 {n : Nat} {A : Nat → Option Addr} {M C : Nat → Nat} : Tran 1 (mkSt 103 [(0, .nv (.one (.own 0))), (3, .nv (.one (.val (.slice none 0 0)))), (4, .nv (.one (.val (.slice none 0 0)))), (5, .nv (.one (.val (.slice none 0 0)))), (23, .nv (.one (.own 0))), (24, iA n), (25, iA (0 : Nat))] [.ro 1 n (gRw A M C)]) (mfS n A M C [] 0 []) := by
  refine (fa_nil (m0 := 1) (tm := (mkSt 103 [(0, .nv (.one (.own 0))), (3, .nv (.one (.val (.slice none 0 0)))), (4, .nv (.one (.val (.slice none 0 0)))), (5, .nv (.one (.val (.slice none 0 0)))), (23, .nv (.one (.own 0))), (24, iA n), (25, iA (0 : Nat))] []).tm) (mem := [.ro 1 n (gRw A M C)])).trans ?_
  refine Tran.leR [(0, .same 0), (1, .same 1), (2, .nil), (3, .nil)] ?_ ?_ (by kernel_rfl) (by kernel_rfl) (Nat.le_of_ble_eq_true rfl)
  · rw [show leTm [(0, .same 0), (1, .same 1), (2, .nil), (3, .nil)] (mfS n A M C [] 0 []).mem.length (mkSt 103 [(0, .nv (.one (.own 0))), (3, .nv (.one (.val (.slice none 0 0)))), (4, .nv (.one (.val (.slice none 0 0)))), (5, .nv (.one (.val (.slice none 0 0)))), (23, .nv (.one (.own 0))), (24, iA n), (25, iA (0 : Nat))] []).tm (mfS n A M C [] 0 []).tm = [Value.slice none 0 0 = Value.slice none 0 0, (n : Int) = n, ((0 : Nat) : Int) = (0 : Nat)] from by kernel_rfl]
    exact ⟨rfl, rfl, rfl, trivial⟩
  · rw [show leMem [(0, .same 0), (1, .same 1), (2, .nil), (3, .nil)] (mfS n A M C [] 0 []).mem.length ([.ro 1 n (gRw A M C)] ++ [.abs (FA [])]) 0 (mfS n A M C [] 0 []).mem = [n = n, leG [(0, .same 0), (1, .same 1), (2, .nil), (3, .nil)] 4 n (gRw A M C) (gRw A M C), FA [] = FA [], 0 = 0, ([] : List Int).length = 0] from by kernel_rfl]
    exact ⟨rfl, fun j hj => ⟨rfl, trivial⟩, rfl, rfl, rfl, trivial⟩
theorem CodeOkW.pre {P : Program} {w0 : World} {m0 : Nat} {c : Code} {st st1 st2 : E.St} {e : Ex} (h : Tran m0 st st1) (k : CodeOkW P w0 m0 c st1 e st2) : CodeOkW P w0 m0 c st e st2 := fun cx env a w k1 k2 hm0 hk => by
  obtain ⟨e1, h1⟩ := h cx env a w hm0 hk
  exact k cx e1 a w k1 k2 hm0 h1
section
variable {w0 : World} {n : Nat} {A : Nat → Option Addr} {M C : Nat → Nat} {R : Nat → List Int} (hn : n ≤ 20) (hR : RwIn w0 A M C R n)
include hn hR
theorem loop1_all (hs : ∀ j, j < n → M j ≤ 50) : CodeOkW Try.prog w0 1 (.loop mfL) (mfS n A M C [] 0 []) (.exit 0) (mkSt 103 [(0, .nv (.one (.own 0))), (3, .nv (.one (.own 2))), (4, .nv (.one (.own 3))), (5, .nv (.one (.val (.slice none 0 0))))] (mfM n A M C (rwL R n) n (rwL R n).flatten)) := by
  refine loopW_ok (α := Nat) (fun i => mfS n A M C (rwL R i) i (rwL R i).flatten) (fun i => i ≤ n) (fun i => n - i) (by simp) ?_ (x := 0) (Nat.zero_le _)
  intro i hi
  by_cases e : i = n
  · subst e
    exact .inr (mf_x i A M C hn (rwL R i) (rwL R i).flatten).inW
  · exact .inl ⟨i + 1, (by omega : i + 1 ≤ n), (by omega : n - (i + 1) < n - i), mf_next hn hR (by omega) (fun j hj => hs j (by omega))⟩
theorem loop1_ret {k : Nat} (hk : k < n) (hl : 50 < M k) (hs : ∀ j, j < k → M j ≤ 50) : CodeOkW Try.prog w0 1 (.loop mfL) (mfS n A M C [] 0 []) .ret (mkSt 103 [(2, bA true)] [.ro 1 n (gRw A M C)]) := by
  refine loopW_ok (α := Nat) (fun i => mfS n A M C (rwL R i) i (rwL R i).flatten) (fun i => i ≤ k) (fun i => k - i) (by simp) ?_ (x := 0) (Nat.zero_le _)
  intro i hi
  by_cases e : i = k
  · subst e
    exact .inr (mf_ret n A M C hn (rwL R i) (rwL R i).flatten i hk hl).inW
  · exact .inl ⟨i + 1, (by omega : i + 1 ≤ k), (by omega : k - (i + 1) < k - i), mf_next hn hR (by omega) (fun j hj => hs j (by omega))⟩
end
/-! taking all -/
theorem flat_nil : ∀ {L : List (List Int)}, (∀ j, j < L.length → L[j]? = some []) → L.flatten = []
  | [], _ => rfl
  | l :: L, h => by
    have h0 := h 0 (by simp)
    simp at h0
    subst h0
    rw [List.flatten_cons, List.nil_append]
    exact flat_nil (fun j hj => by have := h (j + 1) (by simp; omega); simpa using this)
theorem flat_hit : ∀ {L : List (List Int)} {k : Nat} {x : Int} {t : List Int}, (∀ j, j < k → L[j]? = some []) → L[k]? = some (x :: t) → L.flatten = x :: (L.set k t).flatten
  | [], _, _, _, _, h => by simp at h
  | l :: L, 0, x, t, _, h => by
    simp at h; subst h; simp
  | l :: L, k + 1, x, t, h, hk => by
    have h0 := h 0 (by omega)
    simp at h0
    subst h0
    rw [List.set_cons_succ, List.flatten_cons, List.flatten_cons, List.nil_append, List.nil_append]
    exact flat_hit (fun j hj => by have := h (j + 1) (by omega); simpa using this) (by simpa using hk)
def m3S (n : Nat) (A : Nat → Option Addr) (M C : Nat → Nat) (al : List Int) (L : List (List Int)) (k la : Nat) : E.St := mkSt 103 [(0, .nv (.one (.own 0))), (3, .nv (.one (.own 2))), (4, .nv (.one (.own 3))), (5, .nv (.one (.own 4))), (12, iA la), (59, iA al.length), (60, iA k)] (mfM n A M C L n al ++ [.row 3 1 k (gN (lT al))])
theorem loop3 {n : Nat} (hn : n ≤ 20) {A : Nat → Option Addr} {M C : Nat → Nat} {al : List Int} (hal : al.length ≤ 2000) : ∀ (m k la : Nat) (L : List (List Int)), k + m = al.length → L.length = n → L.flatten = al.drop k → (∀ j, j < la → L[j]? = some []) → ∃ L', L'.length = n ∧ L'.flatten = [] ∧
    LoopOk Try.prog 1 (loopOf Try.f3 2) (m3S n A M C al L k la) (.exit 4) (mkSt 103 [(3, .nv (.one (.own 2))), (4, .nv (.one (.own 3))), (5, .nv (.one (.own 4)))] (mfM n A M C L' n al ++ [.row 3 1 al.length (gN (lT al))]))
  | 0, k, la, L, hm, hl, hf, hla => by
    have : k = al.length := by omega
    subst this
    rw [List.drop_length] at hf
    exact ⟨L, hl, hf, LoopOk.last (by simp) (m3_x ⟨[], n, 0, 0, []⟩ A M C hn al hal L la)⟩
  | m + 1, k, la, L, hm, hl, hf, hla => by
    have hk : k < al.length := by omega
    rw [List.drop_eq_getElem_cons hk] at hf
    rcases first_fn hn hl with ⟨q1, q2⟩ | ⟨k', x, t, q1, q2, q3, q4⟩
    · rw [flat_nil (fun j hj => q1 j (by omega))] at hf
      cases hf
    · have hh := flat_hit q2 q3
      rw [hf] at hh
      injection hh with hx ht
      have hle : la ≤ k' := by
        by_cases z : k' < la
        · have := hla k' z
          rw [q3] at this; cases this
        · omega
      have hxx : lT al k = x := by
        unfold lT
        rw [List.getD_eq_getElem?_getD, List.getElem?_eq_getElem hk]
        exact hx
      obtain ⟨L', l1, l2, l3⟩ := loop3 hn (A := A) (M := M) (C := C) hal m (k + 1) k' (L.set k' t) (by omega) (by rw [List.length_set]; exact hl) ht.symm (fun j hj => by rw [List.getElem?_set_ne (by omega)]; exact q2 j hj)
      exact ⟨L', l1, l2, LoopOk.step (m3_r ⟨L, n, k', x, t⟩ q4 A M C hn al hal k la hk hle q1 hxx) l3⟩
theorem mfirst_law {w0 : World} {n : Nat} {A : Nat → Option Addr} {M C : Nat → Nat} {R : Nat → List Int} (hR : RwIn w0 A M C R n) : LawOkW Try.prog w0 3 [.nv (.one (.own 0))] [.ro 1 n (gRw A M C)] (bA true) := by
  by_cases hn : 20 < n
  · intro env vals hv hm
    exact mf_l n A M C hn env vals w0 hv hm
  have hn : n ≤ 20 := by omega
  by_cases hs : ∀ j, j < n → M j ≤ 50
  · have l1 := CodeOkW.pre tr_0 (loop1_all hn hR hs)
    have hal := al_len hR n (Nat.le_refl _) hs
    obtain ⟨L', e1, e2, l3⟩ := loop3 hn (A := A) (M := M) (C := C) (al := (rwL R n).flatten) (by omega) (rwL R n).flatten.length 0 0 (rwL R n) (by omega) (rwL_len R n) (by rw [List.drop_zero]) (fun j hj => absurd hj (by omega))
    have hfn : FnCs 10 (csFn ⟨L', n, 0, 0, []⟩) := by
      rcases first_fn hn e1 with ⟨_, q⟩ | ⟨k', x, t, q1, q2, q3, q4⟩
      · exact q
      · have := flat_hit q2 q3
        rw [e2] at this; cases this
    exact mf_f w0 ⟨L', n, (rwL R n).flatten⟩ ⟨hfn, by show (rwL R n).flatten.length ≤ _; omega⟩ A M C hn (rwL R n) (by show (rwL R n).flatten.length ≤ _; omega) l1 l3.code.inW
  · have : ∃ k, k < n ∧ 50 < M k ∧ ∀ j, j < k → M j ≤ 50 := by
      have key : ∀ m, (∀ j, j < m → M j ≤ 50) ∨ ∃ k, k < m ∧ 50 < M k ∧ ∀ j, j < k → M j ≤ 50 := by
        intro m
        induction m with
        | zero => exact .inl (fun j hj => absurd hj (by omega))
        | succ m ih =>
          rcases ih with q | ⟨k, q1, q2⟩
          · by_cases e : M m ≤ 50
            · exact .inl (fun j hj => by
                by_cases z : j = m
                · subst z; exact e
                · exact q j (by omega))
            · exact .inr ⟨m, by omega, by omega, q⟩
          · exact .inr ⟨k, by omega, q2⟩
      rcases key n with q | q
      · exact absurd q hs
      · exact q
    obtain ⟨k, k1, k2, k3⟩ := this
    exact mf_lr w0 n A M C hn (CodeOkW.pre tr_0 (loop1_ret hn hR k1 k2 k3))
theorem mfirst_walk (a0 : Option Addr) (len cap : Nat) (w : World) (r0 : Reads w (.slice 1 (.slice 1 (.int .i64))) (Value.slice a0 len cap).cells.toList) :
    Calls Try.prog 3 #[.slice a0 len cap] w fun e w' => e = .returned (.bool true) ∧ Ext w w' := by
  obtain ⟨A, M, C, R, hR, hs⟩ := rows_in (h := 0) (Env.put_same (env := noEnv) 0 (.slice a0 len cap)) r0
  refine (mfirst_law hR _ [.slice a0 len cap] ⟨⟨Env.put_same (env := noEnv) 0 (.slice a0 len cap), _, _, _, rfl⟩, trivial⟩ (one_ro hs)).mono ?_
  rintro e w' ⟨u, rfl, hu, hx⟩
  exact ⟨by rw [show u = .bool true from hu], hx⟩
end Go.Proofs.Ytajdkbgbekdbmaa

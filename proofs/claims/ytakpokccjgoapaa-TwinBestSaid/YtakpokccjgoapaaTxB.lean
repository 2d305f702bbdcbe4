/- TwinBest returns true. No condition. -/
import Derived.Test.YtakpokccjgoapaaTyE
import Derived.Test.YtakpokccjgoapaaEB
namespace Go.Proofs.Ytakpokccjgoapaa
set_option linter.unusedVariables false
set_option linter.unusedSimpArgs false
open Go.RowKit E

abbrev rkIt (R : Nat → Int) : It := ⟨R, fun j => j⟩
def bt (R : Nat → Int) (n : Nat) : Nat → Tw Int × Int
  | 0 => (tw0I, 0)
  | i + 1 => ((bt R n i).1.sqz (min n i) (R i) (bt R n i).2 n i, sqC (bt R n i).1 (min n i) (R i) (bt R n i).2 n)
theorem bt_ok (R : Nat → Int) {n : Nat} (hn : 1 ≤ n) : ∀ i, i ≤ 300 → Sim (min n i) (bt R n i).1 (bt R n i).2 (srtIt (rkIt R) i) ∧ 0 ≤ (bt R n i).2 ∧ (bt R n i).2 ≤ i
  | 0, _ => ⟨by rw [Nat.min_zero]; exact Sim.zero _ _ _ (show (0 : Int) < 18446744073709551616 by decide), Int.le_refl _, Int.le_refl _⟩
  | i + 1, hi => by
    obtain ⟨h1, h2, h3⟩ := bt_ok R hn i (by omega)
    obtain ⟨b1, b2, b3, b4⟩ := Sim.best (rkIt R) h1 hn h2 (by omega)
    rw [b2] at b1
    exact ⟨b1, (show 0 ≤ sqC (bt R n i).1 (min n i) (R i) (bt R n i).2 n by have : (bt R n i).2 ≤ sqC (bt R n i).1 (min n i) (R i) (bt R n i).2 n := b3; omega), by
      have : sqC (bt R n i).1 (min n i) (R i) (bt R n i).2 n ≤ (bt R n i).2 + 1 := b4
      show sqC (bt R n i).1 (min n i) (R i) (bt R n i).2 n ≤ ((i + 1 : Nat) : Int)
      omega⟩
def pt (T : Tw Int) (N : Nat) : Nat → Tw Int
  | 0 => T
  | k + 1 => (pt T N k).popL (N - k)
def shIt (L : It) (k : Nat) : It := ⟨fun j => L.r (k + j), fun j => L.x (k + j)⟩
theorem pt_ok {T : Tw Int} {N : Nat} {c : Int} {L : It} (h : Sim N T c L) : ∀ k, k ≤ N → Sim (N - k) (pt T N k) c (shIt L k)
  | 0, _ => h.congr (fun j hj => by unfold shIt; simp)
  | k + 1, hk => (pt_ok h k (by omega)).popL.congr (fun j hj => by unfold shIt It.rest; simp only; rw [show k + (j + 1) = k + 1 + j by omega]; exact ⟨rfl, rfl⟩)
theorem be_loop0 (len n : Nat) (hn : 1 ≤ n ∧ n ≤ 50) (hl : len ≤ 300) (R : Nat → Int) :
    CodeOk Try.prog 1 (.loop (loopOf Try.f5 0)) (mkSt 106 [(5, iA n), (6, .nv (.one (.ptr 1 0))), (8, .nv (.one (.own 3))), (9, iA 0), (33, .nv (.one (.own 0))), (34, iA len), (35, iA (0 : Nat))] (beMem len n 0 0 0 R tw0I ⟨R, fun j => j⟩)) (.exit 0)
      (mkSt 106 [(5, iA n), (6, .nv (.one (.ptr 1 0))), (8, .nv (.one (.own 3))), (9, iA ((len - min n len : Nat) : Int))] (beMem len n (min n len) len (bt R n len).2 R (bt R n len).1 ⟨R, fun j => j⟩)) := by
  refine loop_ok (α := Nat × Nat × Int) (fun z => mkSt 106 [(5, iA n), (6, .nv (.one (.ptr 1 0))), (8, .nv (.one (.own 3))), (9, iA z.2.2), (33, .nv (.one (.own 0))), (34, iA len), (35, iA z.1)] (beMem len n z.2.1 z.1 (bt R n z.1).2 R (bt R n z.1).1 ⟨R, fun j => j⟩))
    (fun z => z.1 ≤ len ∧ z.2.1 = min n z.1 ∧ z.2.2 = ((z.1 - min n z.1 : Nat) : Int)) (fun z => len - z.1) (by simp) ?_ (x := (0, 0, 0)) ⟨Nat.zero_le _, by simp, by simp⟩
  rintro ⟨i, nt, o⟩ ⟨i1, i2, i3⟩
  simp only at i1 i2 i3
  by_cases e : i = len
  · subst e; subst i2; subst i3
    exact .inr (be_e i n _ _ _ R _)
  obtain ⟨h1, h2, h3⟩ := bt_ok R hn.1 i (by omega)
  obtain ⟨b1, b2, b3, b4⟩ := Sim.best (rkIt R) h1 hn.1 h2 (by omega)
  have hr : room (bt R n i).2 n nt := ⟨by omega, by omega, h2, by omega⟩
  have b2 : sqN (bt R n i).1 nt (R i) n = min n (i + 1) := by rw [i2]; exact b2
  by_cases q : (nt : Int) < (n : Int)
  · refine .inl ⟨(i + 1, sqN (bt R n i).1 nt (R i) n, o), ⟨(show i + 1 ≤ len by omega), b2, (show o = ((i + 1 - min n (i + 1) : Nat) : Int) by omega)⟩, (show len - (i + 1) < len - i by omega), ?_⟩
    have := be_n0 len n nt i o (bt R n i).2 R (bt R n i).1 (by omega) hl hr (by omega) (by omega) q (by rw [decide_eq_true q]; rfl)
    subst i2
    exact this
  · refine .inl ⟨(i + 1, sqN (bt R n i).1 nt (R i) n, o + 1), ⟨(show i + 1 ≤ len by omega), b2, (show o + 1 = ((i + 1 - min n (i + 1) : Nat) : Int) by omega)⟩, (show len - (i + 1) < len - i by omega), ?_⟩
    have := be_n1 len n nt i o (bt R n i).2 R (bt R n i).1 (by omega) hl hr (by omega) (by omega) q (by rw [decide_eq_false q]; rfl) (w64 rfl (by omega))
    subst i2
    exact this
theorem be_loop1 (len n N : Nat) (hN : N ≤ len) (hl : len ≤ 300) (R : Nat → Int) (c : Int) (T : Tw Int) (L : It) (h : Sim N T c L) :
    CodeOk Try.prog 1 (.loop (loopOf Try.f5 1)) (mkSt 106 [(6, .nv (.one (.ptr 1 0))), (8, .nv (.one (.own 3))), (69, iA N), (70, iA (0 : Nat))] (beMem len n N len c R T L)) (.exit 2)
      (mkSt 106 [(6, .nv (.one (.ptr 1 0)))] (beMem len n (N - N) len c R (pt T N N) L)) := by
  refine loop_ok (α := Nat) (fun k => mkSt 106 [(6, .nv (.one (.ptr 1 0))), (8, .nv (.one (.own 3))), (69, iA N), (70, iA k)] (beMem len n (N - k) len c R (pt T N k) L)) (fun k => k ≤ N) (fun k => N - k) (by simp) ?_ (x := 0) (Nat.zero_le _)
  intro k hk
  by_cases e : k = N
  · subst e; exact .inr (bf_e len n k _ c R _ L)
  · have s := (pt_ok h k hk).first
    have p : 0 < N - k := by omega
    unfold fiR fiX at s
    rw [if_pos p, if_pos p, decide_eq_true p] at s
    exact .inl ⟨k + 1, (show k + 1 ≤ N by omega), (show N - (k + 1) < N - k by omega), bf_n len n N (N - k) k c R _ L (by omega) hN hl (by omega) s.1 s.2.1 s.2.2⟩
theorem best_walk (rm : Int) (a1 : Option Addr) (len cap : Nat) (w : World) (w0 : (Lit.int .u8 rm).wf = true) (r1 : Reads w (.slice 1 (.int .u64)) (Value.slice a1 len cap).cells.toList) :
    Calls Try.prog 5 #[.int .u8 rm, .slice a1 len cap] w fun e w' => e = .returned (.bool true) ∧ Ext w w' := by
  have hrm := wf_u8 w0
  have he := Env.put_same (env := noEnv) 0 (.slice a1 len cap)
  obtain ⟨R, hs⟩ : ∃ R : Nat → Int, SegOk (noEnv.put 0 (.slice a1 len cap)) w 0 (.ro 1 len (rkT R)) := by
    obtain ⟨es, b1, hs⟩ := vals_seg (h := 0) (s := .int .u64) he rfl r1
    exact ⟨fun k => cI (es k) 0, hs⟩
  obtain ⟨n, hn, hn1⟩ : ∃ n : Nat, IntKind.wrap IntKind.i64 (IntKind.wrap IntKind.i64 (Int.tmod rm 50) + 1) = (n : Nat) ∧ 1 ≤ n ∧ n ≤ 50 := by
    have e0 : Int.tmod rm 50 = rm % 50 := Int.tmod_eq_emod_of_nonneg hrm.1
    refine ⟨(rm % 50 + 1).toNat, ?_, by omega, by omega⟩
    rw [e0, w64 (a := rm % 50) (b := rm % 50) rfl (by omega)]
    exact w64 (by omega) (by omega)
  have fin : LawOk Try.prog 5 [.nv (.one (.val (.int .u8 rm))), .nv (.one (.own 0))] [.ro 1 len (rkT R)] (bA true) := by
    by_cases hl : 300 < len
    · exact be_l len R rm hl
    · have hl : len ≤ 300 := by omega
      have s := (bt_ok R hn1.1 len hl).1
      refine be_m len n (min n len) (min n len) (min n len - min n len) R rm _ _ _ _ _ (Nat.sub_self _) hn hn1 hl ?_ ?_ (be_loop0 len n hn1 hl R) (be_loop1 len n (min n len) (by omega) hl R _ _ _ s)
      · refine bne_eq_false_iff_eq.2 ?_
        rw [show IntKind.wrap IntKind.i64 ((len : Int) - n) = (len : Int) - n from w64 rfl (by omega)]
        simp only [List.foldl]
        split <;> omega
      · simp only [List.foldl]
        split <;> omega
  refine (fin _ [.int .u8 rm, .slice a1 len cap] w ⟨rfl, ⟨he, _, _, _, rfl⟩, trivial⟩ (one_ro hs)).mono ?_
  rintro e w' ⟨u, rfl, hu, hx⟩
  exact ⟨by rw [show u = .bool true from hu], hx⟩
end Go.Proofs.Ytakpokccjgoapaa

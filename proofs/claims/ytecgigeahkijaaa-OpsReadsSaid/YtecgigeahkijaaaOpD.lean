/- ops: one and begins as specifications. No condition. -/
import Derived.Test.YtecgigeahkijaaaOpC
namespace Go.Proofs.Ytecgigeahkijaaa
set_option linter.unusedVariables false
set_option linter.unusedSimpArgs false
open Go.RowKit E
def gBegins : List SV → Option (SV × List Prop)
  | [.nv (.one (.val (.int .u64 c)))] => some (bA (begB c), [])
  | _ => none
theorem spBegins : SpOk Try.prog 14 (pureS gBegins) := pureS_ok (by
  intro args r obl h ho
  unfold gBegins at h
  split at h
  · rename_i c
    simp only [Option.some.injEq, Prod.mk.injEq] at h
    obtain ⟨rfl, rfl⟩ := h
    refine ⟨rfl, rfl, ?_⟩
    unfold begB
    by_cases l : c < 1
    · rw [decide_eq_false (show ¬ 1 ≤ c by omega), Bool.false_and]; exact bg_l c l
    · by_cases g : 4 < c
      · rw [decide_eq_false (show ¬ c ≤ 4 by omega), Bool.and_false]; exact bg_h c g
      · rw [decide_eq_true (show 1 ≤ c by omega), decide_eq_true (show c ≤ 4 by omega)]; exact bg_t c (by omega) (by omega)
  · cases h)
theorem fixV_lt (s : ByteArray) (w : Int) (h0 : 0 ≤ w) : fixV s w < 256 ^ w.toNat := by
  unfold fixV
  have hp : (0 : Int) < 256 ^ w.toNat := Int.pow_pos (by omega)
  split
  · exact hp
  · have := bigZ_bd ((ints s).take w.toNat) 0 (inB_take (inB_ints s) _) (Int.le_refl _)
    have hq := ipow_le (b := 256) (by decide) (i := ((ints s).take w.toNat).length) (j := w.toNat) (by rw [List.length_take]; omega)
    omega
theorem fld_word {s : ByteArray} {K : Nat → Int} {i : Nat} (h : K i = 3) : 0 ≤ (fldT s K i).n ∧ (fldT s K i).n < 4294967296 := by
  have h0 := (oneZ_n (fromZ s (atN s K i)) (K i)).1
  refine ⟨h0, ?_⟩
  show (oneZ (fromZ s (atN s K i)) (K i)).1 < _
  rw [h]
  have := fixV_lt (fromZ s (atN s K i)) 4 (by decide)
  exact this
theorem pureOneO (s : ByteArray) (h1 : 1 ≤ s.size) (hz : s.size ≤ 100000000) (hb : begB (byteAt s 0) = true) :
    PureOk Try.prog 15 [sA s] (.tup [.agg (oA (oneX s)), .one (.val (.int .i64 ((if oneW s = true then oneL s else 0 : Nat) : Int))), .one (.val (.bool (oneW s)))]) := by
  have hc := byteAt_bd s 0
  have ec : IntKind.wrap IntKind.i64 (byteAt s 0) = byteAt s 0 := w64 rfl (by omega)
  have hs1 := fromZ_size h1
  generalize hcc : byteAt s 0 = c at hc ec hb
  have hb' : 1 ≤ c ∧ c ≤ 4 := by
    unfold begB at hb
    simp only [Bool.and_eq_true, decide_eq_true_eq] at hb
    exact hb
  have hnb : ¬ begB c = false := by rw [hb]; decide
  unfold oneX oneW oneL
  rw [hcc, if_neg hnb, if_neg hnb, if_neg hnb]
  replace ec : IntKind.wrap IntKind.i64 (byteAt s 0) = c := by rw [hcc]; exact ec
  by_cases c1 : c = 1
  · subst c1
    rw [show kindsN 1 = 3 from rfl]
    have he : ∀ K : Nat → Int, (∀ j, j < 3 → K j = kindsF 1 j) → errT (fromZ s 1) K 3 = errT (fromZ s 1) (kindsF 1) 3 := fun K hK => (take_congr hK).1
    by_cases e : errT (fromZ s 1) (kindsF 1) 3 = 0
    · have ha := atN_le e
      rw [hs1] at ha
      rw [if_neg (fun q => q e), if_pos rfl, decide_eq_true e, if_pos rfl]
      have w0 := fld_word (s := fromZ s 1) (K := kindsF 1) (i := 0) rfl
      have w1 := fld_word (s := fromZ s 1) (K := kindsF 1) (i := 1) rfl
      refine oq_1k s hz h1 _ _ _ _ _ ec he e (fun K hK => ?_) (fun K hK => ?_) (fun K hK => ?_) (fun K hK => ?_)
      · rw [fld_congr (n := 0) (fun j hj => hK j (by omega))]; exact wU32 rfl (by omega)
      · rw [fld_congr (n := 1) (fun j hj => hK j (by omega))]; exact wU32 rfl (by omega)
      · rw [fld_congr (n := 2) (fun j hj => hK j (by omega))]
      · rw [(take_congr hK).1, (take_congr hK).2, if_pos e]; exact w64 (by omega) (by omega)
    · rw [if_pos e, decide_eq_false e, if_neg (by decide)]
      exact oq_1e s hz h1 _ ec he e
  · by_cases c3 : c = 3
    · subst c3
      rw [show kindsN 3 = 1 from rfl]
      have he : ∀ K : Nat → Int, (∀ j, j < 1 → K j = kindsF 3 j) → errT (fromZ s 1) K 1 = errT (fromZ s 1) (kindsF 3) 1 := fun K hK => (take_congr hK).1
      by_cases e : errT (fromZ s 1) (kindsF 3) 1 = 0
      · have ha := atN_le e
        rw [hs1] at ha
        rw [if_neg (fun q => q e), if_neg (by decide), if_pos rfl, decide_eq_true e, if_pos rfl]
        refine oq_3k s hz h1 _ _ _ ec he e (fun K hK => ?_) (fun K hK => ?_)
        · rw [fld_congr (n := 0) (fun j hj => hK j (by omega))]
        · rw [(take_congr hK).1, (take_congr hK).2, if_pos e]; exact w64 (by omega) (by omega)
      · rw [if_pos e, decide_eq_false e, if_neg (by decide)]
        exact oq_3e s hz h1 _ ec he e
    · have k0 : kindsN c = 0 := by unfold kindsN; rw [if_neg c1, if_neg c3]
      rw [k0]
      have e : errT (fromZ s 1) (kindsF c) 0 = 0 := rfl
      rw [if_neg (fun q => q e), if_neg c1, if_neg c3, decide_eq_true e, if_pos rfl]
      exact oq_2 s hz h1 c ec c1 c3
def gOneO : List SV → Option (SV × List Prop)
  | [.nv (.one (.val (.string s)))] => some (.tup [.agg (oA (oneX s)), .one (.val (.int .i64 ((if oneW s = true then oneL s else 0 : Nat) : Int))), .one (.val (.bool (oneW s)))], [1 ≤ s.size, s.size ≤ 100000000, begB (byteAt s 0) = true])
  | _ => none
theorem spOneO : SpOk Try.prog 15 (pureS gOneO) := pureS_ok (by
  intro args r obl h ho
  unfold gOneO at h
  split at h
  · simp only [Option.some.injEq, Prod.mk.injEq] at h
    obtain ⟨rfl, rfl⟩ := h
    exact ⟨rfl, rfl, pureOneO _ ho.1 ho.2.1 ho.2.2.1⟩
  · cases h)
def GoA : List (FuncId × Sp) := (14, pureS gBegins) :: (15, pureS gOneO) :: GbI
theorem GoA_ok : CtxOk Try.prog GoA := ctx_cons (enter_of Try.func14 (by kernel_rfl) (by kernel_rfl)) spBegins <|
  ctx_cons (enter_of Try.func15 (by kernel_rfl) (by kernel_rfl)) spOneO GbI_ok
end Go.Proofs.Ytecgigeahkijaaa

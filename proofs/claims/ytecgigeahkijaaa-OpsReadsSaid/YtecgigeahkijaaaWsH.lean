/- wire: one and read as specifications. No condition. -/
import Derived.Test.YtecgigeahkijaaaWsG
namespace Go.Proofs.Ytecgigeahkijaaa
set_option linter.unusedVariables false
set_option linter.unusedSimpArgs false
open Go.RowKit E
theorem pureWOne (s : ByteArray) (k : Int) (hz : s.size ≤ 140737488355328) : PureOk Try.prog 30 [sA s, iA k] (.tup [.agg [.val (.int .i64 k), .val (.int .u64 (oneZ s k).1), .val (.string (oneZ s k).2.1)], .one (.val (.int .i64 (oneZ s k).2.2.1)), .one (.val (.int .i64 (oneZ s k).2.2.2))]) := by
  have hw := widthZ_bd k
  unfold oneZ
  by_cases q : 0 < widthZ k
  · rw [if_pos q]; exact ow_w s k hz q hw.2
  · rw [if_neg q]
    by_cases q5 : k = 5
    · rw [if_pos q5]; exact ow_5 s k hz q q5
    · rw [if_neg q5]
      by_cases q6 : k = 6
      · rw [if_pos q6]; exact ow_6 s k hz q q6
      · rw [if_neg q6]; exact ow_x s k hz q q5 q6
theorem rd_loop (s : ByteArray) (k w : Int) (h0 : 0 ≤ w) (h8 : w ≤ 8) (hs : w ≤ s.size) (hz : s.size ≤ 140737488355328) :
    CodeOk Try.prog 0 (.loop (loopOf Try.f25 0)) (mkSt 88 [(0, sA s), (1, iA k), (4, .nv (.one (.ptr 0 0))), (7, .nv (.one (.ptr 1 0))), (8, iA w), (9, iA (0 : Nat))] [.box 47 [.val (.int .i64 0), .val (.int .u64 0), .val (.string ⟨#[]⟩)], .box 47 [.val (.int .i64 k), .val (.int .u64 0), .val (.string ⟨#[]⟩)]]) (.exit 0) (mkSt 88 [(0, sA s), (1, iA k), (4, .nv (.one (.ptr 0 0))), (7, .nv (.one (.ptr 1 0))), (8, iA w)] [.box 47 [.val (.int .i64 0), .val (.int .u64 0), .val (.string ⟨#[]⟩)], .box 47 [.val (.int .i64 k), .val (.int .u64 (bigZ 0 ((ints s).take w.toNat))), .val (.string ⟨#[]⟩)]]) := by
  refine loop_ok (α := Nat) (fun i => (mkSt 88 [(0, sA s), (1, iA k), (4, .nv (.one (.ptr 0 0))), (7, .nv (.one (.ptr 1 0))), (8, iA w), (9, iA i)] [.box 47 [.val (.int .i64 0), .val (.int .u64 0), .val (.string ⟨#[]⟩)], .box 47 [.val (.int .i64 k), .val (.int .u64 (bigZ 0 ((ints s).take i))), .val (.string ⟨#[]⟩)]])) (fun i => i ≤ w.toNat) (fun i => w.toNat - i) (by simp) ?_ (x := 0) (Nat.zero_le _)
  intro i hi
  by_cases e : i = w.toNat
  · subst e
    have := rd_e s k w (bigZ 0 ((ints s).take w.toNat))
    rw [show ((w.toNat : Nat) : Int) = w by omega]
    exact .inr this
  · have hl := ints_len s
    have hb := bigZ_bd ((ints s).take i) 0 (inB_take (inB_ints s) i) (by omega)
    have hlen : ((ints s).take i).length = i := by rw [List.length_take]; omega
    rw [hlen] at hb
    have hp : (256 : Int) ^ i ≤ 256 ^ 7 := ipow_le (by decide) (by omega)
    have hp7 : (256 : Int) ^ 7 = 72057594037927936 := by decide
    refine .inl ⟨i + 1, (show i + 1 ≤ w.toNat by omega), (show w.toNat - (i + 1) < w.toNat - i by omega), rd_n s k w _ _ i (by omega) hs hz ?_⟩
    have hc := (byteAt_ints s i) ▸ byteAt_bd s i
    rw [take_snoc (by omega), bigZ_snoc, byteAt_wrap, byteAt_ints, wU64 (a := bigZ 0 ((ints s).take i) * 256) rfl (by omega)]
    exact wU64 rfl (by omega)
theorem pureRead (s : ByteArray) (k : Int) (hz : s.size ≤ 140737488355328) : PureOk Try.prog 25 [sA s, iA k] (.tup [.agg [.val (.int .i64 k), .val (.int .u64 (oneZ s k).1), .val (.string (oneZ s k).2.1)], .one (.val (.int .i64 (oneZ s k).2.2.1)), .one (.val (.int .i64 (oneZ s k).2.2.2))]) := by
  have hwk : ∀ k : Int, widthZ k = 0 ↔ k < 1 ∨ 4 < k := fun k => by unfold widthZ; (repeat' split) <;> omega
  have hw := widthZ_bd k
  have hn := numZ_bd s
  unfold oneZ
  by_cases c1 : k < 1
  · rw [if_neg (by have := (hwk k).2 (.inl c1); omega), if_neg (by omega), if_neg (by omega)]; exact rd_x1 s k c1
  by_cases c2 : 6 < k
  · rw [if_neg (by have := (hwk k).2 (.inr (by omega)); omega), if_neg (by omega), if_neg (by omega)]; exact rd_x2 s k c2
  by_cases q : 0 < widthZ k
  · rw [if_pos q]
    simp only
    unfold fixV
    by_cases l : (s.size : Int) < widthZ k
    · rw [if_pos l, if_pos l, if_pos l]; exact rd_s s k (by omega) (by omega) l
    · rw [if_neg l, if_neg l, if_neg l]
      exact rd_w s k _ _ (by omega) (by omega) rfl q l (rd_loop s k _ hw.1 hw.2 (by omega) hz)
  · rw [if_neg q]
    have hk : k = 5 ∨ k = 6 := by have := hwk k; omega
    rcases hk with rfl | rfl
    · rw [if_pos rfl]
      by_cases e : (numZ s).2.2 = 0
      · exact rd_5k s hz e
      · exact rd_5e s hz e
    · rw [if_neg (by decide), if_pos rfl]
      simp only
      unfold txtZ
      by_cases e : (numZ s).2.2 = 0
      · obtain ⟨a1, a2, a3, a4, a5⟩ := hn.2.2 e
        rw [if_neg (by omega)]
        by_cases l : 65535 < (numZ s).1
        · rw [if_pos l]; exact rd_6l s hz e l
        · rw [if_neg l]
          have ew2 : IntKind.wrap IntKind.u64 (IntKind.wrap IntKind.i64 ((s.size : Int) - (numZ s).2.1)) = (s.size : Int) - (numZ s).2.1 := by
            rw [w64 (a := (s.size : Int) - (numZ s).2.1) rfl (by omega)]; exact wU64 rfl (by omega)
          by_cases q : (s.size : Int) - (numZ s).2.1 < (numZ s).1
          · rw [if_pos q]; exact rd_6s s hz e l a1 (by omega) a5 ew2 q
          · rw [if_neg q]; exact rd_6k s hz e l a1 (by omega) a5 ew2 q (w64 rfl (by omega)) (w64 rfl (by omega))
      · rw [if_pos e]
        have := rd_6e s hz e
        obtain ⟨b1, b2⟩ := hn.2.1 e
        rw [b1, b2] at this
        exact this
def gOneR : List SV → Option (SV × List Prop)
  | [.nv (.one (.val (.string s))), .nv (.one (.val (.int .i64 k)))] => some (.tup [.agg [.val (.int .i64 k), .val (.int .u64 (oneZ s k).1), .val (.string (oneZ s k).2.1)], .one (.val (.int .i64 (oneZ s k).2.2.1)), .one (.val (.int .i64 (oneZ s k).2.2.2))], [s.size ≤ 140737488355328])
  | _ => none
theorem spWOne : SpOk Try.prog 30 (pureS gOneR) := pureS_ok (by
  intro args r obl h ho
  unfold gOneR at h
  split at h
  · simp only [Option.some.injEq, Prod.mk.injEq] at h
    obtain ⟨rfl, rfl⟩ := h
    exact ⟨rfl, rfl, pureWOne _ _ ho.1⟩
  · cases h)
theorem spRead : SpOk Try.prog 25 (pureS gOneR) := pureS_ok (by
  intro args r obl h ho
  unfold gOneR at h
  split at h
  · simp only [Option.some.injEq, Prod.mk.injEq] at h
    obtain ⟨rfl, rfl⟩ := h
    exact ⟨rfl, rfl, pureRead _ _ ho.1⟩
  · cases h)
def GbF : List (FuncId × Sp) := (30, pureS gOneR) :: (25, pureS gOneR) :: GbE
theorem GbF_ok : CtxOk Try.prog GbF := ctx_cons (enter_of Try.func30 (by kernel_rfl) (by kernel_rfl)) spWOne <|
  ctx_cons (enter_of Try.func25 (by kernel_rfl) (by kernel_rfl)) spRead GbE_ok
end Go.Proofs.Ytecgigeahkijaaa

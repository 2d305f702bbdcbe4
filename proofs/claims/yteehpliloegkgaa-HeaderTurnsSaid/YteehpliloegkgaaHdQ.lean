/- header: the document's Put as a specification. No condition. -/
import Derived.Test.YteehpliloegkgaaHdP
namespace Go.Proofs.Yteehpliloegkgaa
set_option linter.unusedVariables false
set_option linter.unusedSimpArgs false
open Go.RowKit E
theorem pureDPut (d id ttl src dst sp dp : Int) (b : ByteArray) (hw : Hd.wf ⟨d, id, ttl, src, dst, sp, dp⟩) :
    PureOk Try.prog 9 [.nv (.agg [.val (.int .u8 d), .val (.int .u16 id), .val (.int .u8 ttl), .val (.int .u32 src), .val (.int .u32 dst), .val (.int .u16 sp), .val (.int .u16 dp)]), .nv (.one (.val (.string b)))] (.tup [.one (.val (.string (hPutS ⟨d, id, ttl, src, dst, sp, dp⟩ b))), .one (.val (.int .i64 (hPutE ⟨d, id, ttl, src, dst, sp, dp⟩ b)))]) := by
  unfold hPutS hPutE
  simp only
  by_cases h1 : d > 63
  · rw [if_pos h1, if_pos h1]; exact dp_1 d id ttl src dst sp dp b h1
  rw [if_neg h1, if_neg h1]
  by_cases h2 : b.size > 65507
  · rw [if_pos h2, if_pos h2]; exact dp_2 d id ttl src dst sp dp b (by omega) h2
  rw [if_neg h2, if_neg h2]
  have hN : (0 : Int) ≤ b.size ∧ (b.size : Int) ≤ 65507 := by omega
  have i1 := P1_inB hw (show d ≤ 63 by omega) hN
  have i2 := P2_inB hw
  have i3 := P3_inB hw hN
  have i0 : inB (w2 0) := w2_inB (by omega)
  have is := inetL_bd (inB_app i1 (inB_app i0 i2))
  have hw' := hw
  obtain ⟨c1, c2, c3, c4, c5, c6, c7⟩ := hw'
  simp only at c1 c2 c3 c4 c5 c6 c7
  have w : ∀ x : Int, 0 ≤ x → x ≤ 65535 → IntKind.wrap IntKind.i64 x = x := fun x h0 h1 => w64 rfl (by omega)
  have e1 : (IntKind.wrap IntKind.i64 (17664 + (IntKind.wrap IntKind.i64 (4 * (IntKind.wrap IntKind.i64 (d)))))) = 17664 + 4 * d := by rw [w d (by omega) (by omega), w (4 * d) (by omega) (by omega), w _ (by omega) (by omega)]
  have e2 : (IntKind.wrap IntKind.i64 ((b.size : Int) + 28)) = (b.size : Int) + 28 := w _ (by omega) (by omega)
  have e3 : (IntKind.wrap IntKind.i64 (id)) = id := w _ c2.1 c2.2
  have e5 : (IntKind.wrap IntKind.i64 ((IntKind.wrap IntKind.i64 (256 * (IntKind.wrap IntKind.i64 (ttl)))) + 17)) = 256 * ttl + 17 := by rw [w ttl (by omega) (by omega), w (256 * ttl) (by omega) (by omega), w _ (by omega) (by omega)]
  have e6 : (IntKind.wrap IntKind.i64 (sp)) = sp := w _ c6.1 c6.2
  have e7 : (IntKind.wrap IntKind.i64 (dp)) = dp := w _ c7.1 c7.2
  have e8 : (IntKind.wrap IntKind.i64 ((b.size : Int) + 8)) = (b.size : Int) + 8 := w _ (by omega) (by omega)
  have j1 := w2_inB (x := 17664 + 4 * d) (by omega)
  have j2 := w2_inB (x := (b.size : Int) + 28) (by omega)
  have j3 := w2_inB (x := id) c2
  have j5 := w2_inB (x := 256 * ttl + 17) (by omega)
  have js := inB_app (w2_inB (x := src / 65536) (by omega)) (w2_inB (x := src % 65536) (by omega))
  have jd := inB_app (w2_inB (x := dst / 65536) (by omega)) (w2_inB (x := dst % 65536) (by omega))
  have j6 := w2_inB c6
  have j7 := w2_inB c7
  have j8 := w2_inB (x := (b.size : Int) + 8) (by omega)
  have eF : ((((strL (w2 (17664 + 4 * d)) ++ strL (w2 ((b.size : Int) + 28))) ++ strL (w2 id)) ++ strL (w2 0)) ++ strL (w2 (256 * ttl + 17))) = strL (P1 ⟨d, id, ttl, src, dst, sp, dp⟩ b.size) := by
    rw [← strL_app j1 j2, ← strL_app (inB_app j1 j2) j3, ← strL_app (inB_app (inB_app j1 j2) j3) i0, ← strL_app (inB_app (inB_app (inB_app j1 j2) j3) i0) j5]
    unfold P1
    simp only [List.append_assoc]
  have eB : strL (w2 (src / 65536) ++ w2 (src % 65536)) ++ strL (w2 (dst / 65536) ++ w2 (dst % 65536)) = strL (P2 ⟨d, id, ttl, src, dst, sp, dp⟩) := by
    rw [← strL_app js jd]
    unfold P2
    simp only [List.append_assoc]
  have eS : inetZ ((strL (P1 ⟨d, id, ttl, src, dst, sp, dp⟩ b.size) ++ strL (w2 0)) ++ strL (P2 ⟨d, id, ttl, src, dst, sp, dp⟩)) = inetL (P1 ⟨d, id, ttl, src, dst, sp, dp⟩ b.size ++ (w2 0 ++ P2 ⟨d, id, ttl, src, dst, sp, dp⟩)) := by
    rw [← strL_app i1 i0, ← strL_app (inB_app i1 i0) i2, List.append_assoc, inetZ_str (inB_app i1 (inB_app i0 i2))]
  refine dp_3 d id ttl src dst sp dp b _ (by omega) (by omega) (by rw [e1]; omega) (by rw [e2]; omega) (by rw [e3]; exact c2) (by rw [e5]; omega) c4 c5 (by rw [e6]; exact c6) (by rw [e7]; exact c7) (by rw [e8]; omega) ?_ ?_
  · rw [e1, e2, e3, e5, eF, eB, eS]; exact is
  · rw [e1, e2, e3, e5, e6, e7, e8, eF, eB, eS]
    have iw := w2_inB is
    rw [← strL_app i1 iw, ← strL_app (inB_app i1 iw) i2, ← strL_app (inB_app (inB_app i1 iw) i2) j6, ← strL_app (inB_app (inB_app (inB_app i1 iw) i2) j6) j7, ← strL_app (inB_app (inB_app (inB_app (inB_app i1 iw) i2) j6) j7) j8, ← strL_app (inB_app (inB_app (inB_app (inB_app (inB_app i1 iw) i2) j6) j7) j8) i0]
    conv => lhs; rhs; rw [← strL_str b]
    rw [← strL_app (inB_app (inB_app (inB_app (inB_app (inB_app (inB_app i1 iw) i2) j6) j7) j8) i0) (inB_ints b)]
    unfold hdrL P3
    simp only [List.append_assoc]
theorem spDPut : SpOk Try.prog 9 (pureS gHPut) := pureS_ok (by
  intro args r obl h ho
  unfold gHPut at h
  split at h
  · simp only [Option.some.injEq, Prod.mk.injEq] at h
    obtain ⟨rfl, rfl⟩ := h
    exact ⟨rfl, rfl, pureDPut _ _ _ _ _ _ _ _ ho.1⟩
  · cases h)
def GhH : List (FuncId × Sp) := (9, pureS gHPut) :: GhG
theorem GhH_ok : CtxOk Try.prog GhH := ctx_cons (enter_of Try.func9 (by kernel_rfl) (by kernel_rfl)) spDPut GhG_ok
end Go.Proofs.Yteehpliloegkgaa

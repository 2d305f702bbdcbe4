/- header: Put as a specification. No condition. -/
import Derived.Test.YteehpliloegkgaaHdF
namespace Go.Proofs.Yteehpliloegkgaa
set_option linter.unusedVariables false
set_option linter.unusedSimpArgs false
open Go.RowKit E
/-- A header. -/
structure Hd where
  d : Int
  id : Int
  ttl : Int
  src : Int
  dst : Int
  sp : Int
  dp : Int
def Hd.wf (h : Hd) : Prop := (0 ≤ h.d ∧ h.d ≤ 255) ∧ (0 ≤ h.id ∧ h.id ≤ 65535) ∧ (0 ≤ h.ttl ∧ h.ttl ≤ 255) ∧ (0 ≤ h.src ∧ h.src ≤ 4294967295) ∧ (0 ≤ h.dst ∧ h.dst ≤ 4294967295) ∧ (0 ≤ h.sp ∧ h.sp ≤ 65535) ∧ (0 ≤ h.dp ∧ h.dp ≤ 65535)
def P1 (h : Hd) (N : Int) : List Int := w2 (17664 + 4 * h.d) ++ (w2 (N + 28) ++ (w2 h.id ++ (w2 0 ++ w2 (256 * h.ttl + 17))))
def P2 (h : Hd) : List Int := w2 (h.src / 65536) ++ (w2 (h.src % 65536) ++ (w2 (h.dst / 65536) ++ w2 (h.dst % 65536)))
def P3 (h : Hd) (N : Int) : List Int := w2 h.sp ++ (w2 h.dp ++ (w2 (N + 8) ++ w2 0))
def inetL (l : List Int) : Int := 65535 - inL 0 l
/-- The bytes ahead of a body of N bytes. -/
def hdrL (h : Hd) (N : Int) : List Int := P1 h N ++ (w2 (inetL (P1 h N ++ (w2 0 ++ P2 h))) ++ (P2 h ++ P3 h N))
theorem w2_inB {x : Int} (h : 0 ≤ x ∧ x ≤ 65535) : inB (w2 x) := fun y hy => by
  simp [w2] at hy
  rcases hy with rfl | rfl <;> omega
theorem P1_inB {h : Hd} (hw : h.wf) (hd : h.d ≤ 63) {N : Int} (hN : 0 ≤ N ∧ N ≤ 65507) : inB (P1 h N) := by
  obtain ⟨h1, h2, h3, _⟩ := hw
  exact inB_app (w2_inB (by omega)) (inB_app (w2_inB (by omega)) (inB_app (w2_inB h2) (inB_app (w2_inB (by omega)) (w2_inB (by omega)))))
theorem P2_inB {h : Hd} (hw : h.wf) : inB (P2 h) := by
  obtain ⟨_, _, _, h4, h5, _⟩ := hw
  exact inB_app (w2_inB (by omega)) (inB_app (w2_inB (by omega)) (inB_app (w2_inB (by omega)) (w2_inB (by omega))))
theorem P3_inB {h : Hd} (hw : h.wf) {N : Int} (hN : 0 ≤ N ∧ N ≤ 65507) : inB (P3 h N) := by
  obtain ⟨_, _, _, _, _, h6, h7⟩ := hw
  exact inB_app (w2_inB h6) (inB_app (w2_inB h7) (inB_app (w2_inB (by omega)) (w2_inB (by omega))))
theorem inetL_bd {l : List Int} (h : inB l) : 0 ≤ inetL l ∧ inetL l ≤ 65535 := by
  have := inL_bd l 0 h (by omega)
  unfold inetL; omega
theorem inetZ_str {l : List Int} (h : inB l) : inetZ (strL l) = inetL l := by unfold inetZ inetL; rw [strL_ints h]
theorem hdrL_inB {h : Hd} (hw : h.wf) (hd : h.d ≤ 63) {N : Int} (hN : 0 ≤ N ∧ N ≤ 65507) : inB (hdrL h N) :=
  inB_app (P1_inB hw hd hN) (inB_app (w2_inB (inetL_bd (inB_app (P1_inB hw hd hN) (inB_app (w2_inB (by omega)) (P2_inB hw))))) (inB_app (P2_inB hw) (P3_inB hw hN)))
def hPutS (h : Hd) (b : ByteArray) : ByteArray := if h.d > 63 then .empty else if b.size > 65507 then .empty else strL (hdrL h b.size ++ ints b)
def hPutE (h : Hd) (b : ByteArray) : Int := if h.d > 63 then 6 else if b.size > 65507 then 4 else 0
theorem pureHPut (d id ttl src dst sp dp : Int) (b : ByteArray) (hw : Hd.wf ⟨d, id, ttl, src, dst, sp, dp⟩) :
    PureOk Try.prog 8 [.nv (.agg [.val (.int .u8 d), .val (.int .u16 id), .val (.int .u8 ttl), .val (.int .u32 src), .val (.int .u32 dst), .val (.int .u16 sp), .val (.int .u16 dp)]), .nv (.one (.val (.string b)))] (.tup [.one (.val (.string (hPutS ⟨d, id, ttl, src, dst, sp, dp⟩ b))), .one (.val (.int .i64 (hPutE ⟨d, id, ttl, src, dst, sp, dp⟩ b)))]) := by
  unfold hPutS hPutE
  simp only
  by_cases h1 : d > 63
  · rw [if_pos h1, if_pos h1]; exact hp_1 d id ttl src dst sp dp b h1
  rw [if_neg h1, if_neg h1]
  by_cases h2 : b.size > 65507
  · rw [if_pos h2, if_pos h2]; exact hp_2 d id ttl src dst sp dp b (by omega) h2
  rw [if_neg h2, if_neg h2]
  have hN : (0 : Int) ≤ b.size ∧ (b.size : Int) ≤ 65507 := by omega
  have i1 := P1_inB hw (show d ≤ 63 by omega) hN
  have i2 := P2_inB hw
  have i3 := P3_inB hw hN
  have i0 : inB (w2 0) := w2_inB (by omega)
  have is := inetL_bd (inB_app i1 (inB_app i0 i2))
  obtain ⟨c1, c2, c3, c4, c5, c6, c7⟩ := hw
  simp only at c1 c2 c3 c4 c5 c6 c7
  have e1 : IntKind.wrap IntKind.u16 (17664 + IntKind.wrap IntKind.u16 (IntKind.wrap IntKind.u16 d * 2 ^ 2)) = 17664 + 4 * d := by
    rw [wU16 (a := d) (b := d) rfl (by omega), wU16 (a := d * 2 ^ 2) (b := 4 * d) (by omega) (by omega)]; exact wU16 rfl (by omega)
  have e2 : IntKind.wrap IntKind.u16 (IntKind.wrap IntKind.u16 (b.size : Int) + 28) = (b.size : Int) + 28 := by
    rw [wU16 (a := (b.size : Int)) (b := (b.size : Int)) rfl (by omega)]; exact wU16 rfl (by omega)
  have e5 : IntKind.wrap IntKind.u16 (IntKind.wrap IntKind.u16 (IntKind.wrap IntKind.u16 ttl * 2 ^ 8) + 17) = 256 * ttl + 17 := by
    rw [wU16 (a := ttl) (b := ttl) rfl (by omega), wU16 (a := ttl * 2 ^ 8) (b := 256 * ttl) (by omega) (by omega)]; exact wU16 rfl (by omega)
  have f16 : ∀ x : Int, 0 ≤ x → Int.fdiv x (2 ^ 16) = x / 65536 := fun x _ => by rw [show (2 : Int) ^ 16 = 65536 from rfl, Int.fdiv_eq_ediv_of_nonneg _ (by omega)]
  have e6 : IntKind.wrap IntKind.u16 (Int.fdiv src (2 ^ 16)) = src / 65536 := by rw [f16 _ c4.1]; exact wU16 rfl (by omega)
  have e7 : IntKind.wrap IntKind.u16 src = src % 65536 := u16_wrap _
  have e8 : IntKind.wrap IntKind.u16 (Int.fdiv dst (2 ^ 16)) = dst / 65536 := by rw [f16 _ c5.1]; exact wU16 rfl (by omega)
  have e9 : IntKind.wrap IntKind.u16 dst = dst % 65536 := u16_wrap _
  have e10 : IntKind.wrap IntKind.u16 ((b.size : Int) + 28 - 20) = (b.size : Int) + 8 := wU16 (by omega) (by omega)
  have z0 : (ByteArray.mk #[0, 0]) = strL (w2 0) := rfl
  have eS : inetZ ((strL (P1 ⟨d, id, ttl, src, dst, sp, dp⟩ b.size) ++ (ByteArray.mk #[0, 0])) ++ strL (P2 ⟨d, id, ttl, src, dst, sp, dp⟩)) = inetL (P1 ⟨d, id, ttl, src, dst, sp, dp⟩ b.size ++ (w2 0 ++ P2 ⟨d, id, ttl, src, dst, sp, dp⟩)) := by
    rw [z0, ← strL_app i1 i0, ← strL_app (inB_app i1 i0) i2, List.append_assoc, inetZ_str (inB_app i1 (inB_app i0 i2))]
  refine hp_3 d id ttl src dst sp dp b _ (by omega) (by omega) (by rw [e1]; omega) (by rw [e2]; omega) c2 (by rw [e5]; omega) (by rw [e6]; omega) (by rw [e7]; omega) (by rw [e8]; omega) (by rw [e9]; omega) c6 c7 (by rw [e2, e10]; omega) ?_ ?_
  · rw [e1, e2, e5, e6, e7, e8, e9, halv5, halv4]
    exact (show _ = _ from eS) ▸ is
  · rw [e1, e2, e5, e6, e7, e8, e9, e10, halv5, halv4, halv4, halv1]
    have eS' : inetZ ((strL (w2 (17664 + 4 * d) ++ (w2 ((b.size : Int) + 28) ++ (w2 id ++ (w2 0 ++ w2 (256 * ttl + 17))))) ++ (ByteArray.mk #[0, 0])) ++ strL (w2 (src / 65536) ++ (w2 (src % 65536) ++ (w2 (dst / 65536) ++ w2 (dst % 65536))))) = _ := eS
    rw [eS']
    show (((strL (P1 ⟨d, id, ttl, src, dst, sp, dp⟩ b.size) ++ strL (w2 (inetL (P1 ⟨d, id, ttl, src, dst, sp, dp⟩ b.size ++ (w2 0 ++ P2 ⟨d, id, ttl, src, dst, sp, dp⟩))))) ++ strL (P2 ⟨d, id, ttl, src, dst, sp, dp⟩)) ++ strL (P3 ⟨d, id, ttl, src, dst, sp, dp⟩ b.size)) ++ b = _
    have iw := w2_inB is
    rw [← strL_app i1 iw, ← strL_app (inB_app i1 iw) i2, ← strL_app (inB_app (inB_app i1 iw) i2) i3]
    conv => lhs; rhs; rw [← strL_str b]
    rw [← strL_app (inB_app (inB_app (inB_app i1 iw) i2) i3) (inB_ints b)]
    unfold hdrL
    simp only [List.append_assoc]
def gHPut : List SV → Option (SV × List Prop)
  | [.nv (.agg [.val (.int .u8 d), .val (.int .u16 id), .val (.int .u8 ttl), .val (.int .u32 src), .val (.int .u32 dst), .val (.int .u16 sp), .val (.int .u16 dp)]), .nv (.one (.val (.string b)))] => some (.tup [.one (.val (.string (hPutS ⟨d, id, ttl, src, dst, sp, dp⟩ b))), .one (.val (.int .i64 (hPutE ⟨d, id, ttl, src, dst, sp, dp⟩ b)))], [Hd.wf ⟨d, id, ttl, src, dst, sp, dp⟩])
  | _ => none
theorem spHPut : SpOk Try.prog 8 (pureS gHPut) := pureS_ok (by
  intro args r obl h ho
  unfold gHPut at h
  split at h
  · simp only [Option.some.injEq, Prod.mk.injEq] at h
    obtain ⟨rfl, rfl⟩ := h
    exact ⟨rfl, rfl, pureHPut _ _ _ _ _ _ _ _ ho.1⟩
  · cases h)
def GhC : List (FuncId × Sp) := (8, pureS gHPut) :: GhB
theorem GhC_ok : CtxOk Try.prog GhC := ctx_cons (enter_of Try.func8 (by kernel_rfl) (by kernel_rfl)) spHPut GhB_ok
end Go.Proofs.Yteehpliloegkgaa

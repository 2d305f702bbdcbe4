/- header: the sum of the head, and what changes it. No condition. -/
import Derived.Test.YteehpliloegkgaaHeF
namespace Go.Proofs.Yteehpliloegkgaa
set_option linter.unusedVariables false
set_option linter.unusedSimpArgs false
open Go.RowKit E
/-- What the sum is of. -/
def headL (h : Hd) (N : Int) : List Int := P1 h N ++ (w2 0 ++ P2 h)
def headS (h : Hd) (N : Int) : Int := (17664 + 4 * h.d) + (N + 28) + h.id + (256 * h.ttl + 17) + h.src / 65536 + h.src % 65536 + h.dst / 65536 + h.dst % 65536
theorem prL_w2 (x : Int) (l : List Int) : prL (w2 x ++ l) = x + prL l := by
  show x / 256 * 256 + x % 256 + prL l = _
  omega
theorem head_pr (h : Hd) (N : Int) : prL (headL h N) = headS h N := by
  unfold headL P1 P2 headS
  simp only [List.append_assoc, prL_w2]
  rw [← List.append_nil (w2 (h.dst % 65536)), prL_w2]
  simp only [prL]
  omega
theorem head_inB {h : Hd} (hw : h.wf) (hd : h.d ≤ 63) {N : Int} (hN : 0 ≤ N ∧ N ≤ 65507) : inB (headL h N) := inB_app (P1_inB hw hd hN) (inB_app (w2_inB (by omega)) (P2_inB hw))
theorem head_T {h : Hd} (hw : h.wf) (hd : h.d ≤ 63) {N : Int} (hN : 0 ≤ N ∧ N ≤ 65507) : 0 < inL 0 (headL h N) ∧ inL 0 (headL h N) ≤ 65535 ∧ inL 0 (headL h N) % 65535 = headS h N % 65535 := by
  have hb := head_inB hw hd hN
  have hd0 := hw.1.1
  refine ⟨?_, (inL_bd _ 0 hb (by omega)).2, by rw [inL_mod _ 0 hb (by omega), head_pr, Int.zero_add]⟩
  obtain ⟨l, e⟩ : ∃ l, headL h N = (17664 + 4 * h.d) / 256 :: (17664 + 4 * h.d) % 256 :: l := ⟨_, rfl⟩
  rw [e] at hb ⊢
  have h1 := hb _ (List.mem_cons_self ..)
  have h2 := hb _ (List.mem_cons_of_mem _ (List.mem_cons_self ..))
  have rb := ringZ_bd (a := 0) (b := (17664 + 4 * h.d) / 256 * 256 + (17664 + 4 * h.d) % 256) (by omega) (by omega)
  have rp := ring_pos (a := 0) (b := (17664 + 4 * h.d) / 256 * 256 + (17664 + 4 * h.d) % 256) (by omega) (by omega) (.inr (by omega))
  exact inL_pos l _ (fun x hx => hb x (List.mem_cons_of_mem _ (List.mem_cons_of_mem _ hx))) rb rp
/-- What Update makes of the sum of one head is the sum of the other. -/
theorem upd_head {h g : Hd} (hw : h.wf) (hd : h.d ≤ 63) (gw : g.wf) (gd : g.d ≤ 63) {N : Int} (hN : 0 ≤ N ∧ N ≤ 65507) {a b : Int} (ha : 0 ≤ a ∧ a ≤ 65535) (hb : 0 ≤ b ∧ b ≤ 65535) (e : headS g N = headS h N - a + b) :
    updZ (inetL (headL h N)) a b = inetL (headL g N) := by
  obtain ⟨t1, t2, t3⟩ := head_T hw hd hN
  obtain ⟨u1, u2, u3⟩ := head_T gw gd hN
  unfold updZ inetL
  rw [show 65535 - (65535 - inL 0 (headL h N)) = inL 0 (headL h N) by omega]
  have r1 := ringZ_bd (a := inL 0 (headL h N)) (b := 65535 - a) (by omega) (by omega)
  have r2 := ringZ_bd r1 hb
  have p1 := ring_pos (a := inL 0 (headL h N)) (b := 65535 - a) (by omega) (by omega) (.inl t1)
  have p2 := ring_pos r1 hb (.inl p1)
  have m1 := ring_mod (a := inL 0 (headL h N)) (b := 65535 - a) (by omega) (by omega)
  have m2 := ring_mod r1 hb
  omega
end Go.Proofs.Yteehpliloegkgaa

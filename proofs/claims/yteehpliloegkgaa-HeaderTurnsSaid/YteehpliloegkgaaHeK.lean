/- HeaderTakes, HeaderFinds, HeaderTurns: the walks. No condition. -/
import Derived.Test.YteehpliloegkgaaHeJ
import Derived.Test.YteehpliloegkgaaHeE
namespace Go.Proofs.Yteehpliloegkgaa
set_option linter.unusedVariables false
set_option linter.unusedSimpArgs false
open Go.RowKit E
theorem take_put_s {s : ByteArray} (h : tkE s = 0) : hPutE (tkH s) (tkB s) = 0 ∧ hPutS (tkH s) (tkB s) = s := by
  have h' : dtE s = 0 := by rw [← tk_dt]; exact h
  rw [tk_dtH, tk_dtB, show dtH s = rdH s from if_pos h', show dtB s = bodyZ s from if_pos h']
  exact dt0 h'
theorem tkH_wf {s : ByteArray} : (tkH s).wf := by rw [tk_dtH]; exact dtH_wf s
theorem htakes_law (s : ByteArray) (x : Int) (hx : 0 ≤ x ∧ x ≤ 255) : LawOk Try.prog 5 [sA s, .nv (.one (.val (.int .u8 x)))] [] (bA true) := by
  by_cases h : 70000 < s.size
  · exact ha_l s x h
  have q : ∀ f : Hd → Int, (f (tkH s) == f (dtH s)) = true := fun f => by rw [tk_dtH]; exact beq_self_eq_true _
  have zb : ((tkB s).toList == (dtB s).toList) = true := by rw [tk_dtB]; exact toList_same _
  have ze : (tkE s != dtE s) = false := by rw [tk_dt]; exact bne_self_eq_false _
  have m1 : ((mkS s x).toList == (dmS s x).toList) = true := by rw [mk_dmS s hx.1]; exact toList_same _
  have m2 : (mkE s x != dmE s x) = false := by rw [mk_dmE]; exact bne_self_eq_false _
  have h1 : ((hoS s).toList == (dhS s).toList) = true := by rw [ho_dhS]; exact toList_same _
  have h2 : (hoE s != dhE s) = false := by rw [ho_dhE]; exact bne_self_eq_false _
  by_cases e : tkE s = 0
  · obtain ⟨p1, p2⟩ := take_put_s e
    exact ha_k s x hx (by omega) (q Hd.d) (q Hd.id) (q Hd.ttl) (q Hd.src) (q Hd.dst) (q Hd.sp) (q Hd.dp) zb ze m1 m2 h1 h2 e tkH_wf (by show ((hPutS (tkH s) (tkB s)).toList == s.toList) = true; rw [p2]; exact toList_same _) p1
  · exact ha_e s x hx (by omega) (q Hd.d) (q Hd.id) (q Hd.ttl) (q Hd.src) (q Hd.dst) (q Hd.sp) (q Hd.dp) zb ze m1 m2 h1 h2 e
theorem hPutS_no {h : Hd} {b : ByteArray} (e : hPutE h b ≠ 0) : hPutS h b = .empty := by
  unfold hPutE at e
  unfold hPutS
  split
  · rfl
  · split
    · rfl
    · rename_i a c; rw [if_neg a, if_neg c] at e; exact absurd rfl e
theorem hfinds_law (d id ttl src dst sp dp : Int) (b : ByteArray) (hw : Hd.wf ⟨d, id, ttl, src, dst, sp, dp⟩) (k0 c : Int) (hk : 0 ≤ k0 ∧ k0 ≤ 255) (hc : 0 ≤ c ∧ c ≤ 255) : LawOk Try.prog 4 [.nv (.agg [.val (.int .u8 d), .val (.int .u16 id), .val (.int .u8 ttl), .val (.int .u32 src), .val (.int .u32 dst), .val (.int .u16 sp), .val (.int .u16 dp)]), sA b, .nv (.agg [.val (.int .u8 k0), .val (.int .u8 c)])] [] (bA true) := by
  by_cases h : 5000 < b.size
  · exact hf_l d id ttl src dst sp dp b k0 c h
  by_cases e : hPutE ⟨d, id, ttl, src, dst, sp, dp⟩ b = 0
  · have hs := hPutS_size e
    have em : IntKind.wrap IntKind.i64 (Int.tmod k0 20) = k0 % 20 := w64 (Int.tmod_eq_emod_of_nonneg hk.1) (by omega)
    have hk' : (IntKind.wrap IntKind.i64 (Int.tmod k0 20)).toNat < 20 := by rw [em]; omega
    have hf := finds (take_put hw e).1 _ hk' c hc
    refine hf_k d id ttl src dst sp dp b k0 c hk hc (by omega) hw e hs (by rw [em]; omega) ((size_with _ _ _ hc (by omega)).trans hs) ?_
    by_cases t : withZ (hPutS ⟨d, id, ttl, src, dst, sp, dp⟩ b) (IntKind.wrap IntKind.i64 (Int.tmod k0 20)).toNat c = hPutS ⟨d, id, ttl, src, dst, sp, dp⟩ b
    · rw [hf.2 t, t, toList_same]; rfl
    · rw [toList_ne t, beq_eq_false_iff_ne.2 (fun z => t (hf.1 z))]; rfl
  · exact hf_e d id ttl src dst sp dp b k0 c (by omega) hw e (by rw [hPutS_no e]; rfl)
theorem hturns_law (d id ttl src dst sp dp : Int) (b : ByteArray) (hw : Hd.wf ⟨d, id, ttl, src, dst, sp, dp⟩) (x : Int) (hx : 0 ≤ x ∧ x ≤ 255) : LawOk Try.prog 6 [.nv (.agg [.val (.int .u8 d), .val (.int .u16 id), .val (.int .u8 ttl), .val (.int .u32 src), .val (.int .u32 dst), .val (.int .u16 sp), .val (.int .u16 dp)]), sA b, .nv (.one (.val (.int .u8 x)))] [] (bA true) := by
  by_cases h : 5000 < b.size
  · exact ht_l d id ttl src dst sp dp b x h
  by_cases e : hPutE ⟨d, id, ttl, src, dst, sp, dp⟩ b = 0
  case neg => exact ht_e d id ttl src dst sp dp b x (by omega) hw e
  have em : Int.tmod x 64 = x % 64 := Int.tmod_eq_emod_of_nonneg hx.1
  have hm : 0 ≤ Int.tmod x 64 ∧ Int.tmod x 64 ≤ 63 := by rw [em]; omega
  have hnd : ¬ Int.tmod x 64 > 63 := by omega
  have hs := hPutS_size e
  have mk : ∀ (g : Hd), g.wf → hPutE g b = 0 → mkE (hPutS g b) (Int.tmod x 64) = 0 ∧ mkS (hPutS g b) (Int.tmod x 64) = hPutS (mkH g (Int.tmod x 64)) b := fun g gw ge => by
    have q : mkE (hPutS g b) (Int.tmod x 64) = 0 := by unfold mkE; rw [if_neg hnd]; exact (take_put gw ge).1
    exact ⟨q, by unfold mkS; rw [if_pos q]; exact mark_put gw ge hm⟩
  have b8 : ∀ (g : Hd), g.wf → hPutE g b = 0 → byteAt (hPutS g b) 8 = g.ttl := fun g gw ge => congrArg Hd.ttl (rd_put gw ge)
  have ho : ∀ (g : Hd), g.wf → hPutE g b = 0 → ¬ g.ttl < 2 → hoE (hPutS g b) = 0 ∧ hoS (hPutS g b) = hPutS (hoH g) b := fun g gw ge t => by
    have q : hoE (hPutS g b) = 0 := by unfold hoE; rw [if_pos (take_put gw ge).1, if_neg (by rw [b8 g gw ge]; exact t)]
    exact ⟨q, by unfold hoS; rw [if_pos q]; exact hop_put gw ge t⟩
  obtain ⟨m1, m2⟩ := mk _ hw e
  have gw : Hd.wf (mkH ⟨d, id, ttl, src, dst, sp, dp⟩ (Int.tmod x 64)) := mkH_wf hw (by omega)
  have ge : hPutE (mkH ⟨d, id, ttl, src, dst, sp, dp⟩ (Int.tmod x 64)) b = 0 := hPutE_mk e hnd
  have hM : (mkS (hPutS ⟨d, id, ttl, src, dst, sp, dp⟩ b) (Int.tmod x 64)).size ≤ 70000 := by rw [m2, hPutS_size ge]; omega
  by_cases t : ttl < 2
  · have q : hoE (hPutS (mkH ⟨d, id, ttl, src, dst, sp, dp⟩ (Int.tmod x 64)) b) = 21 := by
      unfold hoE; rw [if_pos (take_put gw ge).1, if_pos (by rw [b8 _ gw ge]; exact t)]
    refine ht_k d id ttl src dst sp dp b x (by omega) hw e hm gw hs hM (by rw [m2]; exact toList_same _) m1 t ?_ ?_
    · rw [m2]; unfold hoS; rw [if_neg (by rw [q]; decide)]; exact toList_same ⟨#[]⟩
    · rw [m2, q]; rfl
  · obtain ⟨p1, p2⟩ := ho _ gw ge t
    obtain ⟨r1, r2⟩ := ho _ hw e t
    obtain ⟨u1, u2⟩ := mk _ (hoH_wf hw t) (hPutE_ho e)
    have tb : 0 ≤ ttl ∧ ttl ≤ 255 := hw.2.2.1
    have ew : IntKind.wrap IntKind.u8 (ttl - 1) = ttl - 1 := wU8 rfl (by omega)
    refine ht_m d id ttl src dst sp dp b x (by omega) hw e hm gw hs hM (by rw [m2]; exact toList_same _) m1 t ?_ ?_ ?_ ?_ ?_
    · rw [ew]; exact hoH_wf gw t
    · rw [r2, hPutS_size (hPutE_ho e)]; omega
    · rw [ew, m2, p2]; exact toList_same _
    · rw [m2, p1]; rfl
    · rw [ew, r2, u2]; exact toList_same _
theorem htakes_walk (s : ByteArray) (x : Int) (w : World) (hz : s.size ≤ maxLen) (k : (Lit.int .u8 x).wf = true) :
    Calls Try.prog 5 #[.string s, .int .u8 x] w fun e w' => e = .returned (.bool true) ∧ Ext w w' := by
  refine (htakes_law s x (wf_u8 k) _ [.string s, .int .u8 x] w ⟨rfl, rfl, trivial⟩ (MemOk.empty w)).mono ?_
  rintro e w' ⟨u, rfl, hu, hx⟩
  exact ⟨by rw [show u = .bool true from hu], hx⟩
abbrev sh2 : Sh := .agg 2 (.cons 0 1 (.int .u8) (.cons 1 1 (.int .u8) .nil))
theorem two_args {w : World} {a0 : Array Value} (r0 : Reads w sh2 (Value.agg a0).cells.toList) : ∃ k c : Int, a0 = #[.int .u8 k, .int .u8 c] ∧ (0 ≤ k ∧ k ≤ 255) ∧ (0 ≤ c ∧ c ≤ 255) := by
  obtain ⟨hl, ⟨a, e0, k0⟩, ⟨b, e1, k1⟩, _⟩ := r0
  refine ⟨a, b, ?_, wf_u8 k0, wf_u8 k1⟩
  apply Array.ext'
  have hl' : a0.toList.length = 2 := hl
  obtain ⟨x, y, q⟩ : ∃ x y, a0.toList = [x, y] := by
    match a0.toList, hl' with
    | [a, b], _ => exact ⟨a, b, rfl⟩
  simp only [Value.cells] at e0 e1
  rw [q] at e0 e1 ⊢
  simp at e0 e1
  rw [e0, e1]
theorem hfinds_walk (a0 : Array Value) (b : ByteArray) (a2 : Array Value) (w : World) (r0 : Reads w shHd (Value.agg a0).cells.toList) (hz : b.size ≤ maxLen) (r2 : Reads w sh2 (Value.agg a2).cells.toList) :
    Calls Try.prog 4 #[.agg a0, .string b, .agg a2] w fun e w' => e = .returned (.bool true) ∧ Ext w w' := by
  obtain ⟨d, id, ttl, src, dst, sp, dp, rfl, hw⟩ := hd_args r0
  obtain ⟨k, c, rfl, hk, hc⟩ := two_args r2
  refine (hfinds_law d id ttl src dst sp dp b hw k c hk hc _ [.agg #[.int .u8 d, .int .u16 id, .int .u8 ttl, .int .u32 src, .int .u32 dst, .int .u16 sp, .int .u16 dp], .string b, .agg #[.int .u8 k, .int .u8 c]] w ⟨⟨_, rfl, rfl, rfl, rfl, rfl, rfl, rfl, rfl, trivial⟩, rfl, ⟨_, rfl, rfl, rfl, trivial⟩, trivial⟩ (MemOk.empty w)).mono ?_
  rintro e w' ⟨u, rfl, hu, hx⟩
  exact ⟨by rw [show u = .bool true from hu], hx⟩
theorem hturns_walk (a0 : Array Value) (b : ByteArray) (x : Int) (w : World) (r0 : Reads w shHd (Value.agg a0).cells.toList) (hz : b.size ≤ maxLen) (k : (Lit.int .u8 x).wf = true) :
    Calls Try.prog 6 #[.agg a0, .string b, .int .u8 x] w fun e w' => e = .returned (.bool true) ∧ Ext w w' := by
  obtain ⟨d, id, ttl, src, dst, sp, dp, rfl, hw⟩ := hd_args r0
  refine (hturns_law d id ttl src dst sp dp b hw x (wf_u8 k) _ [.agg #[.int .u8 d, .int .u16 id, .int .u8 ttl, .int .u32 src, .int .u32 dst, .int .u16 sp, .int .u16 dp], .string b, .int .u8 x] w ⟨⟨_, rfl, rfl, rfl, rfl, rfl, rfl, rfl, rfl, trivial⟩, rfl, rfl, trivial⟩ (MemOk.empty w)).mono ?_
  rintro e w' ⟨u, rfl, hu, hx⟩
  exact ⟨by rw [show u = .bool true from hu], hx⟩
end Go.Proofs.Yteehpliloegkgaa

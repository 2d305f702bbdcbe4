import Derived.Test.YtccehnjckfploaaSumL
namespace Go.Proofs.Ytccehnjckfploaa
set_option linter.unusedVariables false
set_option linter.unusedSimpArgs false
open Go.RowKit

theorem wordAt_str (s : ByteArray) (p : Nat) (h : p * 2 < s.size) (h' : p * 2 + 1 < s.size) :
    wordAt s.data.toList (2 * p) = (s[p * 2].toNat : Int) * 256 + (s[p * 2 + 1].toNat : Int) := by
  have e : 2 * p = p * 2 := by omega
  have h1 : p * 2 < s.data.toList.length := by simpa using h
  have h2 : p * 2 + 1 < s.data.toList.length := by simpa using h'
  unfold wordAt
  rw [e, List.getD_eq_getElem?_getD, List.getD_eq_getElem?_getD, List.getElem?_eq_getElem h1, List.getElem?_eq_getElem h2]
  rfl

theorem updates_law (s : ByteArray) (p : Nat) (is : Int) (h : 2 * p + 1 < s.size) (hi : 0 ≤ is ∧ is ≤ 65535) (t : ByteArray) (ht : t = withB (withB s (2 * p) (is / 256)) (2 * p + 1) (is % 256)) :
    (allZ t.data.toList = true → 65535 - ringI (ringI (65535 - (65535 - inetL 0 s.data.toList)) (65535 - wordAt s.data.toList (2 * p))) is = 0 ∧ 65535 - inetL 0 t.data.toList = 65535) ∧
    (allZ t.data.toList = false → 65535 - ringI (ringI (65535 - (65535 - inetL 0 s.data.toList)) (65535 - wordAt s.data.toList (2 * p))) is = 65535 - inetL 0 t.data.toList) := by
  have e := withB_two s p (is / 256) (is % 256) h
  have hl : 2 * p + 1 < s.data.toList.length := by simpa using h
  have hab : ((UInt8.ofNat (is / 256).toNat).toNat : Int) * 256 + ((UInt8.ofNat (is % 256).toNat).toNat : Int) = is := by
    rw [ofNat_toNat _ (by omega), ofNat_toNat _ (by omega)]; omega
  have hz := wsum_zero t.data.toList
  rw [← ht] at e
  constructor
  · intro h0
    have := updates0 s.data.toList p _ _ is hl hab (by rw [← e]; exact hz.2 h0)
    rw [← e] at this
    exact this
  · intro h0
    have := updates s.data.toList p _ _ is hl hab (by rw [← e]; intro hw; have := hz.1 hw; unfold allZ at h0; rw [this] at h0; cases h0)
    rw [← e] at this
    exact this

set_option maxHeartbeats 1000000 in
theorem updates_any (s : ByteArray) (at_ is : Int) (w : World) (h1 : 2 ≤ s.size) (h2 : s.size ≤ 5000) (hi : 0 ≤ is ∧ is ≤ 65535) :
    Calls Try.prog 6 #[.string s, .int .i64 at_, .int .u16 is] w fun e w' => e = .returned (.bool true) ∧ Ext w w' := by
  have d1 : decide (5000 < (s.size : Int)) = false := by simp; omega
  have d2 : decide ((s.size : Int) < 2) = false := by simp; omega
  obtain ⟨p, hp, hlt⟩ := place at_ s.size h1 h2
  have hlt1 : p * 2 < s.size := by omega
  have hlt2 : p * 2 + 1 < s.size := by omega
  generalize ht : withB (withB s (2 * p) (is / 256)) (2 * p + 1) (is % 256) = t
  obtain ⟨L1, L2⟩ := updates_law s p is hlt hi t ht.symm
  have z1 := withB_size s (2 * p) (is / 256) (by omega)
  have z2 := withB_size (withB s (2 * p) (is / 256)) (2 * p + 1) (is % 256) (by omega)
  rw [ht] at z2
  have b1 := byte_bd s[p * 2]
  have b2 := byte_bd s[p * 2 + 1]
  rw [wordAt_str s p hlt1 hlt2] at L1 L2
  have bs := inetL_bd s.data.toList 0 (by omega)
  have bt := inetL_bd t.data.toList 0 (by omega)
  generalize hv : withB s (2 * p) (is / 256) = v at ht z1 z2
  generalize hm : 65535 - inetL 0 s.data.toList = m at L1 L2
  generalize hq : 65535 - inetL 0 t.data.toList = q at L1 L2
  generalize hW : (s[p * 2].toNat : Int) * 256 + (s[p * 2 + 1].toNat : Int) = W at L1 L2
  generalize hn : 65535 - ringI (ringI (65535 - m) (65535 - W)) is = n at L1 L2
  have g1 : 2 * p + 1 < t.size ∧ t.size ≤ 1000000 := by omega
  have g3 : 2 * p + 1 < v.size ∧ v.size ≤ 1000000 := by omega
  have bm : 0 ≤ m ∧ m ≤ 65535 := by omega
  have bW : 0 ≤ W ∧ W ≤ 65535 := by omega
  have q1 : ((p : Int) * 2).toNat = 2 * p := by omega
  have q2 : ((p : Int) * 2 + 1).toNat = 2 * p + 1 := by omega
  have H1 := hid (fun w => calls_eq (v' := .string v) (with_any s ((p : Int) * 2) (is / 256) w (by omega) (by omega) (by omega)) (val_string (by rw [q1]; exact hv)))
  have H2 := hid (fun w => calls_eq (v' := .string t) (with_any v ((p : Int) * 2 + 1) (is % 256) w (by omega) (by omega) (by omega)) (val_string (by rw [q2]; exact ht)))
  have H3 := hid (fun w => calls_eq (inet_any s w (by omega)) (val_int hm))
  have H4 := hid (fun w => calls_eq (inet_any t w g1.2) (val_int hq))
  have H5 := hid (fun w => calls_eq (update_any m W is w bm bW hi) (val_int hn))
  have HL1 := hid L1
  have HL2 := hid L2
  have hz : t.size ≤ 1000000 := g1.2
  clear L1 L2 ht hv hm hq hn q1 q2 z1 z2 bs bt g1 g3
  have f1 : 0 ≤ (p : Int) * 2 := by omega
  have f2 : (p : Int) * 2 < s.size := by omega
  have f3 : 0 ≤ (p : Int) * 2 + 1 := by omega
  have f4 : (p : Int) * 2 + 1 < s.size := by omega
  by_cases hal : allZ t.data.toList = true
  · obtain ⟨rfl, rfl⟩ := HL1.out hal
    have H6 := hid (fun w => calls_eq (none_any t w hz) (val_bool hal))
    clear hal HL1 HL2
    go_enter Try.func6, Try.ntmps6
    go_wp2_with fail
    go_region
    go_wp2_with (first
      | (go_at_call 8; ((with_reducible refine (H1.out _).mono ?_); rintro e w1 ⟨rfl, hb1⟩))
      | (go_at_call 8; ((with_reducible refine (H2.out _).mono ?_); rintro e w2 ⟨rfl, hb2⟩))
      | (go_at_call 9; ((with_reducible refine (H3.out _).mono ?_); rintro e w3 ⟨rfl, rfl⟩))
      | (go_at_call 9; ((with_reducible refine (H4.out _).mono ?_); rintro e w3 ⟨rfl, rfl⟩))
      | (go_at_call 15; ((with_reducible refine (H5.out _).mono ?_); rintro e w3 ⟨rfl, rfl⟩))
      | (go_at_call 20; ((with_reducible refine (H6.out _).mono ?_); rintro e w3 ⟨rfl, rfl⟩))
      | (go_at_call 7; refine (lives_any _).mono ?_; rintro e w7 ⟨rfl, hb7⟩))
    go_ret
    exact ⟨rfl, ((Ext.refl w).drew.trans (hb1.trans hb2)).trans hb7⟩
  · have hal' : allZ t.data.toList = false := by simpa using hal
    obtain rfl := HL2.out hal'
    have H6 := hid (fun w => calls_eq (none_any t w hz) (val_bool hal'))
    clear hal hal' HL1 HL2
    go_enter Try.func6, Try.ntmps6
    go_wp2_with fail
    go_region
    go_wp2_with (first
      | (go_at_call 8; ((with_reducible refine (H1.out _).mono ?_); rintro e w1 ⟨rfl, hb1⟩))
      | (go_at_call 8; ((with_reducible refine (H2.out _).mono ?_); rintro e w2 ⟨rfl, hb2⟩))
      | (go_at_call 9; ((with_reducible refine (H3.out _).mono ?_); rintro e w3 ⟨rfl, rfl⟩))
      | (go_at_call 9; ((with_reducible refine (H4.out _).mono ?_); rintro e w3 ⟨rfl, rfl⟩))
      | (go_at_call 15; ((with_reducible refine (H5.out _).mono ?_); rintro e w3 ⟨rfl, rfl⟩))
      | (go_at_call 20; ((with_reducible refine (H6.out _).mono ?_); rintro e w3 ⟨rfl, rfl⟩))
      | (go_at_call 7; refine (lives_any _).mono ?_; rintro e w7 ⟨rfl, hb7⟩))
    go_ret
    exact ⟨rfl, ((Ext.refl w).drew.trans (hb1.trans hb2)).trans hb7⟩

set_option maxHeartbeats 400000 in
theorem updates_out (s : ByteArray) (at_ is : Int) (w : World) (h : s.size < 2 ∨ 5000 < s.size) :
    Calls Try.prog 6 #[.string s, .int .i64 at_, .int .u16 is] w fun e w' => e = .returned (.bool true) ∧ Ext w w' := by
  rcases h with h | h
  · have d1 : decide (5000 < (s.size : Int)) = false := by simp; omega
    have d2 : decide ((s.size : Int) < 2) = true := by simp; omega
    go_enter Try.func6, Try.ntmps6
    go_wp2_with (go_at_call 7; refine (lives_any _).mono ?_; rintro e w7 ⟨rfl, hb7⟩)
    go_ret
    exact ⟨rfl, by assumption⟩
  · have d1 : decide (5000 < (s.size : Int)) = true := by simp; omega
    go_enter Try.func6, Try.ntmps6
    go_wp2_with (go_at_call 7; refine (lives_any _).mono ?_; rintro e w7 ⟨rfl, hb7⟩)
    go_ret
    exact ⟨rfl, by assumption⟩

theorem updates_walk (s : ByteArray) (at_ is : Int) (w : World) (hs : s.size ≤ maxLen) (ha : (Lit.int .i64 at_).wf = true) (hi : (Lit.int .u16 is).wf = true) :
    Calls Try.prog 6 #[.string s, .int .i64 at_, .int .u16 is] w fun e w' => e = .returned (.bool true) ∧ Ext w w' := by
  have hi' : 0 ≤ is ∧ is ≤ 65535 := by simpa [Lit.wf, IntKind.min, IntKind.max, IntKind.signed, IntKind.bits] using hi
  by_cases h : s.size < 2 ∨ 5000 < s.size
  · exact updates_out s at_ is w h
  · exact updates_any s at_ is w (by omega) (by omega) hi'
end Go.Proofs.Ytccehnjckfploaa

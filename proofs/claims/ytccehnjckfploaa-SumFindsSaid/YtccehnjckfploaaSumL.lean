import Derived.Test.YtccehnjckfploaaSumV
import Derived.Test.YtccehnjckfploaaSumN
import Derived.Deep.RegionHeld3
namespace Go.Proofs.Ytccehnjckfploaa
set_option linter.unusedVariables false
set_option linter.unusedSimpArgs false
open Go.RowKit

set_option maxHeartbeats 400000 in
theorem lives_any (w : World) :
    Calls Try.prog 7 #[] w fun e w' => e = .returned (.bool true) ∧ Ext w w' := by
  have h1 : inetL 0 [0, 1, 0, 2] = 3 := by decide
  have h2 : moreL 1 [97, 98, 99] = 38600999 := by decide
  go_enter Try.func7, Try.ntmps7
  go_wp2_with (first
    | (go_at_call 11; refine (seal_any _ _ (by decide)).mono ?_; rintro e w1 ⟨rfl, hb1⟩)
    | (go_at_call 12; refine (open_yes _ _ (by decide)).mono ?_; rintro e w2 ⟨rfl, hb2⟩)
    | (go_at_call 9; refine (inet_any _ _ (by decide)).mono ?_; rintro e w3 ⟨rfl, rfl⟩)
    | (go_at_call 10; refine (of_one _ _ _ ⟨#[97, 98, 99]⟩ _ (by decide) (by simp)).mono ?_; rintro e w3 ⟨rfl, rfl⟩))
  go_ret
  exact ⟨rfl, (hb1.trans hb2).alloc _⟩

theorem withB_toList (s : ByteArray) (k : Nat) (c : Int) (h : k < s.size) : (withB s k c).data.toList = s.data.toList.set k (UInt8.ofNat c.toNat) := by
  unfold withB
  rw [app_toList, app_toList, ext_toList, ext_toList, strOf_toList, List.set_eq_take_append_cons_drop, if_pos (by simpa using h)]
  have e : s.size = s.data.toList.length := by simp
  simp only [List.drop_zero, Nat.sub_zero, List.map_cons, List.map_nil]
  rw [List.take_of_length_le (l := s.data.toList.drop (k + 1)) (by simp), List.append_assoc]; rfl

theorem ofNat_toNat (n : Int) (h : 0 ≤ n ∧ n ≤ 255) : ((UInt8.ofNat n.toNat).toNat : Int) = n := by
  rw [UInt8.toNat_ofNat']; omega

/-- Where a word lies. -/
theorem place (at_ : Int) (n : Nat) (h : 2 ≤ n) (hn : n ≤ 5000) : ∃ p : Nat, (IntKind.u64.wrap at_).tmod ((n : Int) / 2) = p ∧ 2 * p + 1 < n := by
  have h1 : 0 ≤ IntKind.u64.wrap at_ := by simp [IntKind.wrap, IntKind.bits, IntKind.signed]; omega
  rw [Int.tmod_eq_emod_of_nonneg h1]
  have h2 := Int.emod_nonneg (IntKind.u64.wrap at_) (show (n : Int) / 2 ≠ 0 by omega)
  have h3 := Int.emod_lt_of_pos (IntKind.u64.wrap at_) (show 0 < (n : Int) / 2 by omega)
  exact ⟨(IntKind.u64.wrap at_ % ((n : Int) / 2)).toNat, by omega, by omega⟩

theorem withB_two (s : ByteArray) (p : Nat) (a b : Int) (h : 2 * p + 1 < s.size) :
    (withB (withB s (2 * p) a) (2 * p + 1) b).data.toList = (s.data.toList.set (2 * p) (UInt8.ofNat a.toNat)).set (2 * p + 1) (UInt8.ofNat b.toNat) := by
  rw [withB_toList _ _ _ (by rw [withB_size _ _ _ (by omega)]; omega), withB_toList _ _ _ (by omega)]

theorem nought_law (s : ByteArray) (p : Nat) (h : 2 * p + 1 < s.size) (t : ByteArray) (ht : t = withB (withB s (2 * p) 0) (2 * p + 1) 0) (n : Int) (hn : n = 65535 - inetL 0 t.data.toList) :
    65535 - inetL 0 (withB (withB t (2 * p) (n / 256)) (2 * p + 1) (n % 256)).data.toList = 0 := by
  have e := withB_two s p 0 0 h
  have hz : t.size = s.size := by rw [ht, withB_size _ _ _ (by rw [withB_size _ _ _ (by omega)]; omega), withB_size _ _ _ (by omega)]
  have hb := inetL_bd t.data.toList 0 (by omega)
  rw [withB_two t p _ _ (by omega)]
  refine nought _ _ _ _ (by simpa [hz] using h) ?_ ?_
  · rw [ht, e]; unfold wordAt
    have hl : 2 * p + 1 < s.data.toList.length := by simpa using h
    simp [List.getD_eq_getElem?_getD, List.getElem?_set, hl]
    have hl' : 2 * p < s.size := by omega
    simp [h, hl']
  · rw [ofNat_toNat _ (by omega), ofNat_toNat _ (by omega), hn]; omega

set_option maxHeartbeats 400000 in
theorem nought_any (s : ByteArray) (at_ : Int) (w : World) (h1 : 2 ≤ s.size) (h2 : s.size ≤ 5000) :
    Calls Try.prog 3 #[.string s, .int .i64 at_] w fun e w' => e = .returned (.bool true) ∧ Ext w w' := by
  have d1 : decide (5000 < (s.size : Int)) = false := by simp; omega
  have d2 : decide ((s.size : Int) < 2) = false := by simp; omega
  obtain ⟨p, hp, hlt⟩ := place at_ s.size h1 h2
  generalize ht : withB (withB s (2 * p) 0) (2 * p + 1) 0 = t
  generalize hn : 65535 - inetL 0 t.data.toList = n
  have hfin := nought_law s p hlt t ht.symm n hn.symm
  have z1 := withB_size s (2 * p) 0 (by omega)
  have z2 := withB_size (withB s (2 * p) 0) (2 * p + 1) 0 (by omega)
  rw [ht] at z2
  have hb := inetL_bd t.data.toList 0 (by omega)
  have hnb : 0 ≤ n ∧ n ≤ 65535 := by omega
  have z3 := withB_size t (2 * p) (n / 256) (by omega)
  have z4 := withB_size (withB t (2 * p) (n / 256)) (2 * p + 1) (n % 256) (by omega)
  generalize hu : withB (withB t (2 * p) (n / 256)) (2 * p + 1) (n % 256) = u at hfin z4
  generalize hv : withB s (2 * p) 0 = v at ht z1 z2
  generalize hx : withB t (2 * p) (n / 256) = x at hu z3 z4
  have HT := hid ht
  have HN := hid hn
  have HU := hid hu
  have HV := hid hv
  have HX := hid hx
  have g1 : 2 * p + 1 < t.size ∧ t.size ≤ 1000000 := by omega
  have g2 : 2 * p + 1 < u.size ∧ u.size ≤ 1000000 := by omega
  have g3 : 2 * p + 1 < v.size ∧ v.size ≤ 1000000 := by omega
  have g4 : 2 * p + 1 < x.size ∧ x.size ≤ 1000000 := by omega
  clear ht hn hu hv hx z1 z2 z3 z4 hb
  have q1 : ((p : Int) * 2).toNat = 2 * p := by omega
  have q2 : ((p : Int) * 2 + 1).toNat = 2 * p + 1 := by omega
  have H1 := hid (fun w => calls_eq (with_any s ((p : Int) * 2) 0 w (by omega) (by omega) (by omega)) (v' := .string v) (val_string (by rw [q1]; exact HV.out)))
  have H2 := hid (fun w => calls_eq (with_any v ((p : Int) * 2 + 1) 0 w (by omega) (by omega) (by omega)) (v' := .string t) (val_string (by rw [q2]; exact HT.out)))
  have H3 := hid (fun w => calls_eq (with_any t ((p : Int) * 2) (n / 256) w (by omega) (by omega) (by omega)) (v' := .string x) (val_string (by rw [q1]; exact HX.out)))
  have H4 := hid (fun w => calls_eq (with_any x ((p : Int) * 2 + 1) (n % 256) w (by omega) (by omega) (by omega)) (v' := .string u) (val_string (by rw [q2]; exact HU.out)))
  have H5 := hid (fun w => calls_eq (inet_any t w g1.2) (val_int HN.out))
  have H6 := hid (fun w => calls_eq (inet_any u w g2.2) (val_int hfin))
  clear hfin q1 q2
  go_enter Try.func3, Try.ntmps3
  go_wp2_with (first
    | (go_at_call 8; ((with_reducible refine (H1.out _).mono ?_); rintro e w1 ⟨rfl, hb1⟩))
    | (go_at_call 8; ((with_reducible refine (H2.out _).mono ?_); rintro e w2 ⟨rfl, hb2⟩))
    | (go_at_call 8; ((with_reducible refine (H3.out _).mono ?_); rintro e w3 ⟨rfl, hb3⟩))
    | (go_at_call 8; ((with_reducible refine (H4.out _).mono ?_); rintro e w4 ⟨rfl, hb4⟩))
    | (go_at_call 9; ((with_reducible refine (H5.out _).mono ?_); rintro e w5 ⟨rfl, rfl⟩))
    | (go_at_call 9; ((with_reducible refine (H6.out _).mono ?_); rintro e w6 ⟨rfl, rfl⟩))
    | (go_at_call 7; refine (lives_any _).mono ?_; rintro e w7 ⟨rfl, hb7⟩))
  go_ret
  exact ⟨rfl, (((hb1.trans hb2).trans hb3).trans hb4).trans hb7⟩

set_option maxHeartbeats 400000 in
theorem nought_out (s : ByteArray) (at_ : Int) (w : World) (h : s.size < 2 ∨ 5000 < s.size) :
    Calls Try.prog 3 #[.string s, .int .i64 at_] w fun e w' => e = .returned (.bool true) ∧ Ext w w' := by
  rcases h with h | h
  · have d1 : decide (5000 < (s.size : Int)) = false := by simp; omega
    have d2 : decide ((s.size : Int) < 2) = true := by simp; omega
    go_enter Try.func3, Try.ntmps3
    go_wp2_with (go_at_call 7; refine (lives_any _).mono ?_; rintro e w7 ⟨rfl, hb7⟩)
    go_ret
    exact ⟨rfl, by assumption⟩
  · have d1 : decide (5000 < (s.size : Int)) = true := by simp; omega
    go_enter Try.func3, Try.ntmps3
    go_wp2_with (go_at_call 7; refine (lives_any _).mono ?_; rintro e w7 ⟨rfl, hb7⟩)
    go_ret
    exact ⟨rfl, by assumption⟩

theorem nought_walk (s : ByteArray) (at_ : Int) (w : World) (hs : s.size ≤ maxLen) (ha : (Lit.int .i64 at_).wf = true) :
    Calls Try.prog 3 #[.string s, .int .i64 at_] w fun e w' => e = .returned (.bool true) ∧ Ext w w' := by
  by_cases h : s.size < 2 ∨ 5000 < s.size
  · exact nought_out s at_ w h
  · exact nought_any s at_ w (by omega) (by omega)
end Go.Proofs.Ytccehnjckfploaa

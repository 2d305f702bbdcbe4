import Derived.Test.YtccehnjckfploaaSumW
namespace Go.Proofs.Ytccehnjckfploaa
set_option linter.unusedVariables false
set_option linter.unusedSimpArgs false
open Go.RowKit

/-- A text with its sum behind it. -/
def sealB (s : ByteArray) : ByteArray := s ++ strOf (four (moreL 1 s.data.toList))
/-- A text with another byte at a place. -/
def withB (s : ByteArray) (k : Nat) (c : Int) : ByteArray := (s.extract 0 k ++ strOf [c]) ++ s.extract (k+1) s.size
theorem sealB_size (s : ByteArray) : (sealB s).size = s.size + 4 := by
  unfold sealB; rw [ByteArray.size_append, strOf_size]; rfl
theorem withB_size (s : ByteArray) (k : Nat) (c : Int) (h : k < s.size) : (withB s k c).size = s.size := by
  unfold withB; simp only [ByteArray.size_append, strOf_size, ByteArray.size_extract, List.length_cons, List.length_nil]; omega

set_option maxHeartbeats 400000 in
theorem of_any (b off cap : Nat) (ss : List ByteArray) (w : World) (hs : ∀ s ∈ ss, s.size ≤ 1000000) (hl : ss.length ≤ 9223372036854775807)
    (hc : ∀ i (h : i < ss.length), w.cell? ⟨b, off + i, none⟩ = some (.string ss[i])) :
    Calls Try.prog 10 #[.slice (some ⟨b, off, none⟩) ss.length cap] w fun e w' => e = .returned (.int .u32 (ofL 1 ss)) ∧ w = w' := by
  have HC := hid hc
  have HS := hid hs
  clear hc hs
  go_enter Try.func10, Try.ntmps10
  go_wp2
  go_loop [3, 8] (fun a i => ∃ (k : Nat) (n : Int), k ≤ ss.length ∧ i = .int .i64 k ∧ a = .int .u32 n ∧ (0 ≤ n ∧ n ≤ 4294967295) ∧ ofL n (ss.drop k) = ofL 1 ss) (fun _ i => ss.length - (intOf i).toNat)
  case atStart => exact ⟨0, 1, Nat.zero_le _, rfl, rfl, by omega, rfl⟩
  case round =>
    obtain ⟨k, n, hk, rfl, rfl, hn, hq⟩ := hrel
    have HQ := hid hq
    clear hq
    by_cases hlt : k < ss.length
    · have hcell := HC.out k hlt
      have hz := HS.out ss[k] (List.getElem_mem hlt)
      have hb := moreL_bd n hn.1 ss[k].data.toList
      go_wp2_with (go_at_call 17; refine (more_any _ _ _ (by omega) hz).mono ?_; rintro e w' ⟨rfl, rfl⟩)
      go_round
      case rel =>
        exact ⟨k + 1, _, by omega, by go_num, rfl, hb, by rw [← HQ.out, List.drop_eq_getElem_cons hlt]; rfl⟩
      case measure => simp [intOf]; omega
    · go_wp2
      go_ret
      exact ⟨ret_int (by rw [← HQ.out, List.drop_eq_nil_of_le (by omega)]; rfl), rfl⟩

set_option maxHeartbeats 400000 in
theorem of_none (ao : Option Addr) (cap : Nat) (w : World) :
    Calls Try.prog 10 #[.slice ao 0 cap] w fun e w' => e = .returned (.int .u32 1) ∧ w = w' := by
  go_enter Try.func10, Try.ntmps10
  go_wp2
  refine wp_loop_rounds 1 ?_
  rw [rounds_succ]
  go_wp2
  go_ret
  exact ⟨rfl, rfl⟩

theorem of_one (b off cap : Nat) (s : ByteArray) (w : World) (hs : s.size ≤ 1000000) (hc : w.cell? ⟨b, off, none⟩ = some (.string s)) :
    Calls Try.prog 10 #[.slice (some ⟨b, off, none⟩) 1 cap] w fun e w' => e = .returned (.int .u32 (moreL 1 s.data.toList)) ∧ w = w' :=
  of_any b off cap [s] w (by simpa using hs) (by simp) (by intro i h; obtain rfl : i = 0 := by simp at h; omega
                                                           exact hc)

set_option maxHeartbeats 400000 in
theorem rof_any (s : ByteArray) (w : World) (hs : s.size ≤ 1000000) :
    Calls Try.prog 19 #[.string s] w fun e w' => e = .returned (.int .u32 (moreL 1 s.data.toList)) ∧ w = w' := by
  go_enter Try.func19, Try.ntmps19
  go_wp2_with (go_at_call 18; refine (rmore_any _ _ _ (by omega) hs).mono ?_; rintro e w' ⟨rfl, rfl⟩)
  go_ret
  exact ⟨rfl, rfl⟩

set_option maxHeartbeats 400000 in
theorem seal_any (s : ByteArray) (w : World) (hs : s.size ≤ 1000000) :
    Calls Try.prog 11 #[.string s] w fun e w' => e = .returned (.string (sealB s)) ∧ Ext w w' := by
  have hb := moreL_bd 1 (by omega) s.data.toList
  have hcv := @run_str4 Try.prog 45 9 5 Try.underlying45 Try.underlying5 Try.underlying9
  have hz := strOf_size (four (moreL 1 s.data.toList))
  unfold sealB
  unfold four at hz ⊢
  go_enter Try.func11, Try.ntmps11
  go_wp2_with (go_at_call 10; refine (of_one _ _ _ _ _ hs (by simp)).mono ?_; rintro e w' ⟨rfl, rfl⟩)
  go_ret
  refine ⟨rfl, ((Ext.refl _).alloc _).alloc _⟩

set_option maxHeartbeats 400000 in
theorem rseal_any (s : ByteArray) (w : World) (hs : s.size ≤ 1000000) :
    Calls Try.prog 13 #[.string s] w fun e w' => e = .returned (.string (sealB s)) ∧ Ext w w' := by
  have hb := moreL_bd 1 (by omega) s.data.toList
  have hcv := @run_str4a Try.prog 45 9 5 Try.underlying45 Try.underlying5 Try.underlying9
  have hz := strOf_size (four (moreL 1 s.data.toList))
  unfold sealB
  unfold four at hz ⊢
  go_enter Try.func13, Try.ntmps13
  go_wp2_with (go_at_call 19; refine (rof_any _ _ hs).mono ?_; rintro e w' ⟨rfl, rfl⟩)
  go_ret
  refine ⟨rfl, (((Ext.refl _).alloc _).alloc _).drew⟩

set_option maxHeartbeats 400000 in
theorem with_any (s : ByteArray) (k c : Int) (w : World) (hk : 0 ≤ k ∧ k < s.size) (hs : s.size ≤ 1000000) (hc : 0 ≤ c ∧ c ≤ 255) :
    Calls Try.prog 8 #[.string s, .int .i64 k, .int .u8 c] w fun e w' => e = .returned (.string (withB s k.toNat c)) ∧ Ext w w' := by
  obtain ⟨k, rfl⟩ := Int.eq_ofNat_of_zero_le hk.1
  have hcv := @run_str1d Try.prog 45 9 5 Try.underlying45 Try.underlying5 Try.underlying9
  have hz := strOf_size [c]
  have hk1 : k ≤ s.size := by omega
  have hk2 : k + 1 ≤ s.size := by omega
  rw [Int.toNat_natCast]
  unfold withB
  go_enter Try.func8, Try.ntmps8
  go_wp2
  go_region
  all_goals go_wp2
  go_ret
  exact ⟨rfl, ((Ext.refl _).alloc _).drew⟩

set_option maxHeartbeats 400000 in
theorem open_short (s : ByteArray) (w : World) (h : s.size < 4) :
    Calls Try.prog 12 #[.string s] w fun e w' => e = .returned (.tuple #[.string ⟨#[]⟩, .bool false]) ∧ Ext w w' := by
  go_enter Try.func12, Try.ntmps12
  go_wp2
  go_ret2
  exact ⟨rfl, Ext.refl _⟩

set_option maxHeartbeats 400000 in
theorem open_no (s : ByteArray) (w : World) (hs : s.size ≤ 1000000) (h : 4 ≤ s.size) (hne : sealB (s.extract 0 (s.size - 4)) ≠ s) :
    Calls Try.prog 12 #[.string s] w fun e w' => e = .returned (.tuple #[.string ⟨#[]⟩, .bool false]) ∧ Ext w w' := by
  have hz : (s.extract 0 (s.size - 4)).size ≤ 1000000 := by simp; omega
  generalize hg : sealB (s.extract 0 (s.size - 4)) = t at hne
  have HG := hid hg
  have hq := toList_ne hne
  have hd : decide ((s.size : Int) < 4) = false := by simp; omega
  clear hg
  go_enter Try.func12, Try.ntmps12
  go_wp2_with (go_at_call 11; refine (calls_eq (seal_any _ _ hz) (congrArg Value.string HG.out)).mono ?_; rintro e w' ⟨rfl, hb⟩)
  go_ret2
  exact ⟨rfl, by assumption⟩

set_option maxHeartbeats 400000 in
theorem open_yes (t : ByteArray) (w : World) (hs : t.size ≤ 1000000) :
    Calls Try.prog 12 #[.string (sealB t)] w fun e w' => e = .returned (.tuple #[.string t, .bool true]) ∧ Ext w w' := by
  have hx : (sealB t).extract 0 ((sealB t).size - 4) = t := by
    rw [sealB_size, Nat.add_sub_cancel]
    apply bytes_ext
    unfold sealB
    rw [ext_toList, app_toList]
    simp
  have hz' := sealB_size t
  generalize hg : sealB t = s at hx hz' ⊢
  have HG := hid hg
  have hd : decide ((s.size : Int) < 4) = false := by simp; omega
  have hz : s.size ≤ 1000004 ∧ 4 ≤ s.size := by omega
  clear hg hz'
  go_enter Try.func12, Try.ntmps12
  go_wp2_with (go_at_call 11; refine (calls_eq (seal_any _ _ hs) (congrArg Value.string HG.out)).mono ?_; rintro e w' ⟨rfl, hb⟩)
  go_ret2
  exact ⟨ret2 (val_string hx) rfl, by assumption⟩

/-- Are all of a text's bytes 0? -/
def allZ (l : List UInt8) : Bool := l.all (· == 0)
theorem allZ_cons (a : UInt8) (l : List UInt8) : allZ (a :: l) = (a == 0 && allZ l) := rfl

set_option maxHeartbeats 400000 in
theorem none_any (s : ByteArray) (w : World) (hs : s.size ≤ 1000000) :
    Calls Try.prog 20 #[.string s] w fun e w' => e = .returned (.bool (allZ s.data.toList)) ∧ w = w' := by
  go_enter Try.func20, Try.ntmps20
  go_wp2
  go_loop [2, 3] (fun _ i => ∃ (k : Nat), k ≤ s.size ∧ i = .int .i64 k ∧ allZ (s.data.toList.drop k) = allZ s.data.toList) (fun _ i => s.size - (intOf i).toNat)
  case atStart => exact ⟨0, Nat.zero_le _, rfl, rfl⟩
  case round =>
    obtain ⟨k, hk, rfl, hq⟩ := hrel
    have HQ := hid hq
    clear hq
    by_cases hlt : k < s.size
    · have b1 := byte_bd s[k]
      have hd := hid (drop_cons s k hlt)
      by_cases hb : s[k] = 0
      · have hb' : (s[k].toNat : Int) = 0 := by rw [hb]; rfl
        go_wp2
        go_round
        case rel => exact ⟨k + 1, by omega, by go_num, by rw [← HQ.out, hd.out, allZ_cons]; simp [hb]⟩
        case measure => simp [intOf]; omega
      · have hb' : 1 ≤ (s[k].toNat : Int) := by
          have : s[k].toNat ≠ 0 := fun h => hb (UInt8.toNat_inj.1 (by simpa using h))
          omega
        go_wp2
        go_ret
        exact ⟨ret_bool (by rw [← HQ.out, hd.out, allZ_cons]; simp [hb]), rfl⟩
    · go_wp2
      go_ret
      exact ⟨ret_bool (by rw [← HQ.out, drop_end s _ (by omega)]; rfl), rfl⟩
end Go.Proofs.Ytccehnjckfploaa

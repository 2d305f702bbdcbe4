import Derived.Test.YtccehnjckfploaaB0
import Derived.Test.YtccehnjckfploaaSumM
namespace Go.Proofs.Ytccehnjckfploaa
set_option linter.unusedVariables false
set_option linter.unusedSimpArgs false
open Go.RowKit

set_option maxHeartbeats 400000 in
theorem ring_any (a b : Int) (w : World) (ha : 0 ≤ a ∧ a ≤ 65535) (hb : 0 ≤ b ∧ b ≤ 65535) :
    Calls Try.prog 21 #[.int .u32 a, .int .u32 b] w fun e w' => e = .returned (.int .u32 (ringI a b)) ∧ w = w' := by
  have hx := u32_and65535 (a + b) (by omega) (by omega)
  go_enter Try.func21, Try.ntmps21
  go_wp2
  go_ret
  exact ⟨ret_int (ringI_alt a b ha hb), rfl⟩

set_option maxHeartbeats 400000 in
theorem rring_any (a b : Int) (w : World) (ha : 0 ≤ a ∧ a ≤ 65535) (hb : 0 ≤ b ∧ b ≤ 65535) :
    Calls Try.prog 22 #[.int .i64 a, .int .i64 b] w fun e w' => e = .returned (.int .i64 (ringI a b)) ∧ w = w' := by
  go_enter Try.func22, Try.ntmps22
  go_wp2
  all_goals go_ret
  · exact ⟨ret_int (by unfold ringI; rw [if_pos (by omega)]), rfl⟩
  · exact ⟨ret_int (by unfold ringI; rw [if_neg (by omega)]), rfl⟩

set_option maxHeartbeats 400000 in
theorem update_any (a b c : Int) (w : World) (ha : 0 ≤ a ∧ a ≤ 65535) (hb : 0 ≤ b ∧ b ≤ 65535) (hc : 0 ≤ c ∧ c ≤ 65535) :
    Calls Try.prog 15 #[.int .u16 a, .int .u16 b, .int .u16 c] w fun e w' => e = .returned (.int .u16 (65535 - ringI (ringI (65535 - a) (65535 - b)) c)) ∧ w = w' := by
  have h1 := ringI_bd (65535 - a) (65535 - b) (by omega) (by omega)
  have h2 := ringI_bd _ c h1 hc
  have g1 := u16_not a ha
  have g2 := u16_not b hb
  have g3 := u16_not _ h2
  have g4 : (65535 - a) % 4294967296 = 65535 - a := by omega
  have g5 : (65535 - b) % 4294967296 = 65535 - b := by omega
  go_enter Try.func15, Try.ntmps15
  go_wp2_with (go_at_call 21; refine (ring_any _ _ _ (by omega) (by omega)).mono ?_; rintro e w' ⟨rfl, rfl⟩)
  go_ret
  exact ⟨ret_int rfl, rfl⟩
set_option maxHeartbeats 400000 in
theorem rupdate_any (a b c : Int) (w : World) (ha : 0 ≤ a ∧ a ≤ 65535) (hb : 0 ≤ b ∧ b ≤ 65535) (hc : 0 ≤ c ∧ c ≤ 65535) :
    Calls Try.prog 16 #[.int .i64 a, .int .i64 b, .int .i64 c] w fun e w' => e = .returned (.int .i64 (65535 - ringI (ringI (65535 - a) (65535 - b)) c)) ∧ w = w' := by
  have h1 := ringI_bd (65535 - a) (65535 - b) (by omega) (by omega)
  have h2 := ringI_bd _ c h1 hc
  go_enter Try.func16, Try.ntmps16
  go_wp2_with (go_at_call 22; refine (rring_any _ _ _ (by omega) (by omega)).mono ?_; rintro e w' ⟨rfl, rfl⟩)
  go_ret
  exact ⟨ret_int rfl, rfl⟩


theorem inet_two (s : ByteArray) (k : Nat) (n : Int) (h : k < s.size) (h1 : k + 1 < s.size) :
    inetL n (s.data.toList.drop k) = inetL (ringI n ((s[k].toNat : Int) * 256 + (s[k+1].toNat : Int))) (s.data.toList.drop (k + 2)) := by
  rw [drop_cons s k h, drop_cons s (k+1) h1]; rfl
theorem inet_one (s : ByteArray) (k : Nat) (n : Int) (h : k < s.size) (h1 : s.size ≤ k + 1) :
    inetL n (s.data.toList.drop k) = inetL (ringI n ((s[k].toNat : Int) * 256)) (s.data.toList.drop (k + 2)) := by
  rw [drop_cons s k h, drop_end s (k+1) h1, drop_end s (k+2) (by omega)]; rfl

set_option maxHeartbeats 400000 in
theorem rinet_any (s : ByteArray) (w : World) (hs : s.size ≤ 1000000) :
    Calls Try.prog 14 #[.string s] w fun e w' => e = .returned (.int .i64 (65535 - inetL 0 s.data.toList)) ∧ w = w' := by
  go_enter Try.func14, Try.ntmps14
  go_wp2
  go_loop [3, 4] (fun n i => ∃ (k : Nat) (m : Int), k ≤ s.size ∧ i = .int .i64 k ∧ n = .int .i64 m ∧ (0 ≤ m ∧ m ≤ 65535) ∧ inetL m (s.data.toList.drop (k + k % 2)) = inetL 0 s.data.toList) (fun _ i => s.size - (intOf i).toNat)
  case atStart => exact ⟨0, 0, Nat.zero_le _, rfl, rfl, by omega, rfl⟩
  case round =>
    obtain ⟨k, m, hk, rfl, rfl, hm, hq⟩ := hrel
    have HQ := hid hq
    clear hq
    by_cases hlt : k < s.size
    · have b1 := byte_bd s[k]
      by_cases hp : k % 2 = 0
      · by_cases h1 : k + 1 < s.size
        · have b2 := byte_bd s[k+1]
          have b3 := ringI_bd m ((s[k].toNat : Int) * 256 + (s[k+1].toNat : Int)) hm (by omega)
          go_wp2_with (go_at_call 22; refine (rring_any _ _ _ (by omega) (by omega)).mono ?_; rintro e w' ⟨rfl, rfl⟩)
          go_round
          case rel =>
            refine ⟨k + 1, _, by omega, by go_num, rfl, b3, ?_⟩
            rw [← HQ.out, show k + k % 2 = k by omega, show k + 1 + (k + 1) % 2 = k + 2 by omega, inet_two s k m hlt h1]
          case measure => simp [intOf]; omega
        · have b3 := ringI_bd m ((s[k].toNat : Int) * 256) hm (by omega)
          go_wp2_with (go_at_call 22; refine (rring_any _ _ _ (by omega) (by omega)).mono ?_; rintro e w' ⟨rfl, rfl⟩)
          go_round
          case rel =>
            refine ⟨k + 1, _, by omega, by go_num, rfl, b3, ?_⟩
            rw [← HQ.out, show k + k % 2 = k by omega, show k + 1 + (k + 1) % 2 = k + 2 by omega, inet_one s k m hlt (by omega)]
          case measure => simp [intOf]; omega
      · go_wp2
        go_round
        case rel => exact ⟨k + 1, _, by omega, by go_num, rfl, hm, by rw [← HQ.out, show k + 1 + (k + 1) % 2 = k + k % 2 by omega]⟩
        case measure => simp [intOf]; omega
    · go_wp2
      go_ret
      exact ⟨ret_int (by rw [← HQ.out, drop_end s _ (by omega)]; rfl), rfl⟩

set_option maxHeartbeats 400000 in
theorem inet_any (s : ByteArray) (w : World) (hs : s.size ≤ 1000000) :
    Calls Try.prog 9 #[.string s] w fun e w' => e = .returned (.int .u16 (65535 - inetL 0 s.data.toList)) ∧ w = w' := by
  go_enter Try.func9, Try.ntmps9
  go_wp2
  go_loop [3, 4] (fun n i => ∃ (k : Nat) (m : Int), k ≤ s.size + 1 ∧ k % 2 = 0 ∧ i = .int .i64 k ∧ n = .int .u32 m ∧ (0 ≤ m ∧ m ≤ 65535) ∧ inetL m (s.data.toList.drop k) = inetL 0 s.data.toList) (fun _ i => s.size + 2 - (intOf i).toNat)
  case atStart => exact ⟨0, 0, Nat.zero_le _, rfl, rfl, rfl, by omega, rfl⟩
  case round =>
    obtain ⟨k, m, hk, hp, rfl, rfl, hm, hq⟩ := hrel
    have HQ := hid hq
    have HP := hid hp
    clear hq hp
    by_cases hlt : k < s.size
    · have b1 := byte_bd s[k]
      by_cases h1 : k + 1 < s.size
      · have b2 := byte_bd s[k+1]
        have b3 := ringI_bd m ((s[k].toNat : Int) * 256 + (s[k+1].toNat : Int)) hm (by omega)
        go_wp2_with (go_at_call 21; refine (ring_any _ _ _ (by omega) (by omega)).mono ?_; rintro e w' ⟨rfl, rfl⟩)
        go_round
        case rel =>
          exact ⟨k + 2, _, by omega, by have := HP.out; omega, by go_num, rfl, b3, by rw [← HQ.out, inet_two s k m hlt h1]⟩
        case measure => simp [intOf]; omega
      · have b3 := ringI_bd m ((s[k].toNat : Int) * 256) hm (by omega)
        go_wp2_with (go_at_call 21; refine (ring_any _ _ _ (by omega) (by omega)).mono ?_; rintro e w' ⟨rfl, rfl⟩)
        go_round
        case rel =>
          exact ⟨k + 2, _, by omega, by have := HP.out; omega, by go_num, rfl, b3, by rw [← HQ.out, inet_one s k m hlt (by omega)]⟩
        case measure => simp [intOf]; omega
    · have g1 := u16_not m hm
      have g2 : m % 65536 = m := by omega
      go_wp2
      go_ret
      exact ⟨ret_int (by rw [← HQ.out, drop_end s _ (by omega)]; rfl), rfl⟩
theorem lo_step (s : ByteArray) (k : Nat) (l : Int) (h : k < s.size) :
    loL l (s.data.toList.drop k) = loL ((l + (s[k].toNat : Int)) % 65521) (s.data.toList.drop (k + 1)) := by
  rw [drop_cons s k h]; rfl
theorem hi_step (s : ByteArray) (k : Nat) (l m : Int) (h : k < s.size) :
    hiL l m (s.data.toList.drop k) = hiL ((l + (s[k].toNat : Int)) % 65521) ((m + (l + (s[k].toNat : Int)) % 65521) % 65521) (s.data.toList.drop (k + 1)) := by
  rw [drop_cons s k h]; rfl

set_option maxHeartbeats 400000 in
theorem more_any (n : Int) (s : ByteArray) (w : World) (hn : 0 ≤ n ∧ n ≤ 4294967295) (hs : s.size ≤ 1000000) :
    Calls Try.prog 17 #[.int .u32 n, .string s] w fun e w' => e = .returned (.int .u32 (moreL n s.data.toList)) ∧ w = w' := by
  go_enter Try.func17, Try.ntmps17
  go_wp2
  go_loop [5, 6, 16] (fun a b i => ∃ (k : Nat) (l h : Int), k ≤ s.size ∧ i = .int .i64 k ∧ a = .int .u32 l ∧ b = .int .u32 h ∧ (0 ≤ l ∧ l ≤ 65520) ∧ (0 ≤ h ∧ h ≤ 65520) ∧
      (loL l (s.data.toList.drop k) = loL (n % 65536 % 65521) s.data.toList ∧ hiL l h (s.data.toList.drop k) = hiL (n % 65536 % 65521) (n / 65536 % 65521) s.data.toList)) (fun _ _ i => s.size - (intOf i).toNat)
  case atStart => exact ⟨0, _, _, Nat.zero_le _, rfl, rfl, rfl, by omega, by omega, rfl, rfl⟩
  case round =>
    obtain ⟨k, l, h, hk, rfl, rfl, rfl, hl, hh, hq⟩ := hrel
    have HQ := hid hq
    clear hq
    by_cases hlt : k < s.size
    · have b1 := byte_bd s[k]
      go_wp2
      go_round
      case rel =>
        exact ⟨k + 1, _, _, by omega, by go_num, rfl, rfl, by omega, by omega, by rw [← HQ.out.1, lo_step s k l hlt], by rw [← HQ.out.2, hi_step s k l h hlt]⟩
      case measure => simp [intOf]; omega
    · go_wp2
      go_ret
      exact ⟨ret_int (by have h1 := HQ.out.1; have h2 := HQ.out.2; rw [drop_end s _ (by omega)] at h1 h2; unfold moreL; rw [← h1, ← h2]; rfl), rfl⟩

set_option maxHeartbeats 400000 in
theorem rmore_any (n : Int) (s : ByteArray) (w : World) (hn : 0 ≤ n ∧ n ≤ 4294967295) (hs : s.size ≤ 1000000) :
    Calls Try.prog 18 #[.int .u32 n, .string s] w fun e w' => e = .returned (.int .u32 (moreL n s.data.toList)) ∧ w = w' := by
  go_enter Try.func18, Try.ntmps18
  go_wp2
  go_loop [5, 6, 7] (fun a b i => ∃ (k : Nat) (l h : Int), k ≤ s.size ∧ i = .int .i64 k ∧ a = .int .i64 l ∧ b = .int .i64 h ∧ (0 ≤ l ∧ l ≤ 65520) ∧ (0 ≤ h ∧ h ≤ 65520) ∧
      (loL l (s.data.toList.drop k) = loL (n % 65536 % 65521) s.data.toList ∧ hiL l h (s.data.toList.drop k) = hiL (n % 65536 % 65521) (n / 65536 % 65521) s.data.toList)) (fun _ _ i => s.size - (intOf i).toNat)
  case atStart => exact ⟨0, _, _, Nat.zero_le _, rfl, rfl, rfl, by omega, by omega, rfl, rfl⟩
  case round =>
    obtain ⟨k, l, h, hk, rfl, rfl, rfl, hl, hh, hq⟩ := hrel
    have HQ := hid hq
    clear hq
    by_cases hlt : k < s.size
    · have b1 := byte_bd s[k]
      go_wp2
      go_round
      case rel =>
        exact ⟨k + 1, _, _, by omega, by go_num, rfl, rfl, by omega, by omega, by rw [← HQ.out.1, lo_step s k l hlt], by rw [← HQ.out.2, hi_step s k l h hlt]⟩
      case measure => simp [intOf]; omega
    · go_wp2
      go_ret
      exact ⟨ret_int (by have h1 := HQ.out.1; have h2 := HQ.out.2; rw [drop_end s _ (by omega)] at h1 h2; unfold moreL; rw [← h1, ← h2]; rfl), rfl⟩
end Go.Proofs.Ytccehnjckfploaa

/- OpsOnly returns true. No condition. -/
import Derived.Test.YtecgigeahkijaaaOpW
import Derived.Test.YtecgigeahkijaaaOpT
import Derived.Test.YtecgigeahkijaaaEB
namespace Go.Proofs.Ytecgigeahkijaaa
set_option linter.unusedVariables false
set_option linter.unusedSimpArgs false
open Go.RowKit E
theorem opsS_ok {L : Nat → Op5} {n : Nat} (h : allR L n = true) : opsS L n = strL (opsL L n) := by unfold opsS; rw [if_pos h]
theorem oonly_walk (s t : ByteArray) (w : World) (hz : s.size ≤ maxLen) (hz2 : t.size ≤ maxLen) :
    Calls Try.prog 5 #[.string s, .string t] w fun e w' => e = .returned (.bool true) ∧ Ext w w' := by
  have fin : LawOk Try.prog 5 [sA s, sA t] [] (bA true) := by
    by_cases h : 2000 < s.size
    · exact oo_l s t h
    by_cases ht : 2000 < t.size
    · exact oo_k s t (by omega) ht
    have hn := numO_le s
    have hm := numO_le t
    have hil := ints_len s
    rcases numO_spec s with ⟨a1, a2, a3⟩ | ⟨a1, p, a2, a3, a4, a5⟩
    · obtain ⟨b1, b2, b3⟩ := only_take (numO s) a3
      rw [a2, List.take_of_length_le (by omega)] at b3
      have hS : opsS (opX s) (numO s) = s := by rw [opsS_ok b1, b3, strL_str]
      obtain ⟨q1, q2⟩ := both_ops (t := t) a1
      have hr : ((if allR (opX s) (numO s) = true then (0 : Int) else 6) == 0) = true := by rw [if_pos b1]; rfl
      by_cases h0 : numO s = 0
      · exact oo_0 s t (by omega) (by omega) (by omega) (by omega) h0 (fun i hi => (b2 i hi).1) hr hS q1 q2
      · exact oo_w s t (by omega) (by omega) (by omega) (by omega) (by omega) (numO s - 1) (w64 (by omega) (by omega)) (by omega) (b2 _ (by omega)).2 (fun i hi => (b2 i hi).1) hr hS q1 q2
    · obtain ⟨b1, b2, b3⟩ := only_take p a5
      have hi : ints (opsS (opX s) p) = (ints s).take (offO s p) := by
        rw [opsS_ok b1, strL_ints (ops_inB b1 (fun i hi => (b2 i hi).1)), b3]
      have hsz : (opsS (opX s) p).size = offO s p := by
        have := ints_size hi
        rw [this, List.length_take]; omega
      refine oo_t s t (by omega) (by omega) (by omega) (by omega) (by omega) p (w64 (by omega) (by omega)) (by omega) ?_ (fun i hi => (b2 i hi).1) (by rw [if_pos b1]; rfl) (decide_eq_true (by omega)) ?_
      · show (oneX (fromZ s (offO s p))).k = 5
        rw [torn_x a4]
      · have e : opsS (opX s) p = s.extract 0 ((opsS (opX s) p).size : Int).toNat := by
          apply ints_ext
          rw [hi, ints_extract, hsz]; simp
        rw [← e]; exact toList_same _
  refine (fin _ [.string s, .string t] w ⟨rfl, rfl, trivial⟩ (MemOk.empty w)).mono ?_
  rintro e w' ⟨u, rfl, hu, hx⟩
  exact ⟨by rw [show u = .bool true from hu], hx⟩
end Go.Proofs.Ytecgigeahkijaaa

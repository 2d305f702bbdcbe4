/- WireOnly returns true. No condition. -/
import Derived.Test.YtbgagcmdabpbgaaWsS
import Derived.Test.YtbgagcmdabpbgaaEB
namespace Go.Proofs.Ytbgagcmdabpbgaa
set_option linter.unusedVariables false
set_option linter.unusedSimpArgs false
open Go.RowKit E
theorem wonly_walk (s : ByteArray) (a : Option Addr) (len cap : Nat) (w : World) (hz : s.size ≤ maxLen) (r : Reads w (.slice 1 (.int .i64)) (Value.slice a len cap).cells.toList) :
    Calls Try.prog 6 #[.string s, .slice a len cap] w fun e w' => e = .returned (.bool true) ∧ Ext w w' := by
  have he := Env.put_same (env := noEnv) 0 (.slice a len cap)
  obtain ⟨K, hs⟩ := ints_in he r
  have fin : LawOk Try.prog 6 [sA s, .nv (.one (.own 0))] [.ro 1 len (gK K)] (bA true) := by
    by_cases hl : 80000 < s.size
    · exact wo_l s len K hl
    · by_cases hk : 200 < len
      · exact wo_k s len K (by omega) hk
      · by_cases h : errT s K len = 0
        · obtain ⟨h1, h2⟩ := take_only h
          have ha := atN_le h
          have ei : (if errT s K len = 0 then (atN s K len : Int) else 0) = (atN s K len : Int) := if_pos h
          refine wo_m s len K (by omega) (by omega) h (by split <;> omega) (fun i _ => fldT_wf s K i) (by rw [if_pos h]; exact h1) ha ei (by rw [ei]; exact decide_eq_true (by omega)) (by rw [ei]; exact decide_eq_true (by omega)) ?_
          rw [if_pos h]
          have e : putStr (fldT s K) len = s.extract 0 (atN s K len) := by
            unfold putStr; rw [if_pos h1]
            apply ints_ext
            rw [strL_ints (inB_all h1 (fun i _ => fldT_wf s K i)), ints_extract, h2]; simp
          rw [e]; exact toList_same _
        · exact wo_e s len K (by omega) (by omega) h
  refine (fin _ [.string s, .slice a len cap] w ⟨rfl, ⟨he, _, _, _, rfl⟩, trivial⟩ (one_ro hs)).mono ?_
  rintro e w' ⟨u, rfl, hu, hx⟩
  exact ⟨by rw [show u = .bool true from hu], hx⟩
end Go.Proofs.Ytbgagcmdabpbgaa

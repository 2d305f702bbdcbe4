/- WireBack returns true. No condition. -/
import Derived.Test.YtbgagcmdabpbgaaWsQ
import Derived.Test.YtbgagcmdabpbgaaEB
namespace Go.Proofs.Ytbgagcmdabpbgaa
set_option linter.unusedVariables false
set_option linter.unusedSimpArgs false
open Go.RowKit E
theorem wback_walk (a : Option Addr) (len cap : Nat) (b : ByteArray) (c : Int) (w : World) (r : Reads w (.slice 3 (.agg 3 (.cons 0 1 (.int .i64) (.cons 1 1 (.int .u64) (.cons 2 1 .str .nil))))) (Value.slice a len cap).cells.toList) (hz : b.size ≤ maxLen) (hc : (Lit.int .u16 c).wf = true) :
    Calls Try.prog 5 #[.slice a len cap, .string b, .int .u16 c] w fun e w' => e = .returned (.bool true) ∧ Ext w w' := by
  have he := Env.put_same (env := noEnv) 0 (.slice a len cap)
  have hc := wf_bd hc
  have hc0 : 0 ≤ c ∧ c ≤ 65535 := hc
  obtain ⟨L, hw, hs⟩ := fields_in he r
  have hw' : ∀ i, i < len → (L i).wf := fun i hi => (hw i hi).1
  have fin : LawOk Try.prog 5 [.nv (.one (.own 0)), sA b, .nv (.one (.val (.int .u16 c)))] [.ro 3 len (gF L)] (bA true) := by
    cases hf : fewB L len with
    | false => exact wb_1 len L b c (ro_len hs) hf
    | true =>
      have hl : len ≤ 200 := by
        unfold fewB at hf
        simp only [Bool.and_eq_true, decide_eq_true_eq] at hf
        exact hf.2
      by_cases hb : 1000 < b.size
      · exact wb_2 len L b c hl hf hb
      by_cases hbad : badZ L len = 0
      · have hS : putStr L len = strL (putAll L len) := by unfold putStr; rw [if_pos hbad]
        have hin := inB_all hbad hw'
        have hi : ints (strL (putAll L len)) = putAll L len := strL_ints hin
        have hpl := putAll_len hbad
        have := Nat.mul_le_mul_right 65545 hl
        have htp := take_put (L := L) (K := fun j => (L j).k) (s := strL (putAll L len) ++ b) (n := len) (T := ints b) (by rw [ints_app, hi]) hbad hw' (fun _ _ => rfl) len (Nat.le_refl _)
        have hloop : CodeOk Try.prog 1 (.loop (loopOf Try.f5 0)) (mkSt 108 [(0, .nv (.one (.own 0))), (1, sA b), (2, .nv (.one (.val (.int .u16 c)))), (7, sA (strL (putAll L len))), (9, .nv (.one (.own 1))), (36, iA len), (37, iA (0 : Nat))] [.ro 3 len (gF L), .row 3 1 0 (gK (fun j => (L j).k))]) (.exit 0)
            (mkSt 108 [(0, .nv (.one (.own 0))), (1, sA b), (2, .nv (.one (.val (.int .u16 c)))), (7, sA (strL (putAll L len))), (9, .nv (.one (.own 1)))] [.ro 3 len (gF L), .row 3 1 len (gK (fun j => (L j).k))]) := by
          refine loop_ok (α := Nat) (fun i => mkSt 108 [(0, .nv (.one (.own 0))), (1, sA b), (2, .nv (.one (.val (.int .u16 c)))), (7, sA (strL (putAll L len))), (9, .nv (.one (.own 1))), (36, iA len), (37, iA i)] [.ro 3 len (gF L), .row 3 1 i (gK (fun j => (L j).k))]) (fun i => i ≤ len) (fun i => len - i) (by simp) ?_ (x := 0) (Nat.zero_le _)
          intro i hi
          by_cases e : i = len
          · subst e; exact .inr (wb_e i L b _ c)
          · exact .inl ⟨i + 1, (show i + 1 ≤ len by omega), (show len - (i + 1) < len - i by omega), wb_n len i L b _ c (by omega) hl⟩
        by_cases h0 : (strL (putAll L len)).size = 0
        · have hlen0 : len = 0 := by rw [strL_size] at h0; omega
          exact wb_4 len L b _ c hl hf (by omega) hw' hbad hS (by rw [strL_size]; omega) htp.1 (by rw [htp.2.1, strL_size]) (fun i hi => (htp.2.2 i hi).symm) h0 hlen0 hloop
        · have ew : IntKind.wrap IntKind.i64 c = c := w64 rfl (by omega)
          have hsz := strL_size (putAll L len)
          obtain ⟨m, hm⟩ : ∃ m : Nat, c % ((strL (putAll L len)).size : Int) = m := ⟨(c % ((strL (putAll L len)).size : Int)).toNat, by
            have := Int.emod_nonneg c (b := ((strL (putAll L len)).size : Int)) (by omega); omega⟩
          have hmS : m < (strL (putAll L len)).size := by
            have := Int.emod_lt_of_pos c (b := ((strL (putAll L len)).size : Int)) (by omega); omega
          have hcut := take_cut (L := L) (K := fun j => (L j).k) (s := (strL (putAll L len)).extract 0 m) (n := len) (c := m) (by omega) (by rw [ints_extract, hi]; simp) hbad hw' (fun _ _ => rfl)
          exact wb_5 len L b _ c hl hf (by omega) hw' hbad hS (by omega) htp.1 (by rw [htp.2.1, strL_size]) (fun i hi => (htp.2.2 i hi).symm) (by omega) m (by rw [ew, tmod_e hc0.1]; exact hm) hmS hcut hloop
      · have hS : putStr L len = .empty := by unfold putStr; rw [if_neg hbad]
        exact wb_3 len L b c hl hf (by omega) hw' hbad hS
  refine (fin _ [.slice a len cap, .string b, .int .u16 c] w ⟨⟨he, _, _, _, rfl⟩, rfl, rfl, trivial⟩ (one_ro hs)).mono ?_
  rintro e w' ⟨u, rfl, hu, hx⟩
  exact ⟨by rw [show u = .bool true from hu], hx⟩
end Go.Proofs.Ytbgagcmdabpbgaa

/- CreditSends returns true. No condition. -/
import Derived.Test.YtpldacdgifekmaaCsJ
import Derived.Test.YtpldacdgifekmaaCbK
import Derived.Test.YtpldacdgifekmaaEB
namespace Go.Proofs.Ytpldacdgifekmaa
set_option linter.unusedVariables false
set_option linter.unusedSimpArgs false
open Go.RowKit E

theorem outer_loop (i s h m v : Int) (len : Nat) (co er : Nat → Int) (hl : len ≤ 80) (wm : IntKind.wrap IntKind.i64 (h + IntKind.wrap IntKind.i64 (s * IntKind.wrap IntKind.i64 m)) = h + s * m)
    (inner : ∀ j, j < len → CodeOk Try.prog 1 (.loop (loopOf Try.f5 2)) (sendsI m len i s h v co er j j 0 (h + s * m)) (.exit 4) (sendsO m len i s h v co er j)) :
    CodeOk Try.prog 1 (.loop (loopOf Try.f5 1)) (sendsO m len i s h v co er 0) (.exit 2) sendsE := by
  refine loop_ok (α := Nat) (fun j => sendsO m len i s h v co er j) (fun j => j ≤ len) (fun j => len - j) (by simp) ?_ (x := 0) (Nat.zero_le _)
  intro j hj
  by_cases e : j = len
  · subst e
    exact .inr (outer_end i s h v m j co er)
  · have hlt : j < len := by omega
    exact .inl ⟨j + 1, (by omega : j + 1 ≤ len), (by omega : len - (j + 1) < len - j), outer_round i s h v m len j co er hlt hl wm (inner j hlt)⟩

theorem sends_walk (a0 : Array Value) (m : Int) (a2 : Option Addr) (len cap : Nat) (w : World) (r0 : Reads w shU3 (Value.agg a0).cells.toList) (wm : (Lit.int .u16 m).wf = true) (r2 : Reads w (.slice 3 shAct) (Value.slice a2 len cap).cells.toList) :
    Calls Try.prog 5 #[.agg a0, .int .u16 m, .slice a2 len cap] w fun e w' => e = .returned (.bool true) ∧ Ext w w' := by
  obtain ⟨a, b, c, rfl, ha, hb, hc⟩ := u3_args r0
  have hm := wf_u16 wm
  have he := Env.put_same (env := noEnv) 0 (.slice a2 len cap)
  obtain ⟨t, x, wt, bt, bx, hs⟩ := acts_seg he r2
  have hok : okC (a + 1) (b + 1) (c + 1) 0 := by unfold okC V; omega
  have k0 : okB (a + 1) (b + 1) (c + 1) 0 = true := decide_eq_true hok
  have k1 : chkC (a + 1) (b + 1) (c + 1) 0 = 0 := (chk_yes _ _ _ _ hok).symm
  have fin : LawOk Try.prog 5 [.nv (.agg [.val (.int .u16 a), .val (.int .u16 b), .val (.int .u16 c)]), .nv (.one (.val (.int .u16 m))), .nv (.one (.own 0))] [.ro 3 len (actsG t x wt)] (bA true) := by
    by_cases hlen : len ≤ 80
    · have bt' : ∀ k, k < len → 0 ≤ t k := fun k hk => (bt k hk).1
      have bx' : ∀ k, k < len → 0 ≤ x k := fun k hk => (bx k hk).1
      have hp := prod_bd (s := b + 1) (m := m) (by omega) hm
      have wm : IntKind.wrap IntKind.i64 (c + 1 + IntKind.wrap IntKind.i64 ((b + 1) * IntKind.wrap IntKind.i64 m)) = c + 1 + (b + 1) * m := by
        rw [w64 (a := m) (b := m) rfl (by omega), w64 (a := (b + 1) * m) (b := (b + 1) * m) rfl (by omega)]
        exact w64 rfl (by omega)
      exact sends_law a b c m ha hb hc hm len t x wt hlen bt bx k0 k1 (wone ha) (wone hb) (wone hc) _ _ _
        (sends_loop (a + 1) (b + 1) (c + 1) m len t x wt hlen bt bx hm k0)
        (outer_loop _ _ _ m _ len _ _ hlen wm (fun j hj => inner_loop (a + 1) (b + 1) (c + 1) m len t x wt _ hlen bt' bx' hm k0 j hj))
    · exact sends_long a b c m len _ (by omega) k0 k1 (wone ha) (wone hb) (wone hc)
  refine (fin _ [.agg #[.int .u16 a, .int .u16 b, .int .u16 c], .int .u16 m, .slice a2 len cap] w ⟨⟨_, rfl, rfl, rfl, rfl, trivial⟩, rfl, ⟨he, _, _, _, rfl⟩, trivial⟩ (one_ro hs)).mono ?_
  rintro e w' ⟨u, rfl, hu, hx⟩
  exact ⟨by rw [show u = .bool true from hu], hx⟩
end Go.Proofs.Ytpldacdgifekmaa

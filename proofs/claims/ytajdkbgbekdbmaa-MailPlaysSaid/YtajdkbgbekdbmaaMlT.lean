/- MailPlays: the walk. No condition. -/
import Derived.Test.YtajdkbgbekdbmaaMlS
import Derived.Test.YtajdkbgbekdbmaaEB
namespace Go.Proofs.Ytajdkbgbekdbmaa
set_option linter.unusedVariables false
set_option linter.unusedSimpArgs false
open Go.RowKit E
theorem nlen (a b : Nat) (h : a = b) : (((a : Nat) : Int) != ((b : Nat) : Int)) = false := by subst h; exact bne_self_eq_false _
theorem lT_tail {x : Int} {L : List Int} (j : Nat) : lT (x :: L) (j + 1) = lT L j := rfl
theorem lT_drop {L : List Int} (k j : Nat) : lT L (j + k) = lT (L.drop k) j := by
  simp [lT, List.getD_eq_getElem?_getD, Nat.add_comm]
theorem lT_takeL {L : List Int} {k j : Nat} (h : j < k) : lT (L.take k) j = lT L j := by
  simp only [lT, List.getD_eq_getElem?_getD, List.getElem?_take]
  rw [if_pos h]
theorem mplays_round (m : Int) (len i : Nat) (A : Ac35) (sh : Bool) (L : List Int) (h1 : 1 ≤ m) (h2 : m ≤ 4096) (hi : i < len) (hl : len ≤ 200) (hL : L.length ≤ i) (hk : 0 ≤ A.ki i) :
    ∃ sh' L', L'.length ≤ i + 1 ∧ CodeOk Try.prog 1 (loopOf Try.f4 0) (mkSt 136 [(5, .nv (.one (.ptr 1 0))), (8, .nv (.one (.ptr 3 0))), (51, .nv (.one (.own 0))), (52, iA len), (53, iA i)] [.ro 2 len (gA35 A), .box 56 [.chn 2, .val (.bool sh)], .chan m.toNat (L.map vI) sh, .box 38 [.val (.int .i64 m), .val (.bool sh), .own 4], .row 3 1 L.length (gN (lT L))]) .normal (mkSt 136 [(5, .nv (.one (.ptr 1 0))), (8, .nv (.one (.ptr 3 0))), (51, .nv (.one (.own 0))), (52, iA len), (53, iA (i + 1 : Nat))] [.ro 2 len (gA35 A), .box 56 [.chn 2, .val (.bool sh')], .chan m.toNat (L'.map vI) sh', .box 38 [.val (.int .i64 m), .val (.bool sh'), .own 4], .row 3 1 L'.length (gN (lT L'))]) := by
  have ek : Int.tmod (A.ki i) 8 = A.ki i % 8 := Int.tmod_eq_emod_of_nonneg hk
  have take : ∀ v : Int, (v = 4 ∨ v = 5) → Int.tmod (A.ki i) 8 = v → ∃ sh' L', L'.length ≤ i + 1 ∧ CodeOk Try.prog 1 (loopOf Try.f4 0) (mkSt 136 [(5, .nv (.one (.ptr 1 0))), (8, .nv (.one (.ptr 3 0))), (51, .nv (.one (.own 0))), (52, iA len), (53, iA i)] [.ro 2 len (gA35 A), .box 56 [.chn 2, .val (.bool sh)], .chan m.toNat (L.map vI) sh, .box 38 [.val (.int .i64 m), .val (.bool sh), .own 4], .row 3 1 L.length (gN (lT L))]) .normal (mkSt 136 [(5, .nv (.one (.ptr 1 0))), (8, .nv (.one (.ptr 3 0))), (51, .nv (.one (.own 0))), (52, iA len), (53, iA (i + 1 : Nat))] [.ro 2 len (gA35 A), .box 56 [.chn 2, .val (.bool sh')], .chan m.toNat (L'.map vI) sh', .box 38 [.val (.int .i64 m), .val (.bool sh'), .own 4], .row 3 1 L'.length (gN (lT L'))]) := by
    intro v hv kv
    cases L with
    | nil =>
      refine ⟨sh, [], by simp, ?_⟩
      have hT : ∀ j, j < ([] : List Int).length - 1 → rtT ([] : List Int).length (lT []) j = lT [] j := fun j hj => by simp at hj
      rcases hv with rfl | rfl
      · exact mp_tn4 m m.toNat len i A sh hi hl 0 (lT []) (by omega) [] 0 (lT []) kv (bne_self_eq_false _) (bne_self_eq_false _) (nlen _ _ rfl) rfl rfl hT
      · exact mp_tn5 m m.toNat len i A sh hi hl 0 (lT []) (by omega) [] 0 (lT []) kv (bne_self_eq_false _) (bne_self_eq_false _) (nlen _ _ rfl) rfl rfl hT
    | cons x l =>
      have hl2 : l.length + 1 ≤ i := hL
      refine ⟨sh, l, by omega, ?_⟩
      have e0 : (x != rtX (l.length + 1) (lT (x :: l))) = false := by unfold rtX; rw [if_neg (by omega)]; exact bne_self_eq_false _
      have e3 : (true != rtI (l.length + 1)) = false := by unfold rtI; rw [decide_eq_true (by omega)]; rfl
      have hT : ∀ j, j < l.length + 1 - 1 → rtT (l.length + 1) (lT (x :: l)) j = lT l j := fun j _ => by unfold rtT; rw [if_neg (by omega)]; rfl
      rcases hv with rfl | rfl
      · exact mp_ty4 m m.toNat len i A sh hi hl (l.length + 1) (lT (x :: l)) (by omega) x (l.map vI) (l.map vI) l.length (lT l) kv e0 e3 (nlen _ _ (by simp)) rfl rfl hT
      · exact mp_ty5 m m.toNat len i A sh hi hl (l.length + 1) (lT (x :: l)) (by omega) x (l.map vI) (l.map vI) l.length (lT l) kv e0 e3 (nlen _ _ (by simp)) rfl rfl hT
  by_cases n4 : Int.tmod (A.ki i) 8 = 4
  · exact take 4 (.inl rfl) n4
  by_cases n5 : Int.tmod (A.ki i) 8 = 5
  · exact take 5 (.inr rfl) n5
  by_cases n6 : Int.tmod (A.ki i) 8 = 6
  · have eu : unL (L.map vI) = L := unL_map L
    have hkb : smK (A.n i) L ≤ L.length := Nat.min_le_right _ _
    refine ⟨sh, L.drop (smK (A.n i) L), by simp; omega, ?_⟩
    refine mp_some m m.toNat len i A sh hi hl L.length (lT L) (by omega) (L.map vI) _ _ _ n6 (by rw [eu]; omega) (by rw [eu]) (by rw [eu]; rfl) (by rw [eu]; omega) (by rw [eu]; exact fun j hj => lT_takeL hj) (nlen _ _ (by rw [eu]; simp [smK, smN])) (by rw [eu]) (by simp [smK, smN]) ?_
    intro j hj
    show lT L (j + smN (A.n i) L.length) = _
    exact lT_drop _ _
  by_cases n7 : Int.tmod (A.ki i) 8 = 7
  · by_cases hx : A.n i ≥ 0
    · exact ⟨sh, L, by omega, mp_sk m m.toNat len i A sh hi hl L.length (lT L) (by omega) (L.map vI) n7 hx⟩
    · exact ⟨true, L, by omega, mp_sh m m.toNat len i A sh hi hl L.length (lT L) (by omega) (L.map vI) n7 hx (nlen _ _ (by simp))⟩
  have er : sndR sh m.toNat (L.map vI) = rsB m sh L.length := by
    unfold sndR rsB
    rw [List.length_map]
    congr 1
    exact decide_eq_decide.2 (by omega)
  have e0 : (sndR sh m.toNat (L.map vI) != rsB m sh L.length) = false := by rw [er]; exact bne_self_eq_false _
  cases hr : rsB m sh L.length
  · have eb : sndB sh m.toNat (L.map vI) (.int .i64 (A.n i)) = L.map vI := by unfold sndB; rw [er, hr]; rfl
    have en : rsN m sh L.length = L.length := by unfold rsN; rw [hr]; rfl
    refine ⟨sh, L, by omega, mp_send m m.toNat len i A sh hi hl L.length (lT L) (by omega) (L.map vI) _ _ _ n4 n5 n6 n7 e0 (nlen _ _ (by rw [eb, en]; simp)) eb en ?_⟩
    intro j hj
    unfold rsT; rw [hr]; rfl
  · have eb : sndB sh m.toNat (L.map vI) (.int .i64 (A.n i)) = (L ++ [A.n i]).map vI := by unfold sndB; rw [er, hr, if_pos rfl]; simp [snocV]
    have en : rsN m sh L.length = (L ++ [A.n i]).length := by unfold rsN; rw [hr, if_pos rfl]; simp
    refine ⟨sh, L ++ [A.n i], by simp; omega, mp_send m m.toNat len i A sh hi hl L.length (lT L) (by omega) (L.map vI) _ _ _ n4 n5 n6 n7 e0 (nlen _ _ (by rw [eb, en]; simp)) eb en ?_⟩
    intro j hj
    unfold rsT; rw [hr, if_pos rfl]
    rw [en] at hj
    obtain ⟨t1, t2⟩ := lT_app (L := L) (x := A.n i)
    show (if j = L.length then A.n i else lT L j) = lT (L ++ [A.n i]) j
    split
    · rename_i e; rw [e, t1]
    · exact t2 j (by simp at hj; omega)
theorem mplays35_law (m : Int) (len : Nat) (A : Ac35) (hA : ∀ i, i < len → 0 ≤ A.ki i) : LawOk Try.prog 4 [iA m, .nv (.one (.own 0))] [.ro 2 len (gA35 A)] (bA true) := by
  by_cases h : 1 ≤ m ∧ m ≤ 4096
  case neg => exact mp_x m len A (by omega) h
  obtain ⟨h1, h2⟩ := h
  by_cases hl : 200 < len
  · exact mp_l m len A h1 h2 hl
  have hl : len ≤ 200 := by omega
  refine mp_f m len A h1 h2 hl ?_
  refine loop_ok (α := Nat × Bool × List Int) (fun p => mkSt 136 [(5, .nv (.one (.ptr 1 0))), (8, .nv (.one (.ptr 3 0))), (51, .nv (.one (.own 0))), (52, iA len), (53, iA p.1)] [.ro 2 len (gA35 A), .box 56 [.chn 2, .val (.bool p.2.1)], .chan m.toNat (p.2.2.map vI) p.2.1, .box 38 [.val (.int .i64 m), .val (.bool p.2.1), .own 4], .row 3 1 p.2.2.length (gN (lT p.2.2))]) (fun p => p.1 ≤ len ∧ p.2.2.length ≤ p.1) (fun p => len - p.1) (ex := .exit 0) (post := mkSt 136 [] [.ro 2 len (gA35 A)]) (by simp) ?_ (x := (0, false, [])) ⟨Nat.zero_le _, Nat.zero_le _⟩
  rintro ⟨i, sh, L⟩ ⟨hi, hL⟩
  simp only at hi hL
  by_cases hi' : i < len
  · obtain ⟨sh', L', hL', hc⟩ := mplays_round m len i A sh L h1 h2 hi' hl hL (hA i hi')
    exact .inl ⟨(i + 1, sh', L'), ⟨by simp only; omega, hL'⟩, by simp only; omega, hc⟩
  · have e : i = len := by omega
    subst e
    exact .inr (mp_e m m.toNat i A sh hl L.length (lT L) (L.map vI))
abbrev psA35 : Shs := .cons 0 1 (.int .u8) (.cons 1 1 (.int .i64) .nil)
def acEs35 (es : Nat → List Value) : Ac35 := ⟨fun k => cI (es k) 0, fun k => cI (es k) 1⟩
theorem mplays35_walk (m : Int) (a2 : Option Addr) (len cap2 : Nat) (w : World) (wk : (Lit.int .i64 m).wf = true) (r2 : Reads w (.slice 2 (.agg 2 psA35)) (Value.slice a2 len cap2).cells.toList) :
    Calls Try.prog 4 #[.int .i64 m, .slice a2 len cap2] w fun e w' => e = .returned (.bool true) ∧ Ext w w' := by
  have he := Env.put_same (env := noEnv) 0 (.slice a2 len cap2)
  obtain ⟨fs, b2, s2⟩ := rows_seg (h := 0) (n := 2) (ps := psA35) he rfl rfl r2
  refine (mplays35_law m len (acEs35 fs) (fun i hi => (b2 i hi).1.1) _ [.int .i64 m, .slice a2 len cap2] w ⟨rfl, ⟨he, _, _, _, rfl⟩, trivial⟩ (one_ro s2)).mono ?_
  rintro e w' ⟨u, rfl, hu, hx⟩
  exact ⟨by rw [show u = .bool true from hu], hx⟩
end Go.Proofs.Ytajdkbgbekdbmaa

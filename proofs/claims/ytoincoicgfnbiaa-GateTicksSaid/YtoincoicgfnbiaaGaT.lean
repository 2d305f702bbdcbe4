/- gate: Next. No condition. -/
import Derived.Test.YtoincoicgfnbiaaGaR
import Derived.Test.YtoincoicgfnbiaaGaS
namespace Go.Proofs.Ytoincoicgfnbiaa
set_option linter.unusedVariables false
set_option linter.unusedSimpArgs false
open Go.RowKit E
/-- What Next keeps: the time, where the open run began, how long it is. -/
structure Nx where
  now : Int
  fr : Int
  op : Int
def Nx.frm (z : Nx) : Int := if z.op = 0 then z.now else z.fr
def Nx.sum (z : Nx) (s : Int) : Int := IntKind.wrap .u64 (z.op + s)
def Nx.hit (q : Int) (z : Nx) (x : Bool × Int) : Bool := x.1 && decide (z.sum x.2 ≥ q)
def Nx.step (z : Nx) (x : Bool × Int) : Nx := if x.1 = true then ⟨IntKind.wrap .u64 (z.now + x.2), z.frm, z.sum x.2⟩ else ⟨IntKind.wrap .u64 (z.now + x.2), z.fr, 0⟩
def nxS (t : Int) (l : List (Bool × Int)) : Nx := l.foldl Nx.step ⟨t, t, 0⟩
theorem nxS_snoc (t : Int) (l : List (Bool × Int)) (x : Bool × Int) : nxS t (l ++ [x]) = (nxS t l).step x := by simp [nxS]
/-- No part has been long enough. -/
def nxG (t q : Int) (l : List (Bool × Int)) : Prop := ∀ pre x, (pre ++ [x]) <+: l → Nx.hit q (nxS t pre) x = false
theorem nxG_nil (t q : Int) : nxG t q [] := fun pre x h => by have := h.length_le; simp at this
theorem nxG_snoc {t q : Int} {l : List (Bool × Int)} {x : Bool × Int} (h : nxG t q l) (hx : Nx.hit q (nxS t l) x = false) : nxG t q (l ++ [x]) := by
  intro pre y hp
  by_cases e : (pre ++ [y]).length = (l ++ [x]).length
  · have := hp.eq_of_length e
    have := List.append_inj' this rfl
    obtain ⟨rfl, h2⟩ := this
    simp at h2
    rw [h2]; exact hx
  · refine h pre y ?_
    have h1 := hp.length_le
    simp at h1 e
    exact List.prefix_of_prefix_length_le hp (List.prefix_append l [x]) (by simp; omega)
/-- Where the first slot is that makes the open run long enough. -/
def nxK (n : Nat) (c t q : Int) (O S : Nat → Int) : Nat := stF (fun k => !Nx.hit q (nxS t (gPre n c t O S k)) (gX n c t O S k)) (2 * n + 1) 0
def nxF (n : Nat) (c t q : Int) (O S : Nat → Int) : Int := (nxS t (gPre n c t O S (nxK n c t q O S))).frm
def pnB (n : Nat) (c t q : Int) (O S : Nat → Int) : Bool := decide (nxK n c t q O S < 2 * n + 1 ∧ nxF n c t q O S ≤ 9223372036854775808)
def pnV (n : Nat) (c t q : Int) (O S : Nat → Int) : Int := if pnB n c t q O S = true then nxF n c t q O S else 0
theorem nxG_pre {n : Nat} {c t q : Int} {O S : Nat → Int} {k : Nat} (h : nxG t q (gPre n c t O S k)) : ∀ i, i < k → Nx.hit q (nxS t (gPre n c t O S i)) (gX n c t O S i) = false := by
  intro i hi
  refine h _ _ ?_
  rw [← gPre_succ]
  obtain ⟨d, rfl⟩ : ∃ d, k = i + 1 + d := ⟨k - (i + 1), by omega⟩
  unfold gPre
  rw [show List.range (i + 1 + d) = List.range (i + 1) ++ (List.range d).map (fun x => i + 1 + x) from List.range_add .., List.map_append]
  exact List.prefix_append _ _
set_option maxRecDepth 100000 in
set_option maxHeartbeats 2000000 in
theorem nx_long (n : Nat) (c t d : Int) (O S : Nat → Int) (hm : gmB n S c = true) (ha : alwB O c n = false) (ht : 0 ≤ t) (ht2 : ¬ t > 9223372036854775808) (q : Int) (hq : max d 1 = q) : FnOk Try.prog 10 [.nv (.one (.own 0)), iA c, .nv (.one (.val (.int .u64 (t)))), .nv (.one (.val (.int .u64 (d))))] [.ro 2 n (gSl O S)] (.tup [.one (.val (.int .u64 (pnV n c t q O S))), .one (.val (.bool (pnB n c t q O S)))]) [.gone] := by
  have hm' := hm
  unfold gmB at hm'
  rw [Bool.and_eq_true, decide_eq_true_eq] at hm'
  obtain ⟨hok, hc, hc7⟩ := hm'
  have hn := (okN_iff.1 hok).1
  have hq1 : 1 ≤ q := by omega
  intro env w0 w St vals hv hmem
  refine (callsIn_wide (n := 3)).1 ?_
  refine callsIn_of_wp_marks (F := Fw none) (n := 3) Try.func10 (c := .seq (subC [false] (bodyOf Try.f10)) (.seq (subC [true, false] (bodyOf Try.f10)) (.seq (subC [true, true, false] (bodyOf Try.f10)) (.seq (subC [true, true, true, false] (bodyOf Try.f10)) (.seq (subC [true, true, true, true, false] (bodyOf Try.f10)) (.seq (.seq (subC [true, true, true, true, true, false, false] (bodyOf Try.f10)) (.block 0 (.rangeFunc (.tmp 33) #[34] (subC [true, true, true, true, true, false, true, true, false] (bodyOf Try.f10)) (subC [true, true, true, true, true, false, true, true, true] (bodyOf Try.f10))))) (subC [true, true, true, true, true, true] (bodyOf Try.f10))))))))
    (by kernel_rfl) trivial ?_
  have hk0 := ok_start (fn := Try.f10) (tm := (mkSt 62 [(0, .nv (.one (.own 0))), (1, iA c), (2, .nv (.one (.val (.int .u64 t)))), (3, .nv (.one (.val (.int .u64 d))))] []).tm) hv hmem (by kernel_rfl)
  refine pre_ok (nx_0 n c t d O S) hk0 fun env1 a1 w1 k1 => ?_
  refine pre_ok (nx_1 n c t d O S hm ht2) k1 fun env2 a2 w2 k2 => ?_
  refine pre_ok (nx_2 n c t d O S (by omega) hc ha) k2 fun env3 a3 w3 k3 => ?_
  refine pre_ok (nx_3 n c t d O S q hq) k3 fun env4 a4 w4 k4 => ?_
  refine pre_ok (nx_4 n c t O S q) k4 fun env5 a5 w5 k5 => ?_
  refine wpIn_seq (pre_ok (nx_5 n c t O S q) k5 fun env6 a6 w6 k6 => ?_)
  let MM : Int → Bool → Nx → List Seg := fun r8 r9 z => [.ro 2 n (gSl O S), .box 23 [.val (.int .u64 q)], .box 23 [.val (.int .u64 r8)], .box 4 [.val (.bool r9)], .box 23 [.val (.int .u64 z.now)], .box 23 [.val (.int .u64 z.fr)], .box 23 [.val (.int .u64 z.op)], .robox 22 [.own 0], .robox 3 [.val (.int .i64 c)], .robox 23 [.val (.int .u64 t)]]
  let M : List (Bool × Int) → List Seg := fun l => MM 0 false (nxS t l)
  have hmem6 : MemOk env6 (M []) w0 w6 St := k6.mem
  obtain ⟨ao, cap, cs0, v0, _⟩ := hmem6.ok 0 _ rfl
  obtain ⟨b1, cs1, v1, _⟩ := hmem6.ok 7 _ rfl
  obtain ⟨b2, cs2, v2, _⟩ := hmem6.ok 8 _ rfl
  obtain ⟨b3, cs3, v3, _⟩ := hmem6.ok 9 _ rfl
  have hIt : ∀ l W, MemOk env6 (M l) w0 W St → ItOk (gItEnv (.slice ao n cap) b1 b2 b3) (gItMem n c t O S) W := fun l W hW => gItOk (hW.ok 0 _ rfl) v0 (hW.ok 7 _ rfl) v1 (hW.ok 8 _ rfl) v2 (hW.ok 9 _ rfl) v3
  have hg : a6.eval (.tmp 33) = .func (.func 25) #[] #[.pointer (some ⟨b1, 0, none⟩), .pointer (some ⟨b3, 0, none⟩), .pointer (some ⟨b2, 0, none⟩)] := by
    obtain ⟨cs, e1, e2⟩ := get_rel k6.tm (.tmp 33)
    rw [e1]
    have : cs.toList = [.pointer (some ⟨b1, 0, none⟩), .pointer (some ⟨b3, 0, none⟩), .pointer (some ⟨b2, 0, none⟩)] := by
      generalize cs.toList = l at e2
      match l, e2 with
      | [x, y, z], ⟨⟨u1, d1, p1, p2, p3⟩, ⟨u2, d2, q1, q2, q3⟩, ⟨u3, d3, r1, r2, r3⟩, _⟩ =>
        rw [v1] at p1; rw [v3] at q1; rw [v2] at r1
        cases p1; cases q1; cases r1
        cases p2; cases q2; cases r2
        rw [p3, q3, r3]; rfl
    rw [← Array.toArray_toList (xs := cs), this]
  have hlt : ∀ r8 r9 z s, s ∈ MM r8 r9 z → s.lt (MM r8 r9 z).length := by
    intro r8 r9 z s hs
    simp only [MM, List.mem_cons, List.not_mem_nil, or_false] at hs
    rcases hs with rfl | rfl | rfl | rfl | rfl | rfl | rfl | rfl | rfl | rfl
    · exact fun i hi => rfl
    all_goals rfl
  refine wpIn_block (rf_wp k6 (by omega) hg (enters_all Try.func25 (by kernel_rfl) rfl) (enc := gEnc) (xs := fun x => .nv (.agg [.val (.bool x.1), .val (.int .u64 x.2)])) (fun x e => ⟨#[.bool x.1, .int .u64 x.2], rfl, rfl, rfl, trivial⟩)
    (stretch_seq hok ht hc (.slice ao n cap) b1 b2 b3 w6 _ (hIt [] w6 hmem6)) (fun h k => k ∘ h) (fun W l o o' _ hl ho _ h => gItOk_put (by omega) h hl ho) M rfl (fun _ => rfl) (fun _ => rfl) (fun l => hlt 0 false (nxS t l)) ?_
    (nxG t q) (nxG_nil t q) (fun W W' l h _ => hIt l W' h) (T := 50) (cB := fun x => [.bool x.1, .int .u64 x.2]) (tB := fun x => (mkSt 62 [(7, .nv (.one (.ptr 1 0))), (8, .nv (.one (.ptr 2 0))), (9, .nv (.one (.ptr 3 0))), (10, .nv (.one (.ptr 4 0))), (11, .nv (.one (.ptr 5 0))), (12, .nv (.one (.ptr 6 0))), (13, .nv (.one (.ptr 10 0)))] []).tm)
    (fun pre x => nx_6 n c t O S q (nxS t pre).now (nxS t pre).fr (nxS t pre).op x.2 x.1)
    (fun e l m' => ∃ pre x, l = pre ++ [x] ∧ nxG t q pre ∧ Nx.hit q (nxS t pre) x = true ∧ (¬ (nxS t pre).frm > 9223372036854775808 ∧ e = .ret ∧ m' = MM (nxS t pre).frm true ⟨(nxS t pre).now, (nxS t pre).frm, (nxS t pre).sum x.2⟩ ∨
      (nxS t pre).frm > 9223372036854775808 ∧ e = .exit 0 ∧ m' = MM 0 false ⟨(nxS t pre).now, (nxS t pre).frm, (nxS t pre).sum x.2⟩)) ?_ (tE := (mkSt 62 [] []).tm) ?_ ?_ ?_)
  · intro j s hj
    match j, hj with
    | 0, hj => cases hj; show 0 < n * 2; omega
    | 1, hj => cases hj; trivial
    | 2, hj => cases hj; trivial
    | 3, hj => cases hj; trivial
    | 4, hj => cases hj; trivial
    | 5, hj => cases hj; trivial
    | 6, hj => cases hj; trivial
    | 7, hj => cases hj; trivial
    | 8, hj => cases hj; trivial
    | 9, hj => cases hj; trivial
  · rintro e l m' ⟨pre, x, _, _, _, ⟨_, _, rfl⟩ | ⟨_, _, rfl⟩⟩
    · exact ⟨rfl, rfl, hlt _ _ _⟩
    · exact ⟨rfl, rfl, hlt _ _ _⟩
  · intro pre x hlen hG
    obtain ⟨xo, xs⟩ := x
    have hst := nxS_snoc t pre (xo, xs)
    cases xo with
    | false =>
      refine .inl ⟨nxG_snoc hG rfl, ?_⟩
      have := nx_s n c t O S q (nxS t pre).now (nxS t pre).fr (nxS t pre).op xs _ hq1 rfl
      show CodeOkL Try.prog 10 _ _ _ ⟨_, MM 0 false (nxS t (pre ++ [(false, xs)]))⟩
      rw [hst]
      exact this
    | true =>
      by_cases ho : (nxS t pre).op = 0
      · have hf : (nxS t pre).frm = (nxS t pre).now := if_pos ho
        by_cases hg : (nxS t pre).sum xs ≥ q
        · have hh : Nx.hit q (nxS t pre) (true, xs) = true := by simp only [Nx.hit, Bool.true_and]; exact decide_eq_true hg
          by_cases hl : (nxS t pre).now > 9223372036854775808
          · refine .inr ⟨.exit 0, _, by simp, ⟨pre, _, rfl, hG, hh, .inr ⟨by rw [hf]; exact hl, rfl, rfl⟩⟩, ?_⟩
            rw [hf]
            exact nx_zl n c t O S q (nxS t pre).now (nxS t pre).fr (nxS t pre).op xs 0 _ ho rfl hg hl
          · refine .inr ⟨.ret, _, by simp, ⟨pre, _, rfl, hG, hh, .inl ⟨by rw [hf]; exact hl, rfl, rfl⟩⟩, ?_⟩
            rw [hf]
            exact nx_zr n c t O S q (nxS t pre).now (nxS t pre).fr (nxS t pre).op xs 0 _ ho rfl hg hl
        · have hh : Nx.hit q (nxS t pre) (true, xs) = false := by simp only [Nx.hit, Bool.true_and]; exact decide_eq_false hg
          refine .inl ⟨nxG_snoc hG hh, ?_⟩
          have := nx_zn n c t O S q (nxS t pre).now (nxS t pre).fr (nxS t pre).op xs _ _ ho rfl rfl hg
          show CodeOkL Try.prog 10 _ _ _ ⟨_, MM 0 false (nxS t (pre ++ [(true, xs)]))⟩
          rw [hst]
          show CodeOkL Try.prog 10 _ _ _ ⟨_, MM 0 false ⟨_, (nxS t pre).frm, _⟩⟩
          rw [hf]
          exact this
      · have hf : (nxS t pre).frm = (nxS t pre).fr := if_neg ho
        by_cases hg : (nxS t pre).sum xs ≥ q
        · have hh : Nx.hit q (nxS t pre) (true, xs) = true := by simp only [Nx.hit, Bool.true_and]; exact decide_eq_true hg
          by_cases hl : (nxS t pre).fr > 9223372036854775808
          · refine .inr ⟨.exit 0, _, by simp, ⟨pre, _, rfl, hG, hh, .inr ⟨by rw [hf]; exact hl, rfl, rfl⟩⟩, ?_⟩
            rw [hf]
            exact nx_ol n c t O S q (nxS t pre).now (nxS t pre).fr (nxS t pre).op xs 0 _ ho rfl hg hl
          · refine .inr ⟨.ret, _, by simp, ⟨pre, _, rfl, hG, hh, .inl ⟨by rw [hf]; exact hl, rfl, rfl⟩⟩, ?_⟩
            rw [hf]
            exact nx_or n c t O S q (nxS t pre).now (nxS t pre).fr (nxS t pre).op xs 0 _ ho rfl hg hl
        · have hh : Nx.hit q (nxS t pre) (true, xs) = false := by simp only [Nx.hit, Bool.true_and]; exact decide_eq_false hg
          refine .inl ⟨nxG_snoc hG hh, ?_⟩
          have := nx_on n c t O S q (nxS t pre).now (nxS t pre).fr (nxS t pre).op xs _ _ ho rfl rfl hg
          show CodeOkL Try.prog 10 _ _ _ ⟨_, MM 0 false (nxS t (pre ++ [(true, xs)]))⟩
          rw [hst]
          show CodeOkL Try.prog 10 _ _ _ ⟨_, MM 0 false ⟨_, (nxS t pre).frm, _⟩⟩
          rw [hf]
          exact this
  · rintro D xs W hD rfl hG hkW hDW
    show ((subC [true, true, true, true, true, true] (bodyOf Try.f10))).wpIn (Fw none) 3 Try.prog _ _ W
    have hKn : nxK n c t q O S = 2 * n + 1 := by
      have := stF_all (p := fun k => !Nx.hit q (nxS t (gPre n c t O S k)) (gX n c t O S k)) (2 * n + 1) 0 (fun k _ hk => by
        have := nxG_pre hG k (by omega)
        simp only [this]; rfl)
      rw [Nat.zero_add] at this
      exact this
    have hB : pnB n c t q O S = false := by unfold pnB; exact decide_eq_false (fun h => by omega)
    have hV : pnV n c t q O S = 0 := by unfold pnV; rw [hB]; rfl
    refine wpIn_mono (tail_ok (D := D) (nx_9 n c t O S q _ _ _) hkW rfl hDW) ?_
    rintro e a7 w7 ⟨hd7, rfl, hD7, env7, k7⟩
    rw [hB, hV]
    exact rf_end2 (fn := Try.f10) (r1 := .tup [.one (.val (.int .u64 0)), .one (.val (.bool false))]) (r := .tup [.one (.val (.int .u64 0)), .one (.val (.bool false))]) (o := []) (mem' := [.gone]) (by kernel_rfl) trivial hmem.top rfl k7 hD7 (Nat.le_trans hmem6.grow hD) (by rw [hd7, k6.defers]) ⟨rfl, rfl, trivial⟩ (Nat.le_refl _)
  · rintro D e pre m' W hD ⟨k, hk, rfl⟩ ⟨l, x, hl, hG, hh, hX⟩ hkW hDW
    have hl' : l = gPre n c t O S k ∧ x = gX n c t O S k := by
      rw [gPre_succ] at hl
      have := List.append_inj' hl rfl
      exact ⟨this.1.symm, by simpa using this.2.symm⟩
    obtain ⟨rfl, rfl⟩ := hl'
    have hKn : nxK n c t q O S = k := by
      unfold nxK
      refine stF_find _ 0 k (Nat.zero_le _) (by omega) (by rw [hh]; rfl) (fun i _ hi => ?_)
      have := nxG_pre hG i hi
      simp only [this]; rfl
    have hFk : nxF n c t q O S = (nxS t (gPre n c t O S k)).frm := by unfold nxF; rw [hKn]
    rcases hX with ⟨hl, rfl, rfl⟩ | ⟨hl, rfl, rfl⟩
    · have hB : pnB n c t q O S = true := by unfold pnB; rw [hFk, hKn]; exact decide_eq_true ⟨hk, by omega⟩
      have hV : pnV n c t q O S = (nxS t (gPre n c t O S k)).frm := by unfold pnV; rw [if_pos hB, hFk]
      rw [hB, hV]
      have hkW' : ∀ tm', Ok ⟨w0, St, 1, env⟩ env6 ⟨tm', MM (nxS t (gPre n c t O S k)).frm true ⟨(nxS t (gPre n c t O S k)).now, (nxS t (gPre n c t O S k)).frm, (nxS t (gPre n c t O S k)).sum (gX n c t O S k).2⟩⟩ a6 W → Ok ⟨w0, St, 1, env⟩ env6 ⟨tm', MM (nxS t (gPre n c t O S k)).frm true ⟨(nxS t (gPre n c t O S k)).now, (nxS t (gPre n c t O S k)).frm, (nxS t (gPre n c t O S k)).sum (gX n c t O S k).2⟩⟩ ({ a6 with defers := [] } : Act) W := fun tm' h => by rw [with_self k6.defers]; exact h
      exact rf_end2 (fn := Try.f10) (r1 := .tup [.one (.val (.int .u64 (nxS t (gPre n c t O S k)).frm)), .one (.val (.bool true))]) (r := .tup [.one (.val (.int .u64 (nxS t (gPre n c t O S k)).frm)), .one (.val (.bool true))]) (o := []) (mem' := [.gone]) (a := { a6 with defers := { target := .collected D, args := #[] } :: a6.defers }) (by kernel_rfl) trivial hmem.top rfl (hkW' _ hkW) hDW (Nat.le_trans hmem6.grow hD) (by rw [k6.defers]) ⟨rfl, rfl, trivial⟩ (Nat.le_refl _)
    · have hB : pnB n c t q O S = false := by unfold pnB; rw [hFk]; exact decide_eq_false (fun h => by omega)
      have hV : pnV n c t q O S = 0 := by unfold pnV; rw [hB]; rfl
      show ((subC [true, true, true, true, true, true] (bodyOf Try.f10))).wpIn (Fw none) 3 Try.prog _ _ W
      refine wpIn_mono (tail_ok (D := D) (nx_9 n c t O S q _ _ _) hkW rfl hDW) ?_
      rintro e a7 w7 ⟨hd7, rfl, hD7, env7, k7⟩
      rw [hB, hV]
      exact rf_end2 (fn := Try.f10) (r1 := .tup [.one (.val (.int .u64 0)), .one (.val (.bool false))]) (r := .tup [.one (.val (.int .u64 0)), .one (.val (.bool false))]) (o := []) (mem' := [.gone]) (by kernel_rfl) trivial hmem.top rfl k7 hD7 (Nat.le_trans hmem6.grow hD) (by rw [hd7, k6.defers]) ⟨rfl, rfl, trivial⟩ (Nat.le_refl _)
end Go.Proofs.Ytoincoicgfnbiaa

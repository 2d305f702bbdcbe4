/- RankPlays: the walk. No condition. -/
import Derived.Test.YtkgkelfdmkginaaRoC
import Derived.Test.YtkgkelfdmkginaaRnN
namespace Go.Proofs.Ytkgkelfdmkginaa
set_option linter.unusedVariables false
set_option linter.unusedSimpArgs false
open Go.RowKit E
/-- The tags of each act, as they lay in the world from the beginning. -/
def nestOk (w0 : World) (len : Nat) (A : Ac) : Prop := ∀ i, i < len → ∃ U : Nat → Int, (∀ j, j < A.tl i → u64B (U j)) ∧ ∀ (h : Nat) (env : Env), env h = some (.slice (A.ta i) (A.tl i) (A.tc i)) → SegOk env w0 h (.ro 1 (A.tl i) (gU64 U))
theorem rp_round (w0 : World) (k now v : Int) (n len i : Nat) (F : Fl) (A : Ac) (T U : Nat → Int) (nw v' : Int) (T' : Nat → Int) (hi : i < len) (hl : len ≤ 200)
    (hU : ∀ (h : Nat) (env : Env), env h = some (.slice (A.ta i) (A.tl i) (A.tc i)) → SegOk env w0 h (.ro 1 (A.tl i) (gU64 U)))
    (h4 : CodeOk Try.prog 2 (seqR (blkC (seqL (seqR (seqR (loopOf Try.f5 0)))))) (mkSt 139 [(7, .nv (.one (.ptr 2 0))), (10, .nv (.one (.ptr 5 0))), (11, uA now), (52, .nv (.one (.own 1))), (53, iA len), (54, iA i), (13, .nv (.one (.ptr 7 0)))] [.ro 5 n (gFl F), .ro 5 len (gAc A), .box 60 [.val (.int .i64 k), .own 3, .own 4, .val (.int .u64 v)], .row 56 5 n (gFl F), .row 31 1 n (gU64 T), .box 50 [.val (.int .i64 k), .own 0, .own 6, .val (.int .u64 v)], .row 31 1 n (gU64 T), .box 34 [.val (.int .u8 (A.kd i)), .val (.int .u32 (A.id i)), .val (.int .u64 (A.sz i)), .val (.int .u32 (A.la i)), .own 8], .ro 1 (A.tl i) (gU64 U)]) .normal (mkSt 139 [(7, .nv (.one (.ptr 2 0))), (10, .nv (.one (.ptr 5 0))), (11, uA nw), (52, .nv (.one (.own 1))), (53, iA len), (54, iA i)] [.ro 5 n (gFl F), .ro 5 len (gAc A), .box 60 [.val (.int .i64 k), .own 3, .own 4, .val (.int .u64 v')], .row 56 5 n (gFl F), .row 31 1 n (gU64 T'), .box 50 [.val (.int .i64 k), .own 0, .own 6, .val (.int .u64 v')], .row 31 1 n (gU64 T')])) :
    CodeOkW Try.prog w0 2 (loopOf Try.f5 0) (mkSt 139 [(7, .nv (.one (.ptr 2 0))), (10, .nv (.one (.ptr 5 0))), (11, uA now), (52, .nv (.one (.own 1))), (53, iA len), (54, iA i)] [.ro 5 n (gFl F), .ro 5 len (gAc A), .box 60 [.val (.int .i64 k), .own 3, .own 4, .val (.int .u64 v)], .row 56 5 n (gFl F), .row 31 1 n (gU64 T), .box 50 [.val (.int .i64 k), .own 0, .own 6, .val (.int .u64 v)], .row 31 1 n (gU64 T)]) .normal (mkSt 139 [(7, .nv (.one (.ptr 2 0))), (10, .nv (.one (.ptr 5 0))), (11, uA nw), (52, .nv (.one (.own 1))), (53, iA len), (54, iA (i + 1 : Nat))] [.ro 5 n (gFl F), .ro 5 len (gAc A), .box 60 [.val (.int .i64 k), .own 3, .own 4, .val (.int .u64 v')], .row 56 5 n (gFl F), .row 31 1 n (gU64 T'), .box 50 [.val (.int .i64 k), .own 0, .own 6, .val (.int .u64 v')], .row 31 1 n (gU64 T')]) := by
  rw [rpC_eq]
  refine (rp_1 k now v n len i F A T hi hl).inW.seq ((rp_2 k now v n len i F A T hi hl).inW.seq (CodeOkW.seq (CodeOkW.block (CodeOkW.seq (rp_3 k now v n len i F A T hi hl).inW ?_)) (rp_5 k nw v' n len i F A T' hi hl).inW))
  exact CodeOkW.bring (hb := 7) (cs := [.val (.int .u8 (A.kd i)), .val (.int .u32 (A.id i)), .val (.int .u64 (A.sz i)), .val (.int .u32 (A.la i))]) rfl (fun env e => hU _ env e) h4.inW
theorem rp_loop (w0 : World) (k : Int) (n len : Nat) (F : Fl) (A : Ac) (hl : len ≤ 200) (hk : 1 ≤ k ∧ k ≤ 3) (h1 : 1 ≤ n) (hn : n ≤ 64) (bF : rkB n F (tag0 k F)) (bA : ∀ i, i < len → u64B (A.sz i) ∧ (0 ≤ A.la i ∧ A.la i ≤ 4294967295)) (hN : nestOk w0 len A) :
    CodeOkW Try.prog w0 2 (.loop (loopOf Try.f5 0)) (mkSt 139 [(7, .nv (.one (.ptr 2 0))), (10, .nv (.one (.ptr 5 0))), (11, uA 0), (52, .nv (.one (.own 1))), (53, iA len), (54, iA 0)] [.ro 5 n (gFl F), .ro 5 len (gAc A), .box 60 [.val (.int .i64 k), .own 3, .own 4, .val (.int .u64 0)], .row 56 5 n (gFl F), .row 31 1 n (gU64 (tag0 k F)), .box 50 [.val (.int .i64 k), .own 0, .own 6, .val (.int .u64 0)], .row 31 1 n (gU64 (tag0 k F))]) (.exit 0) (mkSt 139 [] [.ro 5 n (gFl F), .ro 5 len (gAc A)]) := by
  refine loopW_ok (α := Nat × Int × Int × (Nat → Int)) (fun p => mkSt 139 [(7, .nv (.one (.ptr 2 0))), (10, .nv (.one (.ptr 5 0))), (11, uA p.2.1), (52, .nv (.one (.own 1))), (53, iA len), (54, iA p.1)] [.ro 5 n (gFl F), .ro 5 len (gAc A), .box 60 [.val (.int .i64 k), .own 3, .own 4, .val (.int .u64 p.2.2.1)], .row 56 5 n (gFl F), .row 31 1 n (gU64 p.2.2.2), .box 50 [.val (.int .i64 k), .own 0, .own 6, .val (.int .u64 p.2.2.1)], .row 31 1 n (gU64 p.2.2.2)]) (fun p => p.1 ≤ len ∧ (0 ≤ p.2.1 ∧ p.2.1 ≤ p.1 * 4294967295) ∧ u64B p.2.2.1 ∧ rkB n F p.2.2.2) (fun p => len - p.1) (ex := .exit 0) (post := mkSt 139 [] [.ro 5 n (gFl F), .ro 5 len (gAc A)]) (by simp) ?_ (x := (0, 0, 0, tag0 k F)) ⟨Nat.zero_le _, by simp, by unfold u64B; simp, bF⟩
  rintro ⟨i, now, v, T⟩ ⟨hi, hnow, bv, bT⟩
  simp only at hi hnow bv bT
  by_cases hi' : i < len
  case neg =>
    have e : i = len := by omega
    subst e
    exact .inr (rp_e k now v n i F A T hl).inW
  have hi := hi'
  obtain ⟨a1, a2⟩ := bA i hi
  obtain ⟨U, bU, hU⟩ := hN i hi
  have e1 : IntKind.wrap IntKind.u64 (A.la i) = A.la i := wU64 rfl (by omega)
  have hnw : IntKind.wrap IntKind.u64 (now + IntKind.wrap IntKind.u64 (A.la i)) = now + A.la i := by rw [e1]; exact wU64 rfl (by omega)
  have bw : u64B (now + A.la i) := by unfold u64B; omega
  have hnow' : 0 ≤ now + A.la i ∧ now + A.la i ≤ ((i + 1 : Nat) : Int) * 4294967295 := by omega
  have bS : u64B (if k = 1 then A.sz i else v) := by split; exact a1; exact bv
  by_cases k5 : Int.tmod (A.kd i) 8 = 5
  · exact .inl ⟨(i + 1, now + A.la i, _, T), ⟨by simp only; omega, hnow', bS, bT⟩, by simp only; omega, rp_round w0 k now v n len i F A T U _ _ _ hi hl hU (rp_s5 k now v n len i F A T U _ hi hl hn h1 hk hnw k5)⟩
  by_cases k6 : Int.tmod (A.kd i) 8 = 6
  · exact .inl ⟨(i + 1, now + A.la i, _, T), ⟨by simp only; omega, hnow', bS, bT⟩, by simp only; omega, rp_round w0 k now v n len i F A T U _ _ _ hi hl hU (rp_s6 k now v n len i F A T U _ hi hl hn h1 hk hnw k6)⟩
  by_cases k7 : Int.tmod (A.kd i) 8 = 7
  · refine .inl ⟨(i + 1, now + A.la i, _, _), ⟨by simp only; omega, hnow', ?_, ?_⟩, by simp only; omega, rp_round w0 k now v n len i F A T U _ _ _ hi hl hU (rp_l k now v n len i F A T U _ hi hl hn h1 hk hnw k7)⟩
    · show u64B (layV n (A.tl i) v (A.sz i))
      unfold layV; split; exact a1; exact bv
    · intro j hj
      obtain ⟨_, c2, c3, c4⟩ := bT j hj
      refine ⟨?_, c2, c3, c4⟩
      show u64B (layT n (A.tl i) T U j)
      unfold layT
      split
      · rename_i q; exact bU j (by omega)
      · exact (bT j hj).1
  · exact .inl ⟨(i + 1, now + A.la i, v, _), ⟨by simp only; omega, hnow', bv, nextT_bd bT bv a1⟩, by simp only; omega, rp_round w0 k now v n len i F A T U _ _ _ hi hl hU (rp_n k now v n len i F A T U _ hi hl hn h1 hk hnw k5 k6 k7 bv bw a1 bT)⟩
theorem rows_seg2 {env : Env} {w : World} {h n : Nat} {ps : Shs} {ao : Option Addr} {len cap : Nat} (he : env h = some (.slice ao len cap)) (hf : flatB ps 0 = true) (hn : n = lenShs ps) (hr : Reads w (.slice n (.agg n ps)) [.slice ao len cap]) :
    ∃ es : Nat → List Value, (∀ k, k < len → wfRow ps 0 (es k)) ∧ (∀ k, k < len → (es k).length = n ∧ ReadsAll w ps (es k)) ∧ SegOk env w h (.ro n len (fun k => rowAts ps 0 (es k))) := by
  obtain ⟨ao', len', cap', es, e0, h1, h2, h3, h4, h5⟩ := hr
  simp only [List.cons.injEq, Value.slice.injEq, and_true] at e0
  obtain ⟨rfl, rfl, rfl⟩ := e0
  have key : ∀ i e, es[i]? = some e → AllRel env (rowAts ps 0 e) e ∧ wfRow ps 0 e ∧ ∀ u ∈ e, u.oneCell' = true := fun i e q => by
    obtain ⟨k1, k2, k3⟩ := h5 i e q
    obtain ⟨k4, k5⟩ := k2
    have := row_reads_all (env := env) (w := w) (e := e) hf (by omega) k5
    simpa using this
  refine ⟨fun k => es.getD k [], fun k hk => (key k _ (getD_lt [] (by omega))).2.1, fun k hk => ?_, ro_seg he h1 h2 h3 h4 (fun i e q => ⟨(h5 i e q).1, (h5 i e q).2.2⟩) (fun i e q => ?_)⟩
  · obtain ⟨k1, k2, k3⟩ := h5 k _ (getD_lt [] (by omega))
    exact ⟨k1, k2.2⟩
  · have := getD_some (d := []) q
    simp only [this]
    exact ⟨(key i e q).1, (key i e q).2.2⟩
theorem vals_seg2 {w : World} {ao : Option Addr} {len cap : Nat} (hr : Reads w (.slice 1 (.int .u64)) [.slice ao len cap]) :
    ∃ U : Nat → Int, (∀ k, k < len → u64B (U k)) ∧ ∀ (h : Nat) (env : Env), env h = some (.slice ao len cap) → SegOk env w h (.ro 1 len (gU64 U)) := by
  obtain ⟨ao', len', cap', es, e0, h1, h2, h3, h4, h5⟩ := hr
  simp only [List.cons.injEq, Value.slice.injEq, and_true] at e0
  obtain ⟨rfl, rfl, rfl⟩ := e0
  have key : ∀ (env : Env) i e, es[i]? = some e → AllRel env [.val (.int .u64 (cI e 0))] e ∧ u64B (cI e 0) ∧ ∀ u ∈ e, u.oneCell' = true := fun env i e q => by
    obtain ⟨k1, k2, k3⟩ := h5 i e q
    obtain ⟨u, rfl⟩ := list1 k1
    obtain ⟨x, hx, hw⟩ := k2
    obtain rfl : u = .int .u64 x := by simpa using hx
    exact ⟨⟨rfl, trivial⟩, wf_u64 hw, fun u hu => by simp at hu; subst hu; rfl⟩
  refine ⟨fun k => cI (es.getD k []) 0, fun k hk => (key noEnv k _ (getD_lt [] (by omega))).2.1, fun h env he => ro_seg he h1 h2 h3 h4 (fun i e q => ⟨(h5 i e q).1, (h5 i e q).2.2⟩) (fun i e q => ?_)⟩
  have := getD_some (d := []) q
  show AllRel env [.val (.int .u64 (cI (es.getD i []) 0))] e ∧ _
  rw [this]
  exact ⟨(key env i e q).1, (key env i e q).2.2⟩
/-- Flows and acts that came in, and the tags of each act. -/
theorem came_nest {w : World} {a1 a2 : Option Addr} {n cap1 len cap2 : Nat} (r1 : Reads w (.slice 5 (.agg 5 psFl)) [.slice a1 n cap1]) (r2 : Reads w (.slice 5 (.agg 5 psAc)) [.slice a2 len cap2]) :
    ∃ (F : Fl) (A : Ac), flB n F ∧ (∀ i, i < len → u64B (A.sz i) ∧ (0 ≤ A.la i ∧ A.la i ≤ 4294967295)) ∧ nestOk w len A ∧ MemOk (env2 (.slice a1 n cap1) (.slice a2 len cap2)) [.ro 5 n (gFl F), .ro 5 len (gAc A)] w w NoS := by
  obtain ⟨es, b1, s1⟩ := rows_seg (h := 0) (n := 5) (ps := psFl) (env2_0 (.slice a1 n cap1) (.slice a2 len cap2)) rfl rfl r1
  obtain ⟨fs, b2, b3, s2⟩ := rows_seg2 (h := 1) (n := 5) (ps := psAc) (env2_1 (.slice a1 n cap1) (.slice a2 len cap2)) rfl rfl r2
  refine ⟨flEs es, acEs fs, fun i hi => ?_, fun i hi => ?_, fun i hi => ?_, two_ro s1 s2⟩
  · obtain ⟨_, c1, c2, c3, _⟩ := b1 i hi
    exact ⟨c1, c2, c3⟩
  · obtain ⟨_, _, c1, c2, _⟩ := b2 i hi
    exact ⟨c1, c2⟩
  · obtain ⟨hl, _, _, _, _, hr, _⟩ := b3 i hi
    show ∃ U : Nat → Int, (∀ j, j < cL (fs i) 4 → u64B (U j)) ∧ ∀ (h : Nat) (env : Env), env h = some (.slice (cA (fs i) 4) (cL (fs i) 4) (cC (fs i) 4)) → SegOk env w h (.ro 1 (cL (fs i) 4) (gU64 U))
    generalize fs i = e at hl hr ⊢
    match e, hl with
    | [x0, x1, x2, x3, x4], _ =>
      obtain ⟨ao, len', cap', es', e0, hr'⟩ := hr
      have e4 : x4 = .slice ao len' cap' := by simpa using e0
      subst e4
      exact vals_seg2 ⟨ao, len', cap', es', rfl, hr'⟩
theorem rplays_walk (k : Int) (a1 : Option Addr) (n cap1 : Nat) (a2 : Option Addr) (len cap2 : Nat) (w : World) (wk : (Lit.int .i64 k).wf = true) (r1 : Reads w (.slice 5 (.agg 5 psFl)) (Value.slice a1 n cap1).cells.toList) (r2 : Reads w (.slice 5 (.agg 5 psAc)) (Value.slice a2 len cap2).cells.toList) :
    Calls Try.prog 5 #[.int .i64 k, .slice a1 n cap1, .slice a2 len cap2] w fun e w' => e = .returned (.bool true) ∧ Ext w w' := by
  obtain ⟨F, A, bF, bA', hN, hm⟩ := came_nest r1 r2
  have hargs : AllSV (env2 (.slice a1 n cap1) (.slice a2 len cap2)) [iA k, .nv (.one (.own 0)), .nv (.one (.own 1))] [.int .i64 k, .slice a1 n cap1, .slice a2 len cap2] := ⟨rfl, ⟨env2_0 _ _, _, _, _, rfl⟩, ⟨env2_1 _ _, _, _, _, rfl⟩, trivial⟩
  have fin : LawOkW Try.prog w 5 [iA k, .nv (.one (.own 0)), .nv (.one (.own 1))] [.ro 5 n (gFl F), .ro 5 len (gAc A)] (bA true) := by
    by_cases h : 100 < n
    · exact fun env vals => rp_ll k n len F A h env vals w
    by_cases hl : 200 < len
    · exact fun env vals => rp_ll2 k n len F A (by omega) hl env vals w
    by_cases hc : chkR k n F = 0
    · obtain ⟨c1, c2, c3, c4⟩ := chkR_ok.1 hc
      exact rp_fW w k n len F A c3 (by omega) hc c2 c1.1 c1.2 c4 (rp_loop w k n len F A (by omega) c1 c2 c3 (tag0_bd bF _) bA' hN)
    · exact fun env vals => rp_x k n len F A (by omega) (by omega) hc env vals w
  refine (fin _ _ hargs hm).mono ?_
  rintro e w' ⟨u, rfl, hu, hx⟩
  exact ⟨by rw [show u = .bool true from hu], hx⟩
end Go.Proofs.Ytkgkelfdmkginaa

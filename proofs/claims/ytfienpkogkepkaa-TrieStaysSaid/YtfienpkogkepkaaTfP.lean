/- Runs of Go code, as printed by a program: no condition beyond those that each states. -/
import Derived.Test.YtfienpkogkepkaaTfL
import Derived.Test.YtfienpkogkepkaaChecked
import Derived.KernelRfl
namespace Go.Proofs.Ytfienpkogkepkaa
set_option linter.unusedVariables false
set_option linter.unusedSimpArgs false
set_option maxRecDepth 100000
open Go.RowKit E
attribute [local irreducible] wkL apG TA bl8 bl32 wdN msk prP inP sdN prT covB comN comA layP layK LyOk FkOk rgt hasB subAt
set_option maxHeartbeats 2000000 in
theorem nw_b  : CodeOk Try.prog 0 (bodyOf Try.f7) (mkSt 5 [] []) .ret (mkSt 5 [(0, .nv (.one (.ptr 1 0)))] [.box 55 [.val (.int .u32 0), .val (.int .i64 0), .val (.bool false), .val (.int .i64 0), .val (.pointer none), .val (.pointer none)], .box 57 [.ptr 0 0, .val (.int .i64 0)]]) :=
  code_run Gt3_ok (orc := ⟨[], []⟩) (obl := [(0 : Nat) = (0 : Nat),
      (0 : Int) = (0 : Int),
      (0 : Int) = (0 : Int),
      false = false,
      (0 : Int) = (0 : Int),
      Value.pointer none = Value.pointer none,
      Value.pointer none = Value.pointer none,
      (0 : Nat) = (0 : Nat),
      (0 : Int) = (0 : Int)]) (by kernel_rfl) (.cons (by rfl) (.cons (by rfl) (.cons (by rfl) (.cons (by rfl) (.cons (by rfl) (.cons (by rfl) (.cons (by rfl) (.cons (by rfl) (.cons (by rfl) .nil))))))))) (Nat.le_of_ble_eq_true (by kernel_rfl))

set_option maxHeartbeats 2000000 in
theorem len_n  : FnOk Try.prog 17 ([.nv (.one (.val (.pointer none)))]) ([]) (iA 0) ([]) :=
  fn_run Gt3_ok Try.func17 (orc := ⟨[true], []⟩) (obl := [true = true,
      (0 : Int) = (0 : Int)]) (by kernel_rfl) (.cons (by rfl) (.cons (by rfl) .nil)) (Nat.le_of_ble_eq_true (by kernel_rfl))

set_option maxHeartbeats 2000000 in
theorem len_f (c : Int) : FnOk Try.prog 17 ([.nv (.one (.ptr 0 0))]) ([.robox 57 [.any, .val (.int .i64 c)]]) (iA c) ([.gone]) :=
  fn_run Gt3_ok Try.func17 (orc := ⟨[false], []⟩) (obl := [false = false,
      c = c]) (by kernel_rfl) (.cons (by rfl) (.cons (by rfl) .nil)) (Nat.le_of_ble_eq_true (by kernel_rfl))
end Go.Proofs.Ytfienpkogkepkaa

/- trie: New. No condition. -/
namespace Go.Proofs.Ytfienpkogkepkaa
set_option linter.unusedVariables false
set_option linter.unusedSimpArgs false
open Go.RowKit E
/-- A new table's tree. -/
def emT : PT := .node 0 0 false 0 .nil .nil
set_option maxRecDepth 100000 in
theorem fnNew : FnOk Try.prog 7 [] [] (.nv (.one (.ptr 1 0))) [.gone, .box 57 [.root 2 0 true, .val (.int .i64 0)], .abs (TA none emT)] := by
  have key : CodeOk Try.prog 0 (bodyOf Try.f7) (mkSt 5 [] []) .ret (mkSt 5 [(0, .nv (.one (.ptr 1 0)))] [.gone, .box 57 [.root 2 0 true, .val (.int .i64 0)], .abs (TA none emT)]) :=
    CodeOk.post (nw_b) ((shut_tran (k := 0) (cl := zP) (cr := zP) (l := .nil) (r := .nil) (ol := none) (orr := none) rfl ⟨rfl, rfl⟩ ⟨rfl, rfl⟩ (by simp) (by simp) (by simp)).eq (by kernel_rfl))
  exact fn_of_code (c := bodyOf Try.f7) (tm := List.replicate 5 .any) (r := .nv (.one (.ptr 1 0))) (o := []) Try.func7 (by kernel_rfl) (by kernel_rfl) key (.inl rfl) (by kernel_rfl) trivial
end Go.Proofs.Ytfienpkogkepkaa

/- trie: prune where the root stays. No condition. -/
namespace Go.Proofs.Ytfienpkogkepkaa
set_option linter.unusedVariables false
set_option linter.unusedSimpArgs false
open Go.RowKit E
theorem allSV_set {env : Env} : ∀ {l : List SV} {vs : List Value} (i : Nat), AllSV env l vs → AllSV env (l.set i (.nv (.one .any))) vs
  | [], [], _, _ => trivial
  | x :: l, v :: vs, 0, h => ⟨trivial, h.2⟩
  | x :: l, v :: vs, i + 1, h => ⟨h.1, allSV_set i h.2⟩
  | [], _ :: _, _, h => h.elim
  | _ :: _, [], _, h => h.elim
def prTm (pa pn : Int) : List SV := [.nv (.one (.root 0 0 true)), .nv (.agg [.val (.int .u32 pa), .val (.int .i64 pn)])] ++ List.replicate 74 .any
set_option maxRecDepth 100000 in
theorem pr_frame {pa pn a n : Int} {u u2 : Bool} {x x2 : Int} {l r l' r' : PT} (v : Value) {M : List Seg} {cl cr : At} {ol orr : Option Nat}
    (hc : CodeOk Try.prog 2 (bodyOf Try.f26) (prS0 pa pn a n u x l r (.root 2 0 false) (.root 3 0 false)) .ret (mkSt 76 [(4, .nv (.one (.ptr 1 0)))] M)) (hb : M[1]? = some (.box tNd (ndA a n u2 x2 cl cr))) (hl : KidAt M cl l' ol) (hr : KidAt M cr r' orr) (h1 : ol ≠ some 1) (h2 : orr ≠ some 1) (h3 : ∀ i, ol = some i → orr ≠ some i) :
    FnOk Try.prog 26 [.nv (.one (.root 0 0 true)), .nv (.agg [.val (.int .u32 pa), .val (.int .i64 pn)])] [.abs (TA (some v) (.node a n u x l r))] (.nv (.one .any)) [.gone, .abs (TA (some v) (.node a n u2 x2 l' r'))] := by
  have key : CodeOk Try.prog 1 (bodyOf Try.f26) ⟨prTm pa pn, [.abs (TA (some v) (.node a n u x l r))]⟩ .ret ⟨(List.replicate 76 .any).set 4 (.nv (.one .any)), [.gone, .abs (TA (some v) (.node a n u2 x2 l' r'))]⟩ := by
    refine CodeOk.rebase (m1 := 2) (st1 := prS0 pa pn a n u x l r (.root 2 0 false) (.root 3 0 false)) (Q := fun env1 => env1 1 = some v) ?_ (by omega) (Nat.le_of_ble_eq_true rfl) hc ?_
    · intro cx env act w hm0 hk
      obtain ⟨b, vals, h0, hp, k⟩ := open_ok (h := 0) (pin := some v) hk rfl
      refine ⟨_, ?_, k⟩
      have := extE_ge (env := env) (m := 1) (vals := vals) 0
      rw [Nat.add_zero] at this
      show extE env 1 vals 1 = some v
      rw [this, h0, hp v rfl]
    · intro cx env1 env2 act w hm0 q hf hk
      obtain ⟨b, F, e1, hM⟩ := shut_mem hk.mem hb hl hr h1 h2 h3
      have hv : v = pB b := by
        rcases hf 1 (by omega) with z | z
        · rw [e1] at z; cases z
        · rw [e1, q] at z; exact (Option.some.inj z).symm
      have hM := hM (some v) (fun u hu => by cases hu; exact hv)
      have hlt : 1 < M.length := (List.getElem?_eq_some_iff.1 hb).1
      have hlen : (mkSt 76 [(4, .nv (.one (.ptr 1 0)))] M).mem.length = M.length := rfl
      have m2 := leMem_sound (ρ := [(0, .same 0), (1, .same M.length)]) (m := 2) (ys := [.gone, .abs (TA (some v) (.node a n u2 x2 l' r'))]) hM rfl (by
        refine leMem_mk fun h s hs => ?_
        match h, hs with
        | 0, hs => cases hs; exact leEntry_gone
        | 1, hs =>
          cases hs
          have hg : (dropAll M (clH 1 ol orr) ++ [Seg.abs (TA (some v) (.node a n u2 x2 l' r'))])[M.length]? = some (.abs (TA (some v) (.node a n u2 x2 l' r'))) := by
            rw [List.getElem?_append_right (by rw [dropAll_len]; exact Nat.le_refl _), dropAll_len, Nat.sub_self]; rfl
          show AllT (match (dropAll M (clH 1 ol orr) ++ [Seg.abs (TA (some v) (.node a n u2 x2 l' r'))])[M.length]? with | some x => leSeg _ 2 x _ | none => _)
          rw [hg]
          exact leSeg_abs) rfl
      refine ⟨_, hk.defers, ?_, m2, by rw [hm0]; simp, fun j hj => ?_⟩
      · have := hk.tm.length
        have h5 := AllSV.anys (env := (extE env2 (mkSt 76 [(4, .nv (.one (.ptr 1 0)))] M).mem.length [.tuple (trV (pB b) F)]).cutR [(0, .same 0), (1, .same M.length)] 2) act.tmps.toList
        rw [show act.tmps.toList.length = 76 by simpa [mkSt] using this.symm] at h5
        exact allSV_set 4 h5
      · rw [hm0] at hj
        match j, hj with
        | 0, _ =>
          rw [Env.cutR_lt (i := 0) rfl (by omega), extE_lt (by rw [hlen]; omega)]
          exact hk.fix 0 (by rw [hm0]; omega)
  exact fn_of_code (c := bodyOf Try.f26) (tm := prTm pa pn) (r := .nv (.one .any)) (o := []) Try.func26 (by kernel_rfl) (by kernel_rfl) key (.inl rfl) (by kernel_rfl) trivial
end Go.Proofs.Ytfienpkogkepkaa

/- trie: prune at the root. No condition. -/
namespace Go.Proofs.Ytfienpkogkepkaa
set_option linter.unusedVariables false
set_option linter.unusedSimpArgs false
open Go.RowKit E
theorem kidT {M : List Seg} {h : Nat} {l : PT} (hm : M[h]? = some (.abs (TA none l))) : ∃ ol, KidAt M (cellT h l) l ol ∧ (ol = none ∨ ol = some h) := by
  cases l with
  | nil => exact ⟨none, ⟨rfl, rfl⟩, .inl rfl⟩
  | node a n u x l r => exact ⟨some h, ⟨none, hm, .inl ⟨true, rfl⟩⟩, .inr rfl⟩
noncomputable abbrev prC (p : List Bool) : Code := subC p (bodyOf Try.f26)
theorem p2A (a : Int) (u : Bool) (x : Int) (l r : PT) : CodeOk Try.prog 2 (prC [true, true]) (pstA a 0 u x l r) .ret (pstEA (.ptr 1 0) a 0 u x l r) := by
  cases u with
  | true =>
    cases l <;> cases r
    · exact pzAnn_u a 0 x _ _ (TA none .nil)
    · exact pzAnk_u a 0 x _ _ (TA none .nil)
    · exact pzAkn_u a 0 x _ _ (TA none .nil)
    · exact pzAkk_u a 0 x _ _ (TA none .nil)
  | false =>
    cases l <;> cases r
    · exact pzAnn_z a 0 x _ _ (TA none .nil) rfl
    · exact pzAnk_z a 0 x _ _ (TA none .nil) rfl
    · exact pzAkn_z a 0 x _ _ (TA none .nil) rfl
    · exact pzAkk_z a 0 x _ _ (TA none .nil) rfl
theorem p2B (a : Int) (u : Bool) (x : Int) (l r : PT) : CodeOk Try.prog 2 (prC [true, true]) (pstB a 0 u x l r) .ret (pstEB (.ptr 1 0) a 0 u x l r) := by
  cases u with
  | true =>
    cases l <;> cases r
    · exact pzBnn_u a 0 x (TA none .nil) _ _
    · exact pzBnk_u a 0 x (TA none .nil) _ _
    · exact pzBkn_u a 0 x (TA none .nil) _ _
    · exact pzBkk_u a 0 x (TA none .nil) _ _
  | false =>
    cases l <;> cases r
    · exact pzBnn_z a 0 x (TA none .nil) _ _ rfl
    · exact pzBnk_z a 0 x (TA none .nil) _ _ rfl
    · exact pzBkn_z a 0 x (TA none .nil) _ _ rfl
    · exact pzBkk_z a 0 x (TA none .nil) _ _ rfl
theorem p2C (a : Int) (u : Bool) (x : Int) (l r : PT) : CodeOk Try.prog 2 (prC [true, true]) (pstC a 0 u x l r) .ret (pstEC (.ptr 1 0) a 0 u x l r) := by
  cases u with
  | true =>
    cases l <;> cases r
    · exact pzCnn_u a 0 x _ (TA none .nil) _
    · exact pzCnk_u a 0 x _ (TA none .nil) _
    · exact pzCkn_u a 0 x _ (TA none .nil) _
    · exact pzCkk_u a 0 x _ (TA none .nil) _
  | false =>
    cases l <;> cases r
    · exact pzCnn_z a 0 x _ (TA none .nil) _ rfl
    · exact pzCnk_z a 0 x _ (TA none .nil) _ rfl
    · exact pzCkn_z a 0 x _ (TA none .nil) _ rfl
    · exact pzCkk_z a 0 x _ (TA none .nil) _ rfl
set_option maxRecDepth 100000 in
theorem pr_body : bodyOf Try.f26 = .seq (prC [false]) (.seq (prC [true, false]) (prC [true, true])) := by kernel_rfl
theorem prP_root {pa pn a n : Int} {u : Bool} {x : Int} {l r : PT} (h0 : n = 0) : ∃ u' x' l' r', prP pa pn (.node a n u x l r) = .node a n u' x' l' r' := by
  rw [prP]
  by_cases hb : a = pa ∧ n = pn
  · rw [if_pos hb, prT, if_pos (.inr h0)]; exact ⟨_, _, _, _, rfl⟩
  · rw [if_neg hb]
    by_cases hs : sdN pa n = 0
    · rw [if_pos hs, prT, if_pos (.inr h0)]; exact ⟨_, _, _, _, rfl⟩
    · rw [if_neg hs, prT, if_pos (.inr h0)]; exact ⟨_, _, _, _, rfl⟩
set_option maxRecDepth 100000 in
theorem fnPruneR {pa pn : Int} (ha : 0 ≤ pa ∧ pa ≤ 4294967295) {a : Int} {u : Bool} {x : Int} {l r : PT} (hin : inP pa pn (.node a 0 u x l r)) (v : Value) :
    FnOk Try.prog 26 [.nv (.one (.root 0 0 true)), .nv (.agg [.val (.int .u32 pa), .val (.int .i64 pn)])] [.abs (TA (some v) (.node a 0 u x l r))] (.nv (.one .any)) [.gone, .abs (TA (some v) (prP pa pn (.node a 0 u x l r)))] := by
  have ih : PrIh pa pn l ∧ PrIh pa pn r := ⟨fnPrune ha l, fnPrune ha r⟩
  have fr : ∀ {u2 : Bool} {x2 : Int} {l' r' : PT} {M : List Seg} {cl cr : At} {ol orr : Option Nat}, CodeOk Try.prog 2 (.seq (prC [true, false]) (prC [true, true])) (prS1 pa pn a 0 u x l r) .ret (mkSt 76 [(4, .nv (.one (.ptr 1 0)))] M) → M[1]? = some (.box tNd (ndA a 0 u2 x2 cl cr)) → KidAt M cl l' ol → KidAt M cr r' orr → ol ≠ some 1 → orr ≠ some 1 → (∀ i, ol = some i → orr ≠ some i) →
      FnOk Try.prog 26 [.nv (.one (.root 0 0 true)), .nv (.agg [.val (.int .u32 pa), .val (.int .i64 pn)])] [.abs (TA (some v) (.node a 0 u x l r))] (.nv (.one .any)) [.gone, .abs (TA (some v) (.node a 0 u2 x2 l' r'))] := fun hc hb hl hr h1 h2 h3 =>
    pr_frame v (by rw [pr_body]; exact CodeOk.pre (pr_kids pa pn a 0 u x l r) (CodeOk.seq (pr_p1 pa pn a 0 u x l r) hc)) hb hl hr h1 h2 h3
  rw [prP]
  by_cases hb : a = pa ∧ 0 = pn
  · rw [if_pos hb, prT, if_pos (.inr rfl)]
    obtain ⟨ol, k1, c1⟩ := kidT (M := (pstEA (.ptr 1 0) a 0 false 0 l r).mem) (h := 2) (l := l) rfl
    obtain ⟨orr, k2, c2⟩ := kidT (M := (pstEA (.ptr 1 0) a 0 false 0 l r).mem) (h := 3) (l := r) rfl
    exact fr (CodeOk.seq (pr_hit pa pn a 0 u x l r hb) (p2A a false 0 l r)) rfl k1 k2 (by rcases c1 with e | e <;> simp [e]) (by rcases c2 with e | e <;> simp [e]) (by rcases c1 with e | e <;> rcases c2 with e' | e' <;> simp [e, e'])
  · rw [if_neg hb]
    rcases hin with h | ⟨hn, ⟨hs, hi⟩ | ⟨hs, hi⟩⟩
    · exact (hb h).elim
    · rw [if_pos hs, prT, if_pos (.inr rfl)]
      obtain ⟨ol, k1, c1⟩ := kidT (M := (pstEB (.ptr 1 0) a 0 u x (prP pa pn l) r).mem) (h := 4) (l := prP pa pn l) rfl
      obtain ⟨orr, k2, c2⟩ := kidT (M := (pstEB (.ptr 1 0) a 0 u x (prP pa pn l) r).mem) (h := 3) (l := r) rfl
      exact fr (CodeOk.seq (pr_left ha ih hb hn u x hs hi) (p2B a u x (prP pa pn l) r)) rfl k1 k2 (by rcases c1 with e | e <;> simp [e]) (by rcases c2 with e | e <;> simp [e]) (by rcases c1 with e | e <;> rcases c2 with e' | e' <;> simp [e, e'])
    · rw [if_neg (by omega), prT, if_pos (.inr rfl)]
      obtain ⟨ol, k1, c1⟩ := kidT (M := (pstEC (.ptr 1 0) a 0 u x l (prP pa pn r)).mem) (h := 2) (l := l) rfl
      obtain ⟨orr, k2, c2⟩ := kidT (M := (pstEC (.ptr 1 0) a 0 u x l (prP pa pn r)).mem) (h := 4) (l := prP pa pn r) rfl
      exact fr (CodeOk.seq (pr_right ha ih hb hn u x hs hi) (p2C a u x l (prP pa pn r))) rfl k1 k2 (by rcases c1 with e | e <;> simp [e]) (by rcases c2 with e | e <;> simp [e]) (by rcases c1 with e | e <;> rcases c2 with e' | e' <;> simp [e, e'])
end Go.Proofs.Ytfienpkogkepkaa

/- Runs of a function that asks a channel once. No condition. -/
import Derived.Test.YtajdkbgbekdbmaaEC
import Derived.Conc.LoneCalls
import Derived.Conc.LoneSelectN
namespace Go.Proofs.Ytajdkbgbekdbmaa
set_option linter.unusedVariables false
set_option linter.unusedSimpArgs false
namespace E
open Go.RowKit Go.Conc
/-- As Code.wp, of a frame that a call made. -/
def wpN (P : Program) (c : Code) (Q : Exit → Act → World → Prop) (a : Act) (w : World) : Prop :=
  ∀ (b : Frame) (k : List Item) (cs : List Frame), b.kind = .normal → ∃ e a' w', Q e a' w' ∧ Arrives P (lone (b.at a (.code c :: k)) cs w) b k cs e a' w'
section
variable {P : Program} {Q Q' : Exit → Act → World → Prop} {a : Act} {w : World}
theorem wpN_of {c : Code} (h : c.wp P Q a w) : wpN P c Q a w := fun b k cs _ => h b k cs
theorem wpN_mono {c : Code} (h : wpN P c Q a w) (hq : ∀ e a w, Q e a w → Q' e a w) : wpN P c Q' a w :=
  fun b k cs hb => let ⟨e, a', w', q, r⟩ := h b k cs hb; ⟨e, a', w', hq _ _ _ q, r⟩
theorem wpN_seq {x y : Code} (h : wpN P x (Exit.then (wpN P y Q) Q) a w) : wpN P (.seq x y) Q a w := by
  intro b k cs hb
  obtain ⟨e, a₁, w₁, hq, harr⟩ := h b (.code y :: k) cs hb
  cases e with
  | normal =>
    obtain ⟨e₂, a₂, w₂, hq₂, harr₂⟩ := hq b k cs hb
    exact ⟨e₂, a₂, w₂, hq₂, .of_steps (.head step_seq harr) harr₂⟩
  | exit id => exact ⟨_, a₁, w₁, hq, .of_steps (.one step_seq) (.pass (x := .code y) rfl (fun _ _ => .inl (by simp)) harr)⟩
  | goto l => exact ⟨_, a₁, w₁, hq, .of_steps (.one step_seq) (.pass (x := .code y) rfl (fun _ _ => .inl (by simp)) harr)⟩
  | ret => exact ⟨_, a₁, w₁, hq, .of_steps (.one step_seq) (.pass (x := .code y) rfl (fun _ _ => .inl (by simp)) harr)⟩
  | panic ch => exact ⟨_, a₁, w₁, hq, .of_steps (.one step_seq) (.pass (x := .code y) rfl (fun _ _ => .inl (by simp)) harr)⟩
  | outgrown => exact ⟨_, a₁, w₁, hq, .of_steps (.one step_seq) (.pass (x := .code y) rfl (fun _ _ => .inl (by simp)) harr)⟩
/-- A region that begins with a select of one case, and a default. -/
theorem wpN_select {id : Nat} {ops : Array Oper} {o : Oper} (h0 : ops[0]? = some o) (hg : o.guard = none) {cases : Array CommCase}
    (hx : (execOp a.eval o).run P w = .ok (.comm cases false .select) w) {v : Value} {w' : World}
    (hs : ∀ fr cs es, stepG P true (G fr cs) w = .comm (G fr cs) cases false .select w es → step P (solo (G fr cs) w) = .next (solo (G (fr.finish v) cs) w'))
    (hk : wpList P ops Q (ops.toList.drop 1) (a.put o.dst v) w') : wpN P (.region id ops false) Q a w := by
  intro b k cs hb
  have hsz : 0 < ops.size := (Array.getElem?_eq_some_iff.1 h0).1
  have hr : List.range ops.size = 0 :: List.range' 1 (ops.size - 1) := by
    rw [List.range_eq_range']
    obtain ⟨n, hn⟩ : ∃ n, ops.size = n + 1 := ⟨ops.size - 1, by omega⟩
    rw [hn]
    rfl
  have h1 := step_region (P := P) (b := b) (a := a) (k := k) (cs := cs) (w := w) (id := id) (ops := ops)
  rw [hr] at h1
  have hw : Region.wanted o (yielded ops a.tmps) = true := by simp [Region.wanted, hg]
  have h2 := stepG_comm (P := P) (b := b) (a := a) (k := k) (cs := cs) (w := w) (main := true) (rest := List.range' 1 (ops.size - 1)) h0 hw (by rw [hb]; decide) hx
  have h3 := hs _ _ _ h2
  have hfin : (b.at a (.inRegion ops (0 :: List.range' 1 (ops.size - 1)) :: k)).finish v = b.at (a.put o.dst v) (.inRegion ops (List.range' 1 (ops.size - 1)) :: k) := by
    rw [Frame.finish_at, h0]; rfl
  rw [hfin] at h3
  have hl : wpOps P ops Q (List.range' 1 (ops.size - 1)) (a.put o.dst v) w' := by
    have e : (ops.toList.drop 1).length = ops.size - 1 := by simp
    rw [← e, wpOps_eq_wpList (ops.toList.drop 1) 1 (fun j => by simp [Nat.add_comm])]
    exact hk
  obtain ⟨e, a', w'', q, r⟩ := wp_ops _ _ _ hl b k cs
  exact ⟨e, a', w'', q, .of_steps (.head h1 (.one h3)) r⟩
theorem calls_of_wpN {f : FuncId} {fn : Func} {c : Code} {args : Array Value} {R : Ending → World → Prop}
    (hf : P.funcs[f]? = some fn) (hb : fn.body = some c)
    (h : wpN P c (bodyPost P fn R) { tmps := args ++ Array.replicate (fn.ntmps - args.size) undef, defers := [] } w) :
    Calls P f args w R := by
  intro cs
  let b : Frame := { (default : Frame) with fn := f, kind := .normal }
  have henter : Frame.enter P f args .normal =
      b.at { tmps := args ++ Array.replicate (fn.ntmps - args.size) undef, defers := [] } [.code c] := by
    simp [Frame.enter, Frame.at, hf, hb, b]
  obtain ⟨e, a', w', hq, harr⟩ := h b [] cs rfl
  rw [← henter] at harr
  cases e with
  | normal =>
    obtain ⟨hd, v, hr, hR⟩ := hq
    exact ⟨.returned v, w', _, hR, Steps.trans harr (.one step_end), rfl, rfl, hd, rfl, fn, hf, hr⟩
  | ret =>
    obtain ⟨hd, v, hr, hR⟩ := hq
    obtain ⟨todo, hs⟩ := harr
    exact ⟨.returned v, w', _, hR, hs, rfl, rfl, hd, rfl, fn, hf, hr⟩
  | panic chain =>
    obtain ⟨hd, hR⟩ := hq
    obtain ⟨todo, hs⟩ := harr
    exact ⟨.panicked chain, w', _, hR, hs, rfl, rfl, hd, fn, hf⟩
  | exit id => exact hq.elim
  | goto l => exact hq.elim
  | outgrown => exact ⟨.outgrown, w', b, hq, harr.resolve_left (by simp [b]), rfl, trivial⟩
end
/-- Code that begins in a state ends so, in another one; it may ask a channel. -/
def CodeOkN (P : Program) (m0 : Nat) (c : Code) (pre : St) (ex : Ex) (post : St) : Prop :=
  ∀ (cx : Cx) (env : Env) (a : Act) (w : World), cx.m0 = m0 → Ok cx env pre a w →
    wpN P c (fun e a' w' => e = ex.to ∧ ∃ env', Ok cx env' post a' w') a w
theorem CodeOk.inN {P : Program} {m0 : Nat} {c : Code} {pre post : St} {ex : Ex} (h : CodeOk P m0 c pre ex post) : CodeOkN P m0 c pre ex post :=
  fun cx env a w h3 hk => wpN_of (h cx env a w h3 hk)
theorem CodeOkN.seq {P : Program} {m0 : Nat} {c1 c2 : Code} {pre mid post : St} {ex : Ex} (h1 : CodeOkN P m0 c1 pre .normal mid) (h2 : CodeOkN P m0 c2 mid ex post) : CodeOkN P m0 (.seq c1 c2) pre ex post := by
  intro cx env a w k3 hk
  refine wpN_seq (wpN_mono (h1 cx env a w k3 hk) ?_)
  rintro e' a' w' ⟨rfl, env', hk'⟩
  exact h2 cx env' a' w' k3 hk'
theorem fnN_ok {P : Program} {f : FuncId} {fn : Func} {c : Code} (hf : P.funcs[f]? = some fn) (hb : fn.body = some c) {args : List SV} {mem mem' : List Seg} {r : SV} {tm : List SV}
    (h : CodeOkN P mem.length c ⟨args ++ List.replicate (fn.ntmps - args.length) .any, mem⟩ .ret ⟨tm, mem'⟩) {o : List Prop} (hres : evResults P ⟨tm, mem'⟩ fn.results.toList = some (r, o)) (ho : AllT o) : FnOk P f args mem r mem' := by
  intro env w0 w S vals hv hm
  have hk : Ok ⟨w0, S, mem.length, env⟩ env ⟨args ++ List.replicate (fn.ntmps - args.length) .any, mem⟩ { tmps := vals.toArray ++ Array.replicate (fn.ntmps - vals.toArray.size) undef, defers := [] } w := by
    refine ⟨rfl, ?_, hm, Nat.le_refl _, fun h hh => .inr rfl⟩
    have hlen := hv.length
    have : (vals.toArray ++ Array.replicate (fn.ntmps - vals.toArray.size) undef).toList = vals ++ List.replicate (fn.ntmps - args.length) undef := by
      simp [hlen]
    rw [this]
    refine hv.append ?_
    have := AllSV.anys (env := env) (List.replicate (fn.ntmps - args.length) undef)
    simpa using this
  refine calls_of_wpN hf hb ?_
  refine wpN_mono (h _ env _ w rfl hk) ?_
  rintro e a' w' ⟨rfl, env', hk'⟩
  obtain ⟨v, h1, u, env'', h2 | ⟨h, h3, h4⟩⟩ := fn_end (f := f) hres ho hk'
  · exact ⟨hk'.defers, v, h1, u, env'', h2⟩
  · exact (h4 (hm.top h h3)).elim
end E
end Go.Proofs.Ytajdkbgbekdbmaa

/- A select of one case, and a default: the five ways. No condition. -/
import Derived.Test.YtajdkbgbekdbmaaEN
namespace Go.Proofs.Ytajdkbgbekdbmaa
set_option linter.unusedVariables false
set_option linter.unusedSimpArgs false
namespace E
open Go.RowKit Go.Conc
section
variable {P : Program} {Γ : List (FuncId × Sp)} {m0 id : Nat} {ops : Array Oper} {o : Oper} {tm : List SV} {mem mem' : List Seg} {st2 : St} {sv : SV} {obl : List Prop}
theorem CodeOkN.select (hΓ : CtxOk P Γ) (h0 : ops[0]? = some o) (hg : o.guard = none) (hlen : mem'.length = mem.length)
    (hsel : ∀ cx env a w, cx.m0 = m0 → Ok cx env ⟨tm, mem⟩ a w → ∃ cases v w', (execOp a.eval o).run P w = .ok (.comm cases false .select) w ∧
      (∀ fr cs es, stepG P true (G fr cs) w = .comm (G fr cs) cases false .select w es → step P (solo (G fr cs) w) = .next (solo (G (fr.finish v) cs) w')) ∧ sv.rel env v ∧ MemOk env mem' cx.w0 w' cx.S)
    (hrun : runOps P Γ ops (ops.toList.drop 1) ⟨put tm o.dst sv, mem'⟩ [] = some (st2, obl, [])) (ho : AllT obl) : CodeOkN P m0 (.region id ops false) ⟨tm, mem⟩ .normal st2 := by
  intro cx env a w hm0 hk
  obtain ⟨cases, v, w', h1, h2, h3, h4⟩ := hsel cx env a w hm0 hk
  refine wpN_select h0 hg h1 h2 ?_
  refine runOps_sound hΓ _ hrun ho (env := env) ?_ (fun env' a' w'' _ hk' => ⟨rfl, env', hk'⟩)
  refine ⟨by cases o.dst <;> exact hk.defers, ?_, h4, by show cx.m0 ≤ mem'.length; rw [hlen]; exact hk.long, hk.fix⟩
  cases hd : o.dst with
  | none => exact hk.tm
  | some d =>
    show AllSV env (tm.set d sv) (a.tmps.setIfInBounds d v).toList
    rw [Array.toList_setIfInBounds]
    exact hk.tm.set d h3
/-- The channel of a slot. -/
theorem chan_at {cx : Cx} {env : Env} {a : Act} {w : World} (hk : Ok cx env ⟨tm, mem⟩ a w) {t h cap : Nat} {buf : List Value} {cl : Bool} (ht : tm[t]? = some (.nv (.one (.chn h)))) (hh : mem[h]? = some (.chan cap buf cl)) :
    ∃ b s r, env h = some (.pointer (some ⟨b, 0, none⟩)) ∧ a.eval (.tmp t) = .chan (some b) ∧ w.heap[b]? = some (.chan cap buf.toArray cl s r false) := by
  obtain ⟨b, s, r, h1, h2⟩ := hk.mem.ok _ _ hh
  obtain ⟨v, hv, hr⟩ := hk.tm.get ht
  obtain ⟨b', h3, rfl⟩ := hr
  rw [h1] at h3
  obtain rfl : b = b' := by simpa using h3
  refine ⟨b, s, r, h1, ?_, h2⟩
  show a.tmps.getD t undef = _
  rw [Array.getD_eq_getD_getElem?]
  have : a.tmps[t]? = some (.chan (some b)) := by simpa using hv
  rw [this]; rfl
theorem chan_write {env : Env} {w w0 : World} {S : Nat → Prop} (hm : MemOk env mem w0 w S) {h b cap s r s' r' : Nat} {buf buf' : List Value} {cl : Bool} (hh : mem[h]? = some (.chan cap buf cl)) (h1 : env h = some (.pointer (some ⟨b, 0, none⟩)))
    (hb : w.heap[b]? = some (.chan cap buf.toArray cl s r false)) : MemOk env (mem.set h (.chan cap buf' cl)) w0 (w.setChan b cap buf'.toArray cl s' r' false) S := by
  have hlt := (Array.getElem?_eq_some_iff.1 hb).1
  refine hm.write _ _ _ b hh (by simp [blk, h1, blksOf, baseOf]) rfl rfl rfl rfl (by simp [World.setChan]) (fun k _ hk => by simp [World.setChan, Array.getElem?_setIfInBounds_ne (Ne.symm hk)]) ?_
  exact ⟨b, s', r', h1, by simp [World.setChan, hlt]⟩
variable {d t el ty : Nat} {pos : String} {after : Array Edge} {z : Value}
theorem one_case {cases : Array CommCase} (h : cases.size = 1) {w : World} : ∀ (m : Nat) (c' : CommCase), m ≠ 0 → cases[m]? = some c' → NoWay w c' := by
  intro m c' hm hc
  have := (Array.getElem?_eq_some_iff.1 hc).1
  omega
abbrev selR (d t el ty : Nat) (pos : String) (after : Array Edge) : Oper := ⟨some d, .select #[⟨.tmp t, none, el⟩] false, ty, pos, after, none⟩
abbrev selS (d t x el ty : Nat) (pos : String) (after : Array Edge) : Oper := ⟨some d, .select #[⟨.tmp t, some (.tmp x), el⟩] false, ty, pos, after, none⟩
/-- Something lies there. -/
theorem recv_buf (hΓ : CtxOk P Γ) (h0 : ops[0]? = some (selR d t el ty pos after)) (hz : ∀ w, (zeroValue el).run P w = .ok z w) {h cap : Nat} {buf : List Value} {cl : Bool} {v : Value}
    (ht : tm[t]? = some (.nv (.one (.chn h)))) (hh : mem[h]? = some (.chan cap (v :: buf) cl))
    (hrun : runOps P Γ ops (ops.toList.drop 1) ⟨tm.set d (.tup [.one (.val (.int .i64 0)), .one (.val (.bool true)), .one (.val v)]), mem.set h (.chan cap buf cl)⟩ [] = some (st2, obl, [])) (ho : AllT obl) :
    CodeOkN P m0 (.region id ops false) ⟨tm, mem⟩ .normal st2 := by
  refine CodeOkN.select (o := selR d t el ty pos after) (sv := .tup [.one (.val (.int .i64 0)), .one (.val (.bool true)), .one (.val v)]) hΓ h0 rfl (by simp) ?_ hrun ho
  intro cx env a w hm0 hk
  obtain ⟨b, s, r, h1, h2, h3⟩ := chan_at hk ht hh
  refine ⟨#[rcase b z], .tuple #[.int .i64 0, .bool true, v], w.setChan b cap buf.toArray cl s (r + 1) false, ?_, ?_, ⟨_, rfl, rfl, rfl, rfl, trivial⟩, chan_write hk.mem hh h1 h3⟩
  · simp [execOp, h2, hz, rcase]
  · intro fr cs es hst
    have := step_lone_sel_recv_buf (k := 0) hst rfl (one_case rfl) h3 (by simp)
    simpa [commResult, rcase, goInt] using this
/-- It is shut, and empty. -/
theorem recv_shut (hΓ : CtxOk P Γ) (h0 : ops[0]? = some (selR d t el ty pos after)) (hz : ∀ w, (zeroValue el).run P w = .ok z w) {h cap : Nat}
    (ht : tm[t]? = some (.nv (.one (.chn h)))) (hh : mem[h]? = some (.chan cap [] true))
    (hrun : runOps P Γ ops (ops.toList.drop 1) ⟨tm.set d (.tup [.one (.val (.int .i64 0)), .one (.val (.bool false)), .one (.val z)]), mem⟩ [] = some (st2, obl, [])) (ho : AllT obl) :
    CodeOkN P m0 (.region id ops false) ⟨tm, mem⟩ .normal st2 := by
  refine CodeOkN.select (o := selR d t el ty pos after) (sv := .tup [.one (.val (.int .i64 0)), .one (.val (.bool false)), .one (.val z)]) hΓ h0 rfl rfl ?_ hrun ho
  intro cx env a w hm0 hk
  obtain ⟨b, s, r, h1, h2, h3⟩ := chan_at hk ht hh
  refine ⟨#[rcase b z], .tuple #[.int .i64 0, .bool false, z], w, ?_, ?_, ⟨_, rfl, rfl, rfl, rfl, trivial⟩, hk.mem⟩
  · simp [execOp, h2, hz, rcase]
  · intro fr cs es hst
    have := step_lone_sel_recv_shut (k := 0) hst rfl (one_case rfl) h3
    simpa [commResult, rcase, goInt] using this
/-- It is open, and empty. -/
theorem recv_none (hΓ : CtxOk P Γ) (h0 : ops[0]? = some (selR d t el ty pos after)) (hz : ∀ w, (zeroValue el).run P w = .ok z w) {h cap : Nat}
    (ht : tm[t]? = some (.nv (.one (.chn h)))) (hh : mem[h]? = some (.chan cap [] false))
    (hrun : runOps P Γ ops (ops.toList.drop 1) ⟨tm.set d (.tup [.one (.val (.int .i64 (-1))), .one (.val (.bool false)), .one (.val z)]), mem⟩ [] = some (st2, obl, [])) (ho : AllT obl) :
    CodeOkN P m0 (.region id ops false) ⟨tm, mem⟩ .normal st2 := by
  refine CodeOkN.select (o := selR d t el ty pos after) (sv := .tup [.one (.val (.int .i64 (-1))), .one (.val (.bool false)), .one (.val z)]) hΓ h0 rfl rfl ?_ hrun ho
  intro cx env a w hm0 hk
  obtain ⟨b, s, r, h1, h2, h3⟩ := chan_at hk ht hh
  refine ⟨#[rcase b z], .tuple #[.int .i64 (-1), .bool false, z], w, ?_, ?_, ⟨_, rfl, rfl, rfl, rfl, trivial⟩, hk.mem⟩
  · simp [execOp, h2, hz, rcase]
  · intro fr cs es hst
    have := step_lone_sel_default hst (fun cc hc => by
      simp at hc
      subst hc
      exact noWay_recv h3)
    simpa [commResult, rcase, goInt] using this
/-- There is room. -/
theorem send_room (hΓ : CtxOk P Γ) {x : Nat} (h0 : ops[0]? = some (selS d t x el ty pos after)) (hz : ∀ w, (zeroValue el).run P w = .ok z w) {h cap : Nat} {buf : List Value} {v : Value}
    (ht : tm[t]? = some (.nv (.one (.chn h)))) (hx : tm[x]? = some (.nv (.one (.val v)))) (hh : mem[h]? = some (.chan cap buf false)) (hroom : buf.length < cap)
    (hrun : runOps P Γ ops (ops.toList.drop 1) ⟨tm.set d (.tup [.one (.val (.int .i64 0)), .one (.val (.bool false))]), mem.set h (.chan cap (buf ++ [v]) false)⟩ [] = some (st2, obl, [])) (ho : AllT obl) :
    CodeOkN P m0 (.region id ops false) ⟨tm, mem⟩ .normal st2 := by
  refine CodeOkN.select (o := selS d t x el ty pos after) (sv := .tup [.one (.val (.int .i64 0)), .one (.val (.bool false))]) hΓ h0 rfl (by simp) ?_ hrun ho
  intro cx env a w hm0 hk
  obtain ⟨b, s, r, h1, h2, h3⟩ := chan_at hk ht hh
  have hv : a.eval (.tmp x) = v := by
    obtain ⟨u, hu, hr⟩ := hk.tm.get hx
    have hr : u = v := hr
    subst hr
    show a.tmps.getD x undef = _
    rw [Array.getD_eq_getD_getElem?]
    have : a.tmps[x]? = some u := by simpa using hu
    rw [this]; rfl
  refine ⟨#[scase b v z], .tuple #[.int .i64 0, .bool false], w.setChan b cap (buf ++ [v]).toArray false (s + 1) r false, ?_, ?_, ⟨_, rfl, rfl, rfl, trivial⟩, chan_write hk.mem hh h1 h3⟩
  · simp [execOp, h2, hz, hv, scase]
  · intro fr cs es hst
    have := step_lone_sel_send_room (k := 0) hst rfl (one_case rfl) h3 (by simpa using hroom)
    simpa [commResult, scase, goInt] using this
/-- There is no room. -/
theorem send_full (hΓ : CtxOk P Γ) {x : Nat} (h0 : ops[0]? = some (selS d t x el ty pos after)) (hz : ∀ w, (zeroValue el).run P w = .ok z w) {h cap : Nat} {buf : List Value} {v : Value}
    (ht : tm[t]? = some (.nv (.one (.chn h)))) (hx : tm[x]? = some (.nv (.one (.val v)))) (hh : mem[h]? = some (.chan cap buf false)) (hfull : cap ≤ buf.length)
    (hrun : runOps P Γ ops (ops.toList.drop 1) ⟨tm.set d (.tup [.one (.val (.int .i64 (-1))), .one (.val (.bool false))]), mem⟩ [] = some (st2, obl, [])) (ho : AllT obl) :
    CodeOkN P m0 (.region id ops false) ⟨tm, mem⟩ .normal st2 := by
  refine CodeOkN.select (o := selS d t x el ty pos after) (sv := .tup [.one (.val (.int .i64 (-1))), .one (.val (.bool false))]) hΓ h0 rfl rfl ?_ hrun ho
  intro cx env a w hm0 hk
  obtain ⟨b, s, r, h1, h2, h3⟩ := chan_at hk ht hh
  have hv : a.eval (.tmp x) = v := by
    obtain ⟨u, hu, hr⟩ := hk.tm.get hx
    have hr : u = v := hr
    subst hr
    show a.tmps.getD x undef = _
    rw [Array.getD_eq_getD_getElem?]
    have : a.tmps[x]? = some u := by simpa using hu
    rw [this]; rfl
  refine ⟨#[scase b v z], .tuple #[.int .i64 (-1), .bool false], w, ?_, ?_, ⟨_, rfl, rfl, rfl, trivial⟩, hk.mem⟩
  · simp [execOp, h2, hz, hv, scase]
  · intro fr cs es hst
    have := step_lone_sel_default hst (fun cc hc => by
      simp at hc
      subst hc
      exact noWay_send h3 (by simpa using hfull))
    simpa [commResult, scase, goInt] using this
end
end E
end Go.Proofs.Ytajdkbgbekdbmaa

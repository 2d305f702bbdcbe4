/- Things of many parts, in a symbolic run: opened, shut, and code between. No condition. -/
import Derived.Test.YtajdkbgbekdbmaaED
namespace Go.Proofs.Ytajdkbgbekdbmaa
set_option linter.unusedVariables false
set_option linter.unusedSimpArgs false
namespace E
open Go.RowKit
def dropAll (mem : List Seg) : List Nat → List Seg
  | [] => mem
  | j :: H => dropAll (mem.set j .gone) H
theorem dropAll_len : ∀ (H : List Nat) (mem : List Seg), (dropAll mem H).length = mem.length
  | [], _ => rfl
  | j :: H, mem => by rw [dropAll, dropAll_len H]; simp
theorem dropAll_get : ∀ (H : List Nat) (mem : List Seg) (j : Nat) (s : Seg), (dropAll mem H)[j]? = some s → s = .gone ∨ j ∉ H ∧ mem[j]? = some s
  | [], mem, j, s, h => .inr ⟨by simp, h⟩
  | k :: H, mem, j, s, h => by
    rcases dropAll_get H _ j s h with q | ⟨q1, q2⟩
    · exact .inl q
    · by_cases e : j = k
      · subst e
        by_cases hl : j < mem.length
        · rw [List.getElem?_set_self hl] at q2; exact .inl (Option.some.inj q2).symm
        · rw [List.getElem?_eq_none (by simp; omega)] at q2; cases q2
      · rw [List.getElem?_set_ne (Ne.symm e)] at q2
        exact .inr ⟨by simp [e, q1], q2⟩
def extE (env : Env) (m : Nat) (vals : List Value) : Env := fun j => if j < m then env j else vals[j - m]?
theorem extE_lt {env : Env} {m : Nat} {vals : List Value} {j : Nat} (h : j < m) : extE env m vals j = env j := if_pos h
theorem extE_ge {env : Env} {m : Nat} {vals : List Value} (i : Nat) : extE env m vals (m + i) = vals[i]? := by
  unfold extE; rw [if_neg (by omega), Nat.add_sub_cancel_left]
theorem blk_some {env : Env} {j : Nat} {v : Value} (h : env j = some v) (b : Nat) : blk env j b ↔ b ∈ blksOf v := by simp only [blk, h]
theorem le_extE {env : Env} {m : Nat} {vals : List Value} (ht : ∀ j, m ≤ j → env j = none) : env.le (extE env m vals) := fun j v hv => by
  rcases Nat.lt_or_ge j m with q | q
  · rw [extE_lt q]; exact hv
  · rw [ht j q] at hv; cases hv
/-- Some handles' memory is told in another way. -/
theorem MemOk.recast {env : Env} {mem : List Seg} {w0 w : World} {S : Nat → Prop} (h : MemOk env mem w0 w S) (H : List Nat) (vals : List Value) (news : List Seg) (hlen : vals.length = news.length)
    (hok : ∀ (i : Nat) s, news[i]? = some s → SegOk (extE env mem.length vals) w (mem.length + i) s)
    (hsub : ∀ (i : Nat) s v b, news[i]? = some s → vals[i]? = some v → b ∈ blksOf v → ∃ j t, j ∈ H ∧ mem[j]? = some t ∧ blk env j b ∧ (s.excl = true → t.excl = true) ∧ t.live)
    (hdis : ∀ (i i' : Nat) s s' v v' b, news[i]? = some s → news[i']? = some s' → vals[i]? = some v → vals[i']? = some v' → i ≠ i' → s.excl = true → s'.live → b ∈ blksOf v → b ∈ blksOf v' → False) :
    MemOk (extE env mem.length vals) (dropAll mem H ++ news) w0 w S := by
  have hdl := dropAll_len H mem
  have get : ∀ (j : Nat) s, (dropAll mem H ++ news)[j]? = some s → s = .gone ∨ (j < mem.length ∧ j ∉ H ∧ mem[j]? = some s) ∨ ∃ i, j = mem.length + i ∧ news[i]? = some s := by
    intro j s hj
    rcases Nat.lt_or_ge j mem.length with q | q
    · rw [List.getElem?_append_left (by omega)] at hj
      rcases dropAll_get H mem j s hj with q' | ⟨q1, q2⟩
      · exact .inl q'
      · exact .inr (.inl ⟨q, q1, q2⟩)
    · rw [List.getElem?_append_right (by omega), hdl] at hj
      exact .inr (.inr ⟨j - mem.length, by omega, hj⟩)
  have bold : ∀ j b, j < mem.length → blk (extE env mem.length vals) j b → blk env j b := fun j b hj hb => by rwa [blk_congr (extE_lt hj)] at hb
  have bnew : ∀ i b, blk (extE env mem.length vals) (mem.length + i) b → ∃ v, vals[i]? = some v ∧ b ∈ blksOf v := fun i b hb => by
    simp only [blk, extE_ge] at hb
    cases e : vals[i]? with
    | none => rw [e] at hb; exact hb.elim
    | some v => rw [e] at hb; exact ⟨v, rfl, hb⟩
  refine ⟨fun j s hj => ?_, fun j hj => ?_, fun j k s t b hj hk hne hx hl hb hb' => ?_, fun j s b hj hx hb => ?_, h.os, h.tape, h.output, h.grow, h.frame⟩
  · rcases get j s hj with rfl | ⟨_, _, q⟩ | ⟨i, rfl, q⟩
    · trivial
    · exact (h.ok j s q).le (le_extE h.top)
    · exact hok i s q
  · simp [hdl] at hj
    unfold extE
    rw [if_neg (by omega), List.getElem?_eq_none (by omega)]
  · rcases get j s hj with rfl | ⟨q1, q2, q3⟩ | ⟨i, rfl, q⟩
    · cases hx
    · rcases get k t hk with rfl | ⟨p1, p2, p3⟩ | ⟨i', rfl, p⟩
      · exact hl
      · exact h.sep j k s t b q3 p3 hne hx hl (bold j b q1 hb) (bold k b p1 hb')
      · obtain ⟨v, hv, hbv⟩ := bnew i' b hb'
        obtain ⟨j', t', c1, c2, c3, c4, c5⟩ := hsub i' t v b p hv hbv
        exact h.sep j j' s t' b q3 c2 (fun e => q2 (e ▸ c1)) hx c5 (bold j b q1 hb) c3
    · obtain ⟨v, hv, hbv⟩ := bnew i b hb
      obtain ⟨j', t', c1, c2, c3, c4, c5⟩ := hsub i s v b q hv hbv
      rcases get k t hk with rfl | ⟨p1, p2, p3⟩ | ⟨i', rfl, p⟩
      · exact hl
      · exact h.sep j' k t' t b c2 p3 (fun e => p2 (e ▸ c1)) (c4 hx) hl c3 (bold k b p1 hb')
      · obtain ⟨v', hv', hbv'⟩ := bnew i' b hb'
        exact hdis i i' s t v v' b q p hv hv' (by omega) hx hl hbv hbv'
  · rcases get j s hj with rfl | ⟨q1, q2, q3⟩ | ⟨i, rfl, q⟩
    · cases hx
    · exact h.own j s b q3 hx (bold j b q1 hb)
    · obtain ⟨v, hv, hbv⟩ := bnew i b hb
      obtain ⟨j', t', c1, c2, c3, c4, c5⟩ := hsub i s v b q hv hbv
      exact h.own j' t' b c2 (c4 hx) c3
/-! one state is told in another way -/
def Tran (m0 : Nat) (st st' : St) : Prop := ∀ (cx : Cx) (env : Env) (a : Act) (w : World), cx.m0 = m0 → Ok cx env st a w → ∃ env', Ok cx env' st' a w
def TranE {β : Type} (m0 : Nat) (st : St) (st' : β → St) : Prop := ∀ (cx : Cx) (env : Env) (a : Act) (w : World), cx.m0 = m0 → Ok cx env st a w → ∃ y env', Ok cx env' (st' y) a w
theorem Tran.le {m0 : Nat} {x y : St} (h : AllT (leSt m0 x y)) (hm : m0 ≤ y.mem.length) : Tran m0 x y := fun cx env a w hm0 hk => ⟨_, leSt_sound (by rw [hm0]; exact h) (by rw [hm0]; exact hm) hk⟩
theorem Tran.trans {m0 : Nat} {x y z : St} (h : Tran m0 x y) (k : Tran m0 y z) : Tran m0 x z := fun cx env a w hm0 hk => by
  obtain ⟨e1, h1⟩ := h cx env a w hm0 hk
  exact k cx e1 a w hm0 h1
section
variable {P : Program} {m0 : Nat} {c : Code} {st st1 st2 : St} {e : Ex}
theorem CodeOk.pre (h : Tran m0 st st1) (k : CodeOk P m0 c st1 e st2) : CodeOk P m0 c st e st2 := fun cx env a w hm0 hk => by
  obtain ⟨e1, h1⟩ := h cx env a w hm0 hk
  exact k cx e1 a w hm0 h1
theorem CodeOk.preE {β : Type} {s1 : β → St} (h : TranE m0 st s1) (k : ∀ y, CodeOk P m0 c (s1 y) e st2) : CodeOk P m0 c st e st2 := fun cx env a w hm0 hk => by
  obtain ⟨y, e1, h1⟩ := h cx env a w hm0 hk
  exact k y cx e1 a w hm0 h1
theorem CodeOk.post (k : CodeOk P m0 c st e st1) (h : Tran m0 st1 st2) : CodeOk P m0 c st e st2 := fun cx env a w hm0 hk => by
  refine wp_mono (k cx env a w hm0 hk) ?_
  rintro e' a' w' ⟨rfl, env', hk'⟩
  obtain ⟨e1, h1⟩ := h cx env' a' w' hm0 hk'
  exact ⟨rfl, e1, h1⟩
theorem CodeOk.seq {y : Code} (h : CodeOk P m0 c st .normal st1) (k : CodeOk P m0 y st1 e st2) : CodeOk P m0 (.seq c y) st e st2 := fun cx env a w hm0 hk => by
  refine wp_seq (wp_mono (h cx env a w hm0 hk) ?_)
  rintro e' a' w' ⟨rfl, env', hk'⟩
  exact k cx env' a' w' hm0 hk'
theorem CodeOk.seqX {y : Code} (hne : e ≠ .normal) (h : CodeOk P m0 c st e st1) : CodeOk P m0 (.seq c y) st e st1 := fun cx env a w hm0 hk => by
  refine wp_seq (wp_mono (h cx env a w hm0 hk) ?_)
  rintro e' a' w' ⟨rfl, env', hk'⟩
  cases e with
  | normal => exact (hne rfl).elim
  | exit id => exact ⟨rfl, env', hk'⟩
  | ret => exact ⟨rfl, env', hk'⟩
theorem CodeOk.cond {x y : Code} {o : Operand} {t : Bool} (hc : get st.tm o = bA t ∨ get st.tm o = .nv (.one (.bit t))) (h : CodeOk P m0 (if t then x else y) st e st1) : CodeOk P m0 (.cond o x y) st e st1 := fun cx env a w hm0 hk => by
  have hv : a.eval o = .bool t := by
    have := get_rel hk.tm o
    rcases hc with q | q
    · rw [q] at this; exact this
    · rw [q] at this; exact this
  exact wp_cond hv (h cx env a w hm0 hk)
theorem CodeOk.block {id : Nat} (h : CodeOk P m0 c st e st1) (hne : e ≠ .exit id) : CodeOk P m0 (.block id c) st e st1 := fun cx env a w hm0 hk => by
  refine wp_block (wp_mono (h cx env a w hm0 hk) ?_)
  rintro e' a' w' ⟨rfl, env', hk'⟩
  cases e with
  | normal => exact ⟨rfl, env', hk'⟩
  | ret => exact ⟨rfl, env', hk'⟩
  | exit j =>
    have : j ≠ id := fun q => hne (by rw [q])
    simp only [Exit.inBlock, Ex.to, if_neg this]
    exact ⟨trivial, env', hk'⟩
theorem CodeOk.blockX {id : Nat} (h : CodeOk P m0 c st (.exit id) st1) : CodeOk P m0 (.block id c) st .normal st1 := fun cx env a w hm0 hk => by
  refine wp_block (wp_mono (h cx env a w hm0 hk) ?_)
  rintro e' a' w' ⟨rfl, env', hk'⟩
  simp only [Exit.inBlock, Ex.to, if_true]
  exact ⟨trivial, env', hk'⟩
/-- A function, from its code. -/
theorem fn_of_code {f : FuncId} {fn : Func} (hf : P.funcs[f]? = some fn) (hb : fn.body = some c) {args : List SV} {mem : List Seg} {tm : List SV} (htm : args ++ List.replicate (fn.ntmps - args.length) .any = tm) (hc : CodeOk P m0 c ⟨tm, mem⟩ e st2) (he : e = .ret ∨ e = .normal)
    {r : SV} {o : List Prop} (hres : evResults P st2 fn.results.toList = some (r, o)) (ho : AllT o) (hm0 : mem.length = m0 := by rfl) : FnOk P f args mem r st2.mem := by
  intro env w0 w S vals hv hm
  subst htm
  subst hm0
  have hk : Ok ⟨w0, S, mem.length, env⟩ env ⟨args ++ List.replicate (fn.ntmps - args.length) .any, mem⟩ { tmps := vals.toArray ++ Array.replicate (fn.ntmps - vals.toArray.size) undef, defers := [] } w := by
    refine ⟨rfl, ?_, hm, Nat.le_refl _, fun h hh => .inr rfl⟩
    have hlen := hv.length
    have : (vals.toArray ++ Array.replicate (fn.ntmps - vals.toArray.size) undef).toList = vals ++ List.replicate (fn.ntmps - args.length) undef := by simp [hlen]
    rw [this]
    refine hv.append ?_
    have := AllSV.anys (env := env) (List.replicate (fn.ntmps - args.length) undef)
    simpa using this
  refine calls_of_wp hf hb (wp_mono (hc _ env _ w rfl hk) ?_)
  rintro e' a' w' ⟨rfl, env', hk'⟩
  obtain ⟨v, h1, u, env'', h2 | ⟨h, h3, h4⟩⟩ := fn_end (f := f) hres ho hk'
  · rcases he with rfl | rfl
    · exact ⟨hk'.defers, v, h1, u, env'', h2⟩
    · exact ⟨hk'.defers, v, h1, u, env'', h2⟩
  · exact (h4 (hm.top h h3)).elim
end
theorem CodeOk.skip {P : Program} {m0 : Nat} {st : St} : CodeOk P m0 .skip st .normal st := fun cx env a w _ hk => wp_skip ⟨rfl, env, hk⟩
/-- Code between, with more handles held than those of the callee. -/
theorem CodeOk.rebase {P : Program} {m0 m1 : Nat} {c : Code} {st st1 st2 st3 : St} {e : Ex} {Q : Env → Prop}
    (h : ∀ (cx : Cx) (env : Env) (a : Act) (w : World), cx.m0 = m0 → Ok cx env st a w → ∃ env1, Q env1 ∧ Ok cx env1 st1 a w) (hm : m0 ≤ m1) (hl : m1 ≤ st1.mem.length) (k : CodeOk P m1 c st1 e st2)
    (h3 : ∀ (cx : Cx) (env1 env2 : Env) (a : Act) (w : World), cx.m0 = m0 → Q env1 → (∀ j, j < m1 → env2 j = none ∨ env2 j = env1 j) → Ok cx env2 st2 a w → ∃ env3, Ok cx env3 st3 a w) : CodeOk P m0 c st e st3 := fun cx env a w hm0 hk => by
  obtain ⟨env1, q, k1⟩ := h cx env a w hm0 hk
  have k1' : Ok ⟨cx.w0, cx.S, m1, env1⟩ env1 st1 a w := ⟨k1.defers, k1.tm, k1.mem, hl, fun _ _ => .inr rfl⟩
  refine wp_mono (k ⟨cx.w0, cx.S, m1, env1⟩ env1 a w rfl k1') ?_
  rintro e' a' w' ⟨rfl, env', hk'⟩
  have hfix : ∀ j, j < m1 → env' j = none ∨ env' j = env1 j := hk'.fix
  have hlong : m1 ≤ st2.mem.length := hk'.long
  have k2 : Ok cx env' st2 a' w' := ⟨hk'.defers, hk'.tm, hk'.mem, by rw [hm0]; exact Nat.le_trans hm hlong, fun j hj => by
    rw [hm0] at hj
    rcases hfix j (Nat.lt_of_lt_of_le hj hm) with q | q
    · exact .inl q
    · rcases k1.fix j (by rw [hm0]; exact hj) with r | r
      · exact .inl (by rw [q]; exact r)
      · exact .inr (by rw [q]; exact r)⟩
  obtain ⟨env3, k3⟩ := h3 cx env1 env' a' w' hm0 q hfix k2
  exact ⟨rfl, env3, k3⟩
theorem CodeOk.down {P : Program} {m0 m1 : Nat} {c : Code} {st st2 : St} {e : Ex} (k : CodeOk P m1 c st e st2) (hm : m0 ≤ m1) (hl : m1 ≤ st.mem.length) : CodeOk P m0 c st e st2 :=
  CodeOk.rebase (Q := fun _ => True) (fun cx env a w _ hk => ⟨env, trivial, hk⟩) hm hl k (fun cx env1 env2 a w _ _ _ hk => ⟨env2, hk⟩)
end E
end Go.Proofs.Ytajdkbgbekdbmaa

/- A symbolic run of Go code: rows of operations, code, calls. No condition. -/
import Derived.Test.YtlmeemilikladaaE6
namespace Go.Proofs.Ytlmeemilikladaa
set_option linter.unusedVariables false
set_option linter.unusedSimpArgs false
namespace E
open Go.RowKit

structure St where
  tm : List SV
  mem : List Seg

/-- The world in which a function began, what it may write of it, and its first handles. -/
structure Cx where
  w0 : World
  S : Nat → Prop
  m0 : Nat
  fix : Env

/-- What a state says of a frame and of a world. -/
structure Ok (cx : Cx) (env : Env) (st : St) (a : Act) (w : World) : Prop where
  defers : a.defers = []
  tm : AllSV env st.tm a.tmps.toList
  mem : MemOk env st.mem cx.w0 w cx.S
  long : cx.m0 ≤ st.mem.length
  fix : ∀ h, h < cx.m0 → env h = none ∨ env h = cx.fix h

/-! specifications of functions -/
abbrev Spec := List SV → List Seg → Option (SV × List Seg × List Prop)
def SpecOk (P : Program) (f : FuncId) (sp : Spec) : Prop :=
  ∀ args mem r mem' obl, sp args mem = some (r, mem', obl) → AllT obl → ∀ (env : Env) (w0 w : World) (S : Nat → Prop) (vals : List Value), AllSV env args vals → MemOk env mem w0 w S →
    Calls P f vals.toArray w fun e w' => ∃ v env', e = .returned v ∧ env.le env' ∧ (∀ h, h < mem.length → env' h = env h) ∧ mem.length ≤ mem'.length ∧ r.rel env' v ∧ MemOk env' mem' w0 w' S
def MemLe (m m' : List Seg) : Prop := ∀ (h : Nat) (s : Seg), m[h]? = some s → s = Seg.gone ∨ m'[h]? = some s
/-- A function that reads at most. -/
def RdOk (P : Program) (f : FuncId) (sp : List SV → List Seg → Option (SV × List Prop)) : Prop :=
  (∀ args mem mem' x, MemLe mem mem' → sp args mem = some x → sp args mem' = some x) ∧
  ∀ args mem r obl, sp args mem = some (r, obl) → AllT obl → ∀ (env : Env) (w0 w : World) (S : Nat → Prop) (vals : List Value), AllSV env args vals → MemOk env mem w0 w S →
    Calls P f vals.toArray w fun e w' => ∃ v, e = .returned v ∧ r.rel env v ∧ Ext w w'
inductive Sp where
  | rd (f : List SV → List Seg → Option (SV × List Prop))
  | wr (f : Spec)
def SpOk (P : Program) (f : FuncId) : Sp → Prop
  | .rd g => RdOk P f g
  | .wr g => SpecOk P f g
def Sp.run : Sp → Spec
  | .rd g => fun args mem => match g args mem with
    | some (r, obl) => some (r, mem, obl)
    | none => none
  | .wr g => g
theorem SpOk.spec {P : Program} {f : FuncId} {sp : Sp} (h : SpOk P f sp) : SpecOk P f sp.run := by
  cases sp with
  | wr g => exact h
  | rd g =>
    intro args mem r mem' obl hs ho env w0 w S vals hv hm
    simp only [Sp.run] at hs
    split at hs
    · rename_i r' obl' hg
      simp only [Option.some.injEq, Prod.mk.injEq] at hs
      obtain ⟨rfl, rfl, rfl⟩ := hs
      refine (h.2 _ _ _ _ hg ho env w0 w S vals hv hm).mono ?_
      rintro e w' ⟨v, rfl, h4, h5⟩
      exact ⟨v, env, rfl, Env.le_refl _, fun _ _ => rfl, Nat.le_refl _, h4, hm.trans h5⟩
    · cases hs
def EnterOk (P : Program) (f : FuncId) : Prop := ∃ fn, P.funcs[f]? = some fn ∧ (fn.name == "runtime.NumGoroutine") = false ∧ fn.body.isNone = false
/-- A function that the machine stands in for, and that reads no memory. -/
def ExtOk (P : Program) (f : FuncId) (sp : Sp) : Prop := ∃ g : List SV → Option (SV × List Prop), sp = .rd (fun args _ => g args) ∧
  ∀ args r obl, g args = some (r, obl) → AllT obl → ∀ (env : Env) (vals : List Value), AllSV env args vals → ∀ w, ∃ v, (callFunc f vals.toArray).run P w = .ok (.value v) w ∧ r.rel env v
def CtxOk (P : Program) (Γ : List (FuncId × Sp)) : Prop := ∀ f sp, Γ.lookup f = some sp → (EnterOk P f ∧ SpOk P f sp) ∨ ExtOk P f sp

/-! tests -/
def decide? (tm : List SV) (orc : List Bool) : Operand → Option (Bool × List SV × List Prop × List Bool)
  | .tmp t => match tm.getD t .any with
    | .nv (.one (.bit b)) => some (b, tm, [], orc)
    | .nv (.one (.val (.bool b))) => match orc with
      | c :: orc => some (c, tm.set t (.nv (.one (.bit c))), [b = c], orc)
      | [] => none
    | _ => none
  | .const (.bool b) => some (b, tm, [], orc)
  | _ => none
theorem getD_tmps {env : Env} {tm : List SV} {a : Act} (h : AllSV env tm a.tmps.toList) (t : Nat) : (tm.getD t .any).rel env (a.tmps.getD t undef) := get_rel h (.tmp t)
theorem decide?_sound {env : Env} {tm tm' : List SV} {orc orc' : List Bool} {x : Operand} {c : Bool} {obl : List Prop} {a : Act} (h : decide? tm orc x = some (c, tm', obl, orc')) (ho : AllT obl) (ht : AllSV env tm a.tmps.toList) :
    a.eval x = .bool c ∧ AllSV env tm' a.tmps.toList := by
  unfold decide? at h
  split at h
  · rename_i t
    split at h
    · rename_i b hb
      simp only [Option.some.injEq, Prod.mk.injEq] at h
      obtain ⟨rfl, rfl, rfl, rfl⟩ := h
      have := getD_tmps ht t
      rw [hb] at this
      exact ⟨this, ht⟩
    · rename_i b hb
      split at h
      · rename_i c' orc'' 
        simp only [Option.some.injEq, Prod.mk.injEq] at h
        obtain ⟨rfl, rfl, rfl, rfl⟩ := h
        simp only [AllT, and_true] at ho
        subst ho
        have hv := getD_tmps ht t
        rw [hb] at hv
        have hv' : a.tmps.getD t undef = .bool b := hv
        refine ⟨hv', ?_⟩
        have hlt : t < a.tmps.size := by
          rcases Nat.lt_or_ge t a.tmps.size with k | k
          · exact k
          · rw [Array.getD_eq_getD_getElem?, Array.getElem?_eq_none k] at hv'
            cases hv'
        have hself : a.tmps.toList.set t (.bool b) = a.tmps.toList := by
          have : a.tmps.toList[t]'(by simpa using hlt) = .bool b := by
            rw [Array.getD_eq_getD_getElem?, Array.getElem?_eq_getElem hlt] at hv'
            exact hv'
          rw [← this, List.set_getElem_self]
        have := ht.set t (a := .nv (.one (.bit b))) (v := .bool b) rfl
        rwa [hself] at this
      · cases h
    · cases h
  · simp only [Option.some.injEq, Prod.mk.injEq] at h
    obtain ⟨rfl, rfl, rfl, rfl⟩ := h
    exact ⟨rfl, ht⟩
  · cases h

def norm : SV → SV
  | .nv (.one (.bit b)) => .nv (.one (.val (.bool b)))
  | x => x
theorem norm_rel {env : Env} {x : SV} {v : Value} (h : x.rel env v) : (norm x).rel env v := by
  unfold norm; split <;> exact h
theorem norms_rel {env : Env} {ρ : Operand → Value} {tm : List SV} : ∀ {l : List Operand}, (∀ x, (get tm x).rel env (ρ x)) → AllSV env (l.map fun x => norm (get tm x)) (l.map ρ)
  | [], _ => trivial
  | x :: l, h => ⟨norm_rel (h x), norms_rel h⟩
theorem gets_rel {env : Env} {ρ : Operand → Value} {tm : List SV} : ∀ {l : List Operand}, (∀ x, (get tm x).rel env (ρ x)) → AllSV env (l.map (get tm)) (l.map ρ)
  | [], _ => trivial
  | x :: l, h => ⟨h x, gets_rel h⟩

structure Res where
  v : SV
  st : St
  obl : List Prop
  orc : List Bool

/-- One operation that runs. -/
def stepOp (P : Program) (Γ : List (FuncId × Sp)) (op : Op) (st : St) (orc : List Bool) : Option Res :=
  match op with
  | .pick c x y => match decide? st.tm orc c with
    | some (b, tm, obl, orc) => match get tm (if b then x else y) with
      | .nv r => some ⟨.nv r, ⟨tm, st.mem⟩, obl, orc⟩
      | _ => none
    | none => none
  | .call { callee := .value (.func f), args, argTypes := _ } => match Γ.lookup f with
    | some sp => match sp.run (args.toList.map fun x => norm (get st.tm x)) st.mem with
      | some (r, mem, obl) => some ⟨r, ⟨st.tm, mem⟩, obl, orc⟩
      | none => none
    | none => none
  | op => match evalCore P op (op.operands.toList.map (get st.tm)) (st.mem ++ [.gone]) st.mem.length with
    | some (r, eff, obl) => some ⟨r, ⟨st.tm, if eff.makes then eff.apply st.mem.length (st.mem ++ [.gone]) else eff.apply st.mem.length st.mem⟩, obl, orc⟩
    | none => none

def put (tm : List SV) (d : Option Tmp) (x : SV) : List SV := match d with | some d => tm.set d x | none => tm
theorem put_rel {env : Env} {tm : List SV} {a : Act} {x : SV} {v : Value} (h : AllSV env tm a.tmps.toList) (hx : x.rel env v) (d : Option Tmp) : AllSV env (put tm d x) (a.put d v).tmps.toList := by
  cases d with
  | none => exact h
  | some d =>
    show AllSV env (tm.set d x) (a.tmps.setIfInBounds d v).toList
    rw [Array.toList_setIfInBounds]
    exact h.set d hx

def isUndef : SV → Bool
  | .tup [] => true
  | _ => false
theorem isUndef_rel {env : Env} {x : SV} {v : Value} (h : isUndef x = true) (k : x.rel env v) : v = undef := by
  unfold isUndef at h
  split at h
  · obtain ⟨vs, rfl, k⟩ := k
    have : vs = #[] := by
      cases hl : vs.toList with
      | nil => apply Array.ext'; rw [hl]
      | cons a l => rw [hl] at k; exact k.elim
    subst this; rfl
  · cases h
theorem undef_rel (env : Env) : (SV.tup []).rel env undef := ⟨#[], rfl, trivial⟩

def runOps (P : Program) (Γ : List (FuncId × Sp)) (ops : Array Oper) : List Oper → St → List Bool → Option (St × List Prop × List Bool)
  | [], st, orc => some (st, [], orc)
  | o :: rest, st, orc =>
    match o.guard with
    | none => match stepOp P Γ o.op st orc with
      | some r => match runOps P Γ ops rest ⟨put r.st.tm o.dst r.v, r.st.mem⟩ r.orc with
        | some (st, obl, orc) => some (st, r.obl ++ obl, orc)
        | none => none
      | none => none
    | some (j, want) => match (ops[j]?).bind (·.dst) with
      | some d => if isUndef (st.tm.getD d .any) then match runOps P Γ ops rest ⟨put st.tm o.dst (.tup []), st.mem⟩ orc with
          | some (st, obl, orc) => some (st, obl, orc)
          | none => none
        else match decide? st.tm orc (.tmp d) with
        | some (c, tm, obl0, orc) =>
          if c == want then match stepOp P Γ o.op ⟨tm, st.mem⟩ orc with
            | some r => match runOps P Γ ops rest ⟨put r.st.tm o.dst r.v, r.st.mem⟩ r.orc with
              | some (st, obl, orc) => some (st, obl0 ++ (r.obl ++ obl), orc)
              | none => none
            | none => none
          else match runOps P Γ ops rest ⟨put tm o.dst (.tup []), st.mem⟩ orc with
            | some (st, obl, orc) => some (st, obl0 ++ obl, orc)
            | none => none
        | none => none
      | none => none

section
variable {P : Program} {Γ : List (FuncId × Sp)} {env : Env} {w0 w : World} {S : Nat → Prop} {cx : Cx}

theorem wp_of_yield {o : Oper} {a : Act} {K : Act → World → Prop} {Q : Exit → Act → World → Prop} {u : Value} {w' : World} (h : Yield P a.eval o w u w') (k : K (a.put o.dst u) w') : o.wp P a w K Q := by
  unfold Oper.wp
  rcases h with h | ⟨h, rfl⟩
  · rw [h]; exact k
  · rw [h]; exact k

theorem MemOk.unpad {mem : List Seg} (h : MemOk env (mem ++ [.gone]) w0 w S) (hn : env mem.length = none) : MemOk env mem w0 w S := by
  have get : ∀ (m : Nat) (t : Seg), mem[m]? = some t → (mem ++ [Seg.gone])[m]? = some t := fun m t hm => by
    rw [List.getElem?_append_left (List.getElem?_eq_some_iff.1 hm).1]; exact hm
  refine ⟨fun m t hm => h.ok m t (get m t hm), fun m hm => ?_, fun m k s t b hm hk => h.sep m k s t b (get m s hm) (get k t hk), fun m s b hm => h.own m s b (get m s hm), h.os, h.tape, h.output, h.grow, h.frame⟩
  by_cases e : m = mem.length
  · subst e; exact hn
  · exact h.top m (by simp; omega)

theorem callFunc_run {f : FuncId} (he : EnterOk P f) (args : Array Value) (w : World) : (callFunc f args).run P w = .ok (.enter f args) w := by
  obtain ⟨fn, h1, h2, h3⟩ := he
  unfold callFunc
  simp only [Sem.run_bind, run_program, Result.andThen_ok, h1, h2, h3, Bool.false_eq_true, if_false, Sem.run_pure]

theorem stepOp_sound (hΓ : CtxOk P Γ) {o : Oper} {st : St} {orc : List Bool} {r : Res} {a : Act} (h : stepOp P Γ o.op st orc = some r) (ho : AllT r.obl) (hk : Ok cx env st a w)
    {K : Act → World → Prop} {Q : Exit → Act → World → Prop} (hK : ∀ env' a' w', env.le env' → Ok cx env' ⟨put r.st.tm o.dst r.v, r.st.mem⟩ a' w' → K a' w') : o.wp P a w K Q := by
  obtain ⟨dst, op, type, pos, after, guard⟩ := o
  simp only at h hK
  unfold stepOp at h
  split at h
  · -- pick
    rename_i c x y
    split at h
    · rename_i b tm obl orc' hd
      split at h
      · rename_i r' hr
        simp only [Option.some.injEq] at h; subst h
        obtain ⟨h1, h2⟩ := decide?_sound hd ho hk.tm
        refine wp_of_yield (u := a.eval (if b then x else y)) (w' := w) (.inl ?_) (hK env _ w (Env.le_refl _) ⟨by cases dst <;> exact hk.defers, put_rel h2 (by rw [← hr]; exact get_rel h2 _) dst, hk.mem, hk.long, hk.fix⟩)
        simp only [execOp, h1, asBool, Sem.run_bind, Sem.run_pure, Result.andThen_ok]
        cases b <;> rfl
      · cases h
    · cases h
  · -- call
    rename_i f args ts
    split at h
    · rename_i sp hl
      split at h
      · rename_i r' mem obl hs
        simp only [Option.some.injEq] at h; subst h
        have e0 : (#[] ++ args.map a.eval ++ #[]) = (args.toList.map a.eval).toArray := by
          apply Array.ext'; simp
        have hargs : AllSV env (args.toList.map fun x => norm (get st.tm x)) (args.toList.map a.eval) := norms_rel (fun x => get_rel hk.tm x)
        rcases hΓ f sp hl with ⟨he, hsp⟩ | ⟨g, rfl, hx⟩
        case inr =>
          simp only [Sp.run] at hs
          split at hs
          · rename_i r0 obl0 hg
            simp only [Option.some.injEq, Prod.mk.injEq] at hs
            obtain ⟨rfl, rfl, rfl⟩ := hs
            obtain ⟨v, h1, h2⟩ := hx _ _ _ hg ho env _ hargs w
            refine wp_of_yield (u := v) (w' := w) (.inl ?_) (hK env _ w (Env.le_refl _) ⟨by cases dst <;> exact hk.defers, put_rel hk.tm h2 dst, hk.mem, hk.long, hk.fix⟩)
            show (callFunc f (#[] ++ args.map a.eval ++ #[])).run P w = _
            rw [e0]
            exact h1
          · cases hs
        have hc := hsp.spec _ _ _ _ _ hs ho env cx.w0 w cx.S _ hargs hk.mem
        unfold Oper.wp
        have hrun : (execOp a.eval ⟨dst, .call { callee := .value (.func f), args := args, argTypes := ts }, type, pos, after, guard⟩).run P w = .ok (.enter f (args.toList.map a.eval).toArray) w := by
          have e : (#[] ++ args.map a.eval ++ #[]) = (args.toList.map a.eval).toArray := by
            apply Array.ext'; simp
          show (callFunc f (#[] ++ args.map a.eval ++ #[])).run P w = _
          rw [e]
          exact callFunc_run he _ w
        rw [hrun]
        show Calls P f _ w _
        refine hc.mono ?_
        rintro e w' ⟨v, env', rfl, hle, hsame, hlong, hv, hm⟩
        exact hK env' _ w' hle ⟨by cases dst <;> exact hk.defers, put_rel (hk.tm.le hle) hv dst, hm, Nat.le_trans hk.long hlong, fun h hl => by rw [hsame h (Nat.lt_of_lt_of_le hl hk.long)]; exact hk.fix h hl⟩
      · cases h
    · cases h
  · rename_i op' n1 n2
    split at h
    · rename_i r' eff obl hc
      simp only [Option.some.injEq] at h; subst h
      have hx : AllSV env (op.operands.toList.map (get st.tm)) (op.operands.toList.map a.eval) := gets_rel (fun x => get_rel hk.tm x)
      obtain ⟨u, env', w', h1, h2, h3⟩ := core_sound (o := ⟨dst, op, type, pos, after, guard⟩) (ρ := a.eval) hc ho hx hk.mem.pad (by simp) (hk.mem.top _ (Nat.le_refl _))
      have hal : ∀ mm : List Seg, (eff.apply st.mem.length mm).length = mm.length := fun mm => by cases eff <;> simp [Eff.apply]
      refine wp_of_yield h1 (hK env' _ w' h3.le ⟨by cases dst <;> exact hk.defers, put_rel (hk.tm.le h3.le) h2 dst, ?_, ?_, fun h hl => by rw [h3.other h (Nat.ne_of_lt (Nat.lt_of_lt_of_le hl hk.long))]; exact hk.fix h hl⟩)
      case refine_2 =>
        have := hk.long
        simp only
        split
        · rw [hal]; simp; omega
        · rw [hal]; exact hk.long
      simp only
      split
      · exact h3.ok
      · rename_i hmk
        have hmk' : eff.makes = false := by simpa using hmk
        have hsame := h3.same hmk'
        have hok := h3.ok
        have hap : eff.apply st.mem.length (st.mem ++ [Seg.gone]) = eff.apply st.mem.length st.mem ++ [Seg.gone] := by
          cases eff with
          | none => rfl
          | new s => cases hmk'
          | app h s => cases hmk'
          | set h s =>
            show (st.mem ++ [Seg.gone]).set h s = st.mem.set h s ++ [Seg.gone]
            obtain ⟨t, ht, hx'⟩ := h3.wr h s rfl
            have hlt : h < st.mem.length := by
              rcases Nat.lt_or_ge h st.mem.length with k | k
              · exact k
              · exfalso
                rw [List.getElem?_append_right k] at ht
                obtain ⟨hl, e⟩ := List.getElem?_eq_some_iff.1 ht
                simp at hl
                simp [hl] at e
                subst e
                cases hx'
            rw [List.set_append_left _ _ hlt]
        rw [hap] at hok
        refine MemOk.unpad hok ?_
        have hl : (eff.apply st.mem.length st.mem).length = st.mem.length := by
          cases eff <;> simp [Eff.apply]
        rw [hl, hsame]
        exact hk.mem.top _ (Nat.le_refl _)
    · cases h

theorem LetsOut_or {o : Oper} {a : Act} {w : World} {K : Act → World → Prop} {Q : Exit → Act → World → Prop} (h : o.wp P a w K Q) : o.wp P a w K Q ∨ (o.asks P a w ∧ LetsOut Q) := .inl h

theorem runOps_sound (hΓ : CtxOk P Γ) {ops : Array Oper} {Q : Exit → Act → World → Prop} : ∀ (l : List Oper) {st st' : St} {orc orc' : List Bool} {obl : List Prop} {a : Act} {w : World} {env : Env}, runOps P Γ ops l st orc = some (st', obl, orc') → AllT obl → Ok cx env st a w →
    (∀ env' a' w', env.le env' → Ok cx env' st' a' w' → Q .normal a' w') → wpList P ops Q l a w
  | [], st, st', orc, orc', obl, a, w, env, h, ho, hk, hQ => by
    simp only [runOps, Option.some.injEq, Prod.mk.injEq] at h
    obtain ⟨rfl, rfl, rfl⟩ := h
    exact hQ env a w (Env.le_refl _) hk
  | o :: rest, st, st', orc, orc', obl, a, w, env, h, ho, hk, hQ => by
    simp only [runOps] at h
    unfold wpList
    split at h
    · rename_i hg
      rw [if_pos (by simp [Region.wanted, hg])]
      split at h
      · rename_i r hr
        split at h
        · rename_i st1 obl1 orc1 h1
          simp only [Option.some.injEq, Prod.mk.injEq] at h
          obtain ⟨rfl, rfl, rfl⟩ := h
          obtain ⟨o1, o2⟩ := AllT.append.1 ho
          exact .inl (stepOp_sound hΓ hr o1 hk (fun env' a' w' hle hk' => runOps_sound hΓ rest h1 o2 hk' (fun env2 a2 w2 hl2 hk2 => hQ env2 a2 w2 (Env.le_trans hle hl2) hk2)))
        · cases h
      · cases h
    · rename_i j want hg
      split at h
      · rename_i d hd
        split at h
        · rename_i hun
          split at h
          · rename_i st1 obl1 orc1 h1
            simp only [Option.some.injEq, Prod.mk.injEq] at h
            obtain ⟨rfl, rfl, rfl⟩ := h
            have hw : Region.wanted o (yielded ops a.tmps) = false := by
              have hv := isUndef_rel hun (getD_tmps hk.tm d)
              have hy : yielded ops a.tmps j = none := by
                unfold yielded
                rw [hd]
                simp only [Option.bind_some]
                rw [Array.getD_eq_getD_getElem?] at hv
                cases hq : a.tmps[d]? with
                | none => rfl
                | some u => rw [hq] at hv; have hv' : u = undef := hv; subst hv'; rfl
              simp [Region.wanted, hg, hy]
            rw [hw, if_neg (by simp)]
            exact runOps_sound hΓ rest h1 ho ⟨by cases o.dst <;> exact hk.defers, put_rel (x := .tup []) (v := undef) hk.tm (undef_rel env) o.dst, hk.mem, hk.long, hk.fix⟩ hQ
          · cases h
        split at h
        · rename_i c tm obl0 orc0 hdec
          have hwant : AllT obl0 → Region.wanted o (yielded ops a.tmps) = (c == want) ∧ AllSV env tm a.tmps.toList := by
            intro ho0
            obtain ⟨h1, h2⟩ := decide?_sound hdec ho0 hk.tm
            refine ⟨?_, h2⟩
            have hv : a.tmps[d]? = some (.bool c) := by
              have h1' : a.tmps.getD d undef = .bool c := h1
              rw [Array.getD_eq_getD_getElem?] at h1'
              cases hq : a.tmps[d]? with
              | none => rw [hq] at h1'; cases h1'
              | some u => rw [hq] at h1'; exact congrArg some h1'
            simp [Region.wanted, hg, yielded, hd, hv]
          split at h
          · rename_i hc
            split at h
            · rename_i r hr
              split at h
              · rename_i st1 obl1 orc1 h1
                simp only [Option.some.injEq, Prod.mk.injEq] at h
                obtain ⟨rfl, rfl, rfl⟩ := h
                obtain ⟨o0, o12⟩ := AllT.append.1 ho
                obtain ⟨o1, o2⟩ := AllT.append.1 o12
                obtain ⟨hw, htm⟩ := hwant o0
                rw [hw, if_pos hc]
                exact .inl (stepOp_sound hΓ hr o1 ⟨hk.defers, htm, hk.mem, hk.long, hk.fix⟩ (fun env' a' w' hle hk' => runOps_sound hΓ rest h1 o2 hk' (fun env2 a2 w2 hl2 hk2 => hQ env2 a2 w2 (Env.le_trans hle hl2) hk2)))
              · cases h
            · cases h
          · rename_i hc
            split at h
            · rename_i st1 obl1 orc1 h1
              simp only [Option.some.injEq, Prod.mk.injEq] at h
              obtain ⟨rfl, rfl, rfl⟩ := h
              obtain ⟨o0, o1⟩ := AllT.append.1 ho
              obtain ⟨hw, htm⟩ := hwant o0
              rw [hw, if_neg hc]
              exact runOps_sound hΓ rest h1 o1 ⟨by cases o.dst <;> exact hk.defers, put_rel (x := .tup []) (v := undef) htm (undef_rel env) o.dst, hk.mem, hk.long, hk.fix⟩ hQ
            · cases h
        · cases h
      · cases h
end
end E
end Go.Proofs.Ytlmeemilikladaa

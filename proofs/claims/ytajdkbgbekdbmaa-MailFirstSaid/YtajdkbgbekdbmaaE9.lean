/- A symbolic run of Go code: code, loops, functions. No condition. -/
import Derived.Test.YtajdkbgbekdbmaaEH
import Derived.LoopN
import Derived.Deep.LoopGhost
namespace Go.Proofs.Ytajdkbgbekdbmaa
set_option linter.unusedVariables false
set_option linter.unusedSimpArgs false
namespace E
open Go.RowKit

/-! one state says more than another -/
def selfL : Nat → Nat → List (Nat × Bd)
  | 0, _ => []
  | n + 1, h => (h, .same h) :: selfL n (h + 1)
def renOf (m0 : Nat) (x y : St) : List (Nat × Bd) := renL m0 x.tm x.mem y.tm y.mem ++ selfL y.mem.length 0
def leSt (m0 : Nat) (x y : St) : List Prop :=
  let ρ := renOf m0 x y
  if fixB ρ m0 && injB ρ 0 y.mem then leTm ρ y.mem.length x.tm y.tm ++ leMem ρ y.mem.length x.mem 0 y.mem else [False]
def Env.cut (env : Env) (m : Nat) : Env := fun h => if h < m then env h else none
theorem Env.cut_lt {env : Env} {m h : Nat} (k : h < m) : env.cut m h = env h := by simp [Env.cut, k]

section
variable {env : Env}
theorem leSt_sound {cx : Cx} {x y : St} {a : Act} {w : World} (h : AllT (leSt cx.m0 x y)) (hm0 : cx.m0 ≤ y.mem.length) (k : Ok cx env x a w) : Ok cx (env.cutR (renOf cx.m0 x y) y.mem.length) y a w := by
  unfold leSt at h
  simp only at h
  generalize renOf cx.m0 x y = ρ at h ⊢
  split at h
  · rename_i hb
    rw [Bool.and_eq_true] at hb
    obtain ⟨hfix, hinj⟩ := hb
    obtain ⟨h1, h2⟩ := AllT.append.1 h
    exact ⟨k.defers, leTm_sound h1 k.tm, leMem_sound k.mem rfl h2 hinj, hm0, fun c hc => by rw [Env.cutR_lt (fixB_sound hfix c hc) (Nat.lt_of_lt_of_le hc hm0)]; exact k.fix c hc⟩
  · exact h.1.elim
end

/-! code -/
inductive Ex where
  | normal
  | exit (id : Nat)
  | ret
def Ex.to : Ex → Exit
  | .normal => .normal
  | .exit id => .exit id
  | .ret => .ret

/-- What is told of a loop: the state ahead of it, how it ends, and the state behind it. -/
structure LoopSpec where
  pre : St
  ex : Ex
  post : St
/-- Code that begins in a state ends so, in another one. -/
def CodeOk (P : Program) (m0 : Nat) (c : Code) (pre : St) (ex : Ex) (post : St) : Prop :=
  ∀ (cx : Cx) (env : Env) (a : Act) (w : World), cx.m0 = m0 → Ok cx env pre a w →
    c.wp P (fun e a' w' => e = ex.to ∧ ∃ env', Ok cx env' post a' w') a w

structure Orc where
  bits : List Bool
  loops : List LoopSpec

/-- A loop that is run round by round, n times at most. -/
def unroll (n : Nat) : LoopSpec := ⟨⟨[], List.replicate n .gone⟩, .normal, ⟨[], []⟩⟩
def iter (f : St → Orc → Option (Ex × St × List Prop × Orc)) : Nat → St → Orc → Option (Ex × St × List Prop × Orc)
  | 0, _, _ => none
  | n + 1, st, orc => match f st orc with
    | some (.normal, st, obl, orc) => match iter f n st orc with
      | some (e, st, obl', orc) => some (e, st, obl ++ obl', orc)
      | none => none
    | r => r
/-- Runs code; CO: what is to be known of a loop. -/
def execC (CO : Nat → Code → St → Ex → St → Prop) (P : Program) (Γ : List (FuncId × Sp)) (m0 : Nat) : Code → St → Orc → Option (Ex × St × List Prop × Orc)
  | .skip, st, orc => some (.normal, st, [], orc)
  | .region _ ops draw, st, orc => if draw then (if P.follows .mixedOrders then match drawOps P Γ ops.toList st orc.bits with
      | some (st, obl, bits) => some (.normal, st, obl, ⟨bits, orc.loops⟩)
      | none => none
    else none) else match runOps P Γ ops ops.toList st orc.bits with
    | some (st, obl, bits) => some (.normal, st, obl, ⟨bits, orc.loops⟩)
    | none => none
  | .seq x y, st, orc => match execC CO P Γ m0 x st orc with
    | some (.normal, st, obl, orc) => match execC CO P Γ m0 y st orc with
      | some (e, st, obl', orc) => some (e, st, obl ++ obl', orc)
      | none => none
    | r => r
  | .cond c x y, st, orc => match decide? st.tm orc.bits c with
    | some (b, tm, obl, bits) => match (if b then execC CO P Γ m0 x ⟨tm, st.mem⟩ ⟨bits, orc.loops⟩ else execC CO P Γ m0 y ⟨tm, st.mem⟩ ⟨bits, orc.loops⟩) with
      | some (e, st, obl', orc) => some (e, st, obl ++ obl', orc)
      | none => none
    | none => none
  | .block id c, st, orc => match execC CO P Γ m0 c st orc with
    | some (.exit id', st, obl, orc) => some (if id' = id then .normal else .exit id', st, obl, orc)
    | r => r
  | .exit id, st, orc => some (.exit id, st, [], orc)
  | .ret, st, orc => some (.ret, st, [], orc)
  | .label _, st, orc => some (.normal, st, [], orc)
  | .loop body, st, orc => match orc.loops with
    | s :: loops => match s.pre.tm with
      | [] => iter (fun st orc => execC CO P Γ m0 body st orc) s.pre.mem.length st ⟨orc.bits, loops⟩
      | _ :: _ => some (s.ex, s.post, leSt m0 st s.pre ++ [m0 ≤ s.pre.mem.length, CO m0 (.loop body) s.pre s.ex s.post], ⟨orc.bits, loops⟩)
    | [] => none
  | _, _, _ => none

abbrev exec (P : Program) (Γ : List (FuncId × Sp)) (m0 : Nat) : Code → St → Orc → Option (Ex × St × List Prop × Orc) := execC (CodeOk P) P Γ m0

section
variable {P : Program} {Γ : List (FuncId × Sp)}

theorem Env.cut_le {env : Env} {m : Nat} (h : ∀ k, m ≤ k → env k = none) : env.le (env.cut m) := by
  intro k v hk
  by_cases hl : k < m
  · rw [Env.cut_lt hl]; exact hk
  · rw [h k (by omega)] at hk; cases hk

/-- What a run leaves, seen from the state that it began in: handles of that state stay. -/
theorem exec_soundC {CO : Nat → Code → St → Ex → St → Prop} (hΓ : CtxOk P Γ) {m0 : Nat} {cx : Cx} (hm0 : cx.m0 = m0) (hco : ∀ c pre ex post, CO m0 c pre ex post → ∀ env a w, Ok cx env pre a w → c.wp P (fun e a' w' => e = ex.to ∧ ∃ env', Ok cx env' post a' w') a w) : ∀ (c : Code) {st st' : St} {orc orc' : Orc} {e : Ex} {obl : List Prop} {a : Act} {w : World} {env : Env}, execC CO P Γ m0 c st orc = some (e, st', obl, orc') → AllT obl → Ok cx env st a w →
    c.wp P (fun e' a' w' => e' = e.to ∧ ∃ env', Ok cx env' st' a' w') a w := by
  intro c
  induction c with
  | skip =>
    intro st st' orc orc' e obl a w env h ho hk
    simp only [execC, Option.some.injEq, Prod.mk.injEq] at h
    obtain ⟨rfl, rfl, rfl, rfl⟩ := h
    exact wp_skip ⟨rfl, env, hk⟩
  | region id ops draw =>
    intro st st' orc orc' e obl a w env h ho hk
    simp only [execC] at h
    split at h
    · rename_i hd
      subst hd
      split at h
      · rename_i hmo
        split at h
        · rename_i st1 obl1 bits h1
          simp only [Option.some.injEq, Prod.mk.injEq] at h
          obtain ⟨rfl, rfl, rfl, rfl⟩ := h
          have := drawOps_sound (id := id) (Q := fun e' a' w' => e' = Ex.normal.to ∧ ∃ env', Ok cx env' st1 a' w') hΓ hmo h1 ho hk (fun env' a' w' hk' => ⟨rfl, env', hk'⟩)
          rwa [Array.toArray_toList] at this
        · cases h
      · cases h
    · rename_i hd
      split at h
      · rename_i st1 obl1 bits h1
        simp only [Option.some.injEq, Prod.mk.injEq] at h
        obtain ⟨rfl, rfl, rfl, rfl⟩ := h
        have hd' : draw = false := by simpa using hd
        subst hd'
        exact wp_region_list (runOps_sound hΓ ops.toList h1 ho hk (fun env' a' w' _ hk' => ⟨rfl, env', hk'⟩))
      · cases h
  | seq x y ihx ihy =>
    intro st st' orc orc' e obl a w env h ho hk
    simp only [execC] at h
    split at h
    · rename_i st1 obl1 orc1 h1
      split at h
      · rename_i e2 st2 obl2 orc2 h2
        simp only [Option.some.injEq, Prod.mk.injEq] at h
        obtain ⟨rfl, rfl, rfl, rfl⟩ := h
        obtain ⟨o1, o2⟩ := AllT.append.1 ho
        refine wp_seq (wp_mono (ihx h1 o1 hk) ?_)
        rintro e' a' w' ⟨rfl, env', hk'⟩
        exact ihy h2 o2 hk'
      · cases h
    · rename_i hn
      refine wp_seq (wp_mono (ihx h ho hk) ?_)
      rintro e' a' w' ⟨rfl, env', hk'⟩
      cases e with
      | normal => exact (hn _ _ _ h).elim
      | exit id => exact ⟨rfl, env', hk'⟩
      | ret => exact ⟨rfl, env', hk'⟩
  | cond c x y ihx ihy =>
    intro st st' orc orc' e obl a w env h ho hk
    simp only [execC] at h
    split at h
    · rename_i b tm obl0 bits hdec
      split at h
      · rename_i e1 st1 obl1 orc1 h1
        simp only [Option.some.injEq, Prod.mk.injEq] at h
        obtain ⟨rfl, rfl, rfl, rfl⟩ := h
        obtain ⟨o1, o2⟩ := AllT.append.1 ho
        obtain ⟨hb, htm⟩ := decide?_sound hdec o1 hk.tm
        refine wp_cond hb ?_
        cases b with
        | true => exact ihx h1 o2 ⟨hk.defers, htm, hk.mem, hk.long, hk.fix⟩
        | false => exact ihy h1 o2 ⟨hk.defers, htm, hk.mem, hk.long, hk.fix⟩
      · cases h
    · cases h
  | block id c ih =>
    intro st st' orc orc' e obl a w env h ho hk
    simp only [execC] at h
    split at h
    · rename_i id' st1 obl1 orc1 h1
      simp only [Option.some.injEq, Prod.mk.injEq] at h
      obtain ⟨rfl, rfl, rfl, rfl⟩ := h
      refine wp_block (wp_mono (ih h1 ho hk) ?_)
      rintro e' a' w' ⟨rfl, env', hk'⟩
      by_cases hid : id' = id
      · simp only [Exit.inBlock, Ex.to, if_pos hid]
        exact ⟨trivial, env', hk'⟩
      · simp only [Exit.inBlock, Ex.to, if_neg hid]
        exact ⟨trivial, env', hk'⟩
    · rename_i hn
      refine wp_block (wp_mono (ih h ho hk) ?_)
      rintro e' a' w' ⟨rfl, env', hk'⟩
      cases e with
      | normal => exact ⟨rfl, env', hk'⟩
      | exit id => exact (hn _ _ _ _ h).elim
      | ret => exact ⟨rfl, env', hk'⟩
  | exit id =>
    intro st st' orc orc' e obl a w env h ho hk
    simp only [execC, Option.some.injEq, Prod.mk.injEq] at h
    obtain ⟨rfl, rfl, rfl, rfl⟩ := h
    exact wp_exit ⟨rfl, env, hk⟩
  | ret =>
    intro st st' orc orc' e obl a w env h ho hk
    simp only [execC, Option.some.injEq, Prod.mk.injEq] at h
    obtain ⟨rfl, rfl, rfl, rfl⟩ := h
    exact wp_ret ⟨rfl, env, hk⟩
  | label l =>
    intro st st' orc orc' e obl a w env h ho hk
    simp only [execC, Option.some.injEq, Prod.mk.injEq] at h
    obtain ⟨rfl, rfl, rfl, rfl⟩ := h
    exact wp_label ⟨rfl, env, hk⟩
  | loop body ih =>
    intro st st' orc orc' e obl a w env h ho hk
    simp only [execC] at h
    split at h
    · rename_i s loops hs
      split at h
      · have key : ∀ (n : Nat) {st st' : St} {orc orc' : Orc} {e : Ex} {obl : List Prop} {a : Act} {w : World} {env : Env}, iter (fun st orc => execC CO P Γ m0 body st orc) n st orc = some (e, st', obl, orc') → AllT obl → Ok cx env st a w →
            Code.rounds P body (fun e' a' w' => e' = e.to ∧ ∃ env', Ok cx env' st' a' w') n a w := by
          intro n
          induction n with
          | zero => intro st st' orc orc' e obl a w env h; cases h
          | succ n ihn =>
            intro st st' orc orc' e obl a w env h ho hk
            simp only [iter] at h
            split at h
            · rename_i st1 obl1 orc1 h1
              split at h
              · rename_i e2 st2 obl2 orc2 h2
                simp only [Option.some.injEq, Prod.mk.injEq] at h
                obtain ⟨rfl, rfl, rfl, rfl⟩ := h
                obtain ⟨o1, o2⟩ := AllT.append.1 ho
                rw [rounds_succ]
                refine wp_mono (ih h1 o1 hk) ?_
                rintro e' a' w' ⟨rfl, env', hk'⟩
                exact ihn h2 o2 hk'
              · cases h
            · rename_i hn
              rw [rounds_succ]
              refine wp_mono (ih h ho hk) ?_
              rintro e' a' w' ⟨rfl, env', hk'⟩
              cases e with
              | normal => exact (hn _ _ _ h).elim
              | exit id => exact ⟨rfl, env', hk'⟩
              | ret => exact ⟨rfl, env', hk'⟩
        exact wp_loop_rounds _ (key _ h ho hk)
      simp only [Option.some.injEq, Prod.mk.injEq] at h
      obtain ⟨rfl, rfl, rfl, rfl⟩ := h
      obtain ⟨o1, o2⟩ := AllT.append.1 ho
      obtain ⟨o3, o4, _⟩ := o2
      refine wp_mono (hco _ _ _ _ o4 _ a w (leSt_sound (by rw [hm0]; exact o1) (by rw [hm0]; exact o3) hk)) ?_
      rintro e' a' w' ⟨rfl, env', hk'⟩
      exact ⟨rfl, env', hk'⟩
    · cases h
  | _ => intro st st' orc orc' e obl a w env h; simp [execC] at h
theorem exec_sound (hΓ : CtxOk P Γ) {m0 : Nat} {cx : Cx} (hm0 : cx.m0 = m0) : ∀ (c : Code) {st st' : St} {orc orc' : Orc} {e : Ex} {obl : List Prop} {a : Act} {w : World} {env : Env}, exec P Γ m0 c st orc = some (e, st', obl, orc') → AllT obl → Ok cx env st a w →
    c.wp P (fun e' a' w' => e' = e.to ∧ ∃ env', Ok cx env' st' a' w') a w :=
  exec_soundC hΓ hm0 (fun c pre ex post k env a w h => k cx env a w hm0 h)
end
end E
end Go.Proofs.Ytajdkbgbekdbmaa

/- A symbolic run of Go code: functions, loops. No condition. -/
namespace Go.Proofs.Ytajdkbgbekdbmaa
set_option linter.unusedVariables false
set_option linter.unusedSimpArgs false
namespace E
open Go.RowKit

/-! results -/
def evResult (P : Program) (st : St) : ResultVar → Option (NV × List Prop)
  | .tmp t => match st.tm.getD t .any with
    | .nv x => some (x, [])
    | _ => none
  | .cell a t => match st.tm.getD a .any with
    | .nv (.one x) => evLoad P t st.mem x
    | _ => none
def evResultL (P : Program) (st : St) : List ResultVar → Option (List NV × List Prop)
  | [] => some ([], [])
  | x :: xs => match evResult P st x, evResultL P st xs with
    | some (r, o), some (rs, os) => some (r :: rs, o ++ os)
    | _, _ => none
def evResults (P : Program) (st : St) (l : List ResultVar) : Option (SV × List Prop) :=
  match evResultL P st l with
  | some ([x], o) => some (.nv x, o)
  | some (xs, o) => some (.tup xs, o)
  | none => none

def getResult (tmps : Array Value) : ResultVar → Sem Value
  | .tmp t => pure (tmps.getD t undef)
  | .cell a t => do loadVar t (← asAddr (tmps.getD a undef))

section
variable {P : Program} {Γ : List (FuncId × Sp)} {env : Env} {cx : Cx}
theorem evResult_sound {st : St} {x : ResultVar} {r : NV} {obl : List Prop} {a : Act} {w : World} (h : evResult P st x = some (r, obl)) (ho : AllT obl) (hk : Ok cx env st a w) :
    ∃ v, (getResult a.tmps x).run P w = .ok v w ∧ r.rel env v := by
  unfold evResult at h
  split at h
  · rename_i t
    split at h
    · rename_i y hy
      simp only [Option.some.injEq, Prod.mk.injEq] at h
      obtain ⟨rfl, rfl⟩ := h
      have := getD_tmps hk.tm t
      rw [hy] at this
      exact ⟨_, rfl, this⟩
    · cases h
  · rename_i p t
    split at h
    · rename_i y hy
      have hr := getD_tmps hk.tm p
      rw [hy] at hr
      obtain ⟨v, h1, h2⟩ := run_evLoad h ho hk.mem hr
      refine ⟨v, ?_, h2⟩
      show (do loadVar t (← asAddr (a.tmps.getD p undef)) : Sem Value).run P w = _
      unfold Instr.loadAt Instr.sureAddr at h1
      generalize a.tmps.getD p undef = u at h1 ⊢
      split at h1
      · simpa [asAddr] using h1
      · simp at h1
    · cases h
theorem evResultL_sound {st : St} {a : Act} {w : World} (hk : Ok cx env st a w) : ∀ {l : List ResultVar} {rs : List NV} {obl : List Prop}, evResultL P st l = some (rs, obl) → AllT obl → ∃ vs, (l.mapM (getResult a.tmps)).run P w = .ok vs w ∧ AllNV env rs vs
  | [], rs, obl, h, ho => by
    simp only [evResultL, Option.some.injEq, Prod.mk.injEq] at h
    obtain ⟨rfl, rfl⟩ := h
    exact ⟨[], by simp, trivial⟩
  | x :: xs, rs, obl, h, ho => by
    simp only [evResultL] at h
    split at h
    · rename_i r o rs' os h1 h2
      simp only [Option.some.injEq, Prod.mk.injEq] at h
      obtain ⟨rfl, rfl⟩ := h
      obtain ⟨o1, o2⟩ := AllT.append.1 ho
      obtain ⟨v, e1, e2⟩ := evResult_sound h1 o1 hk
      obtain ⟨vs, e3, e4⟩ := evResultL_sound hk h2 o2
      exact ⟨v :: vs, by simp [List.mapM_cons, e1, e3], e2, e4⟩
    · cases h
theorem evResults_sound {st : St} {fn : Func} {r : SV} {obl : List Prop} {a : Act} {w : World} (h : evResults P st fn.results.toList = some (r, obl)) (ho : AllT obl) (hk : Ok cx env st a w) :
    ∃ v, (results fn a.tmps).run P w = .ok v w ∧ r.rel env v := by
  have hres : results fn a.tmps = (do let vs ← fn.results.toList.mapM (getResult a.tmps); pure (if h : vs.toArray.size = 1 then vs.toArray[0] else .tuple vs.toArray) : Sem Value) := by
    unfold results
    rw [← Array.toArray_toList (xs := fn.results)]
    rw [List.mapM_toArray]
    simp only [bind_map_left, Array.toArray_toList]
    rfl
  unfold evResults at h
  split at h
  · rename_i x o h1
    simp only [Option.some.injEq, Prod.mk.injEq] at h
    obtain ⟨rfl, rfl⟩ := h
    obtain ⟨vs, e1, e2⟩ := evResultL_sound hk h1 ho
    match vs, e2 with
    | [v], e2 =>
      refine ⟨v, ?_, e2.1⟩
      rw [hres]
      simp [e1]
  · rename_i xs o hn h1
    simp only [Option.some.injEq, Prod.mk.injEq] at h
    obtain ⟨rfl, rfl⟩ := h
    obtain ⟨vs, e1, e2⟩ := evResultL_sound hk h1 ho
    refine ⟨.tuple vs.toArray, ?_, vs.toArray, rfl, by simpa using e2⟩
    have hl : vs.length ≠ 1 := by
      intro e
      match vs, e, e2 with
      | [v], _, e2 =>
        match xs, e2 with
        | [x], _ => exact hn x rfl
    rw [hres]
    simp [e1, hl]
  · cases h
end

/-- Runs a function. -/
def runFnC (CO : Nat → Code → St → Ex → St → Prop) (P : Program) (Γ : List (FuncId × Sp)) (fn : Func) (args : List SV) (mem : List Seg) (orc : Orc) : Option (SV × List Seg × List Prop) :=
  match fn.body with
  | some c => match execC CO P Γ mem.length c ⟨args ++ List.replicate (fn.ntmps - args.length) .any, mem⟩ orc with
    | some (.normal, st, obl, _) => match evResults P st fn.results.toList with
      | some (r, o) => some (r, st.mem, obl ++ o)
      | none => none
    | some (.ret, st, obl, _) => match evResults P st fn.results.toList with
      | some (r, o) => some (r, st.mem, obl ++ o)
      | none => none
    | _ => none
  | none => none

abbrev runFn (P : Program) (Γ : List (FuncId × Sp)) (fn : Func) (args : List SV) (mem : List Seg) (orc : Orc) : Option (SV × List Seg × List Prop) := runFnC (CodeOk P) P Γ fn args mem orc

section
variable {P : Program} {Γ : List (FuncId × Sp)}

theorem fn_end {f : FuncId} {fn : Func} {mem : List Seg} {st : St} {r : SV} {o : List Prop} {env env' : Env} {w0 : World} {S : Nat → Prop} {a' : Act} {w' : World} (hres : evResults P st fn.results.toList = some (r, o)) (ho : AllT o)
    (hk : Ok ⟨w0, S, mem.length, env⟩ env' st a' w') : ∃ v, (results fn a'.tmps).run P w' = .ok v w' ∧ ∃ u env'', (Ending.returned v) = .returned u ∧ env.le env'' ∧ (∀ h, h < mem.length → env'' h = env h) ∧ mem.length ≤ st.mem.length ∧ r.rel env'' u ∧ MemOk env'' st.mem w0 w' S ∨ (∃ h, mem.length ≤ h ∧ env h ≠ none) := by
  obtain ⟨v, h1, h2⟩ := evResults_sound hres ho hk
  by_cases htop : ∃ h, mem.length ≤ h ∧ env h ≠ none
  · exact ⟨v, h1, v, env', .inr htop⟩
  have htop' : ∀ h, mem.length ≤ h → env h = none := fun h hl => by
    cases e : env h with
    | none => rfl
    | some u => exact (htop ⟨h, hl, by rw [e]; simp⟩).elim
  have hle : env'.le (fun h => if h < mem.length then env h else env' h) := by
    intro h u hu
    by_cases q : h < mem.length
    · simp only [if_pos q]
      rcases hk.fix h q with e | e
      · rw [e] at hu; cases hu
      · rw [e] at hu; exact hu
    · simp only [if_neg q]; exact hu
  refine ⟨v, h1, v, fun h => if h < mem.length then env h else env' h, .inl ⟨rfl, ?_, fun h q => if_pos q, hk.long, SV.rel_le hle h2, ?_⟩⟩
  · intro h u hu
    by_cases q : h < mem.length
    · simp only [if_pos q]; exact hu
    · rw [htop' h (by omega)] at hu; cases hu
  · have hm := hk.mem
    have heq : ∀ h s, st.mem[h]? = some s → s.live → (fun h => if h < mem.length then env h else env' h) h = env' h := by
      intro h s hs hl
      obtain ⟨u, e⟩ := (hm.ok h s hs).some (live_ng hl)
      rw [hle h u e, e]
    have hsome : ∀ h s, st.mem[h]? = some s → s.live → ∀ b, blk env' h b → blk (fun h => if h < mem.length then env h else env' h) h b := by
      intro h s hs hl b hb
      rw [blk_congr (env := fun h => if h < mem.length then env h else env' h) (heq h s hs hl)]; exact hb
    have hsome' : ∀ h s, st.mem[h]? = some s → s.live → ∀ b, blk (fun h => if h < mem.length then env h else env' h) h b → blk env' h b := by
      intro h s hs hl b hb
      rw [← blk_congr (env := fun h => if h < mem.length then env h else env' h) (heq h s hs hl)]; exact hb
    refine ⟨fun h s hs => (hm.ok h s hs).le hle, fun h hh => ?_, ?_, ?_, hm.os, hm.tape, hm.output, hm.grow, hm.frame⟩
    · have := hk.long
      have q : ¬ h < mem.length := by simp only at this; omega
      simp only [if_neg q]
      exact hm.top h hh
    · intro h k s t b hs ht hne hx hl hb e
      exact hm.sep h k s t b hs ht hne hx hl (hsome' h s hs (excl_live hx) b hb) (hsome' k t ht hl b e)
    · intro h s b hs hx hb
      exact hm.own h s b hs hx (hsome' h s hs (excl_live hx) b hb)

theorem fn_okC {CO : Nat → Code → St → Ex → St → Prop} (hΓ : CtxOk P Γ) {f : FuncId} {fn : Func} (hf : P.funcs[f]? = some fn) {args : List SV} {mem mem' : List Seg} {orc : Orc} {r : SV} {obl : List Prop} (h : runFnC CO P Γ fn args mem orc = some (r, mem', obl)) (ho : AllT obl)
    (env : Env) (w0 w : World) (S : Nat → Prop) (vals : List Value) (hco : ∀ cx : Cx, cx.w0 = w0 → cx.S = S → cx.m0 = mem.length → ∀ c pre ex post, CO mem.length c pre ex post → ∀ env a w, Ok cx env pre a w → c.wp P (fun e a' w' => e = ex.to ∧ ∃ env', Ok cx env' post a' w') a w)
    (hv : AllSV env args vals) (hm : MemOk env mem w0 w S) :
    Calls P f vals.toArray w fun e w' => ∃ v env', e = .returned v ∧ env.le env' ∧ (∀ h, h < mem.length → env' h = env h) ∧ mem.length ≤ mem'.length ∧ r.rel env' v ∧ MemOk env' mem' w0 w' S := by
  unfold runFnC at h
  split at h
  · rename_i c hb
    have hk : Ok ⟨w0, S, mem.length, env⟩ env ⟨args ++ List.replicate (fn.ntmps - args.length) .any, mem⟩ { tmps := vals.toArray ++ Array.replicate (fn.ntmps - vals.toArray.size) undef, defers := [] } w := by
      refine ⟨rfl, ?_, hm, Nat.le_refl _, fun h hh => .inr rfl⟩
      have hlen := hv.length
      have : (vals.toArray ++ Array.replicate (fn.ntmps - vals.toArray.size) undef).toList = vals ++ List.replicate (fn.ntmps - args.length) undef := by
        simp [hlen]
      rw [this]
      refine hv.append ?_
      have := AllSV.anys (env := env) (List.replicate (fn.ntmps - args.length) undef)
      simpa using this
    refine calls_of_wp hf hb ?_
    split at h
    · rename_i st o1 orc' hex
      split at h
      · rename_i r' o2 hres
        simp only [Option.some.injEq, Prod.mk.injEq] at h
        obtain ⟨rfl, rfl, rfl⟩ := h
        obtain ⟨oo1, oo2⟩ := AllT.append.1 ho
        refine wp_mono (exec_soundC hΓ rfl (hco _ rfl rfl rfl) c hex oo1 hk) ?_
        rintro e a' w' ⟨rfl, env', hk'⟩
        obtain ⟨v, h1, u, env'', h2 | ⟨h, h3, h4⟩⟩ := fn_end (f := f) hres oo2 hk'
        · exact ⟨hk'.defers, v, h1, u, env'', h2⟩
        · exact (h4 (hm.top h h3)).elim
      · cases h
    · rename_i st o1 orc' hex
      split at h
      · rename_i r' o2 hres
        simp only [Option.some.injEq, Prod.mk.injEq] at h
        obtain ⟨rfl, rfl, rfl⟩ := h
        obtain ⟨oo1, oo2⟩ := AllT.append.1 ho
        refine wp_mono (exec_soundC hΓ rfl (hco _ rfl rfl rfl) c hex oo1 hk) ?_
        rintro e a' w' ⟨rfl, env', hk'⟩
        obtain ⟨v, h1, u, env'', h2 | ⟨h, h3, h4⟩⟩ := fn_end (f := f) hres oo2 hk'
        · exact ⟨hk'.defers, v, h1, u, env'', h2⟩
        · exact (h4 (hm.top h h3)).elim
      · cases h
    · cases h
  · cases h
theorem fn_ok (hΓ : CtxOk P Γ) {f : FuncId} {fn : Func} (hf : P.funcs[f]? = some fn) {args : List SV} {mem mem' : List Seg} {orc : Orc} {r : SV} {obl : List Prop} (h : runFn P Γ fn args mem orc = some (r, mem', obl)) (ho : AllT obl) :
    FnOk P f args mem r mem' := by
  intro env w0 w S vals hv hm
  exact fn_okC hΓ hf h ho env w0 w S vals (fun cx _ _ h3 c pre ex post k env a w hk => k cx env a w h3 hk) hv hm
end

/-- A run of a function, with its result and the memory that it leaves, as they are wanted. -/
def fnRun (P : Program) (Γ : List (FuncId × Sp)) (fn : Func) (args : List SV) (mem : List Seg) (orc : Orc) (r : SV) (mem' : List Seg) : Option (List Prop) :=
  match runFn P Γ fn args mem orc with
  | some (r1, m1, obl) => some (obl ++ leSt mem.length ⟨[r1], m1⟩ ⟨[r], mem'⟩)
  | none => none
theorem leSt_fix {m0 : Nat} {x y : St} (h : AllT (leSt m0 x y)) (hm0 : m0 ≤ y.mem.length) (env : Env) : ∀ c, c < m0 → env.cutR (renOf m0 x y) y.mem.length c = env c := by
  unfold leSt at h
  simp only at h
  split at h
  · rename_i hb
    rw [Bool.and_eq_true] at hb
    intro c hc
    exact Env.cutR_lt (fixB_sound hb.1 c hc) (Nat.lt_of_lt_of_le hc hm0)
  · exact h.1.elim
theorem fn_run {P : Program} {Γ : List (FuncId × Sp)} (hΓ : CtxOk P Γ) {f : FuncId} {fn : Func} (hf : P.funcs[f]? = some fn) {args : List SV} {mem mem' : List Seg} {orc : Orc} {r : SV} {obl : List Prop} (h : fnRun P Γ fn args mem orc r mem' = some obl) (ho : AllT obl) (hlen : mem.length ≤ mem'.length) :
    FnOk P f args mem r mem' := by
  unfold fnRun at h
  split at h
  · rename_i r1 m1 o hx
    simp only [Option.some.injEq] at h
    subst h
    obtain ⟨h1, h2⟩ := AllT.append.1 ho
    intro env w0 w S vals hv hm
    refine (fn_ok hΓ hf hx h1 env w0 w S vals hv hm).mono ?_
    rintro e w' ⟨v, env', rfl, hle, hsame, hl1, h3, h4⟩
    have hk : Ok ⟨w0, S, mem.length, env'⟩ env' ⟨[r1], m1⟩ { tmps := #[v], defers := [] } w' := ⟨rfl, ⟨h3, trivial⟩, h4, hl1, fun _ _ => .inr rfl⟩
    have hk2 := leSt_sound (cx := ⟨w0, S, mem.length, env'⟩) (y := ⟨[r], mem'⟩) h2 hlen hk
    have hfix := leSt_fix (y := ⟨[r], mem'⟩) h2 hlen env'
    refine ⟨v, _, rfl, ?_, fun c hc => (hfix c hc).trans (hsame c hc), hlen, hk2.tm.1, hk2.mem⟩
    intro c u hu
    have hc : c < mem.length := by
      rcases Nat.lt_or_ge c mem.length with q | q
      · exact q
      · rw [hm.top c q] at hu; cases hu
    rw [hfix c hc, hsame c hc]
    exact hu
  · cases h

/-! functions of plain values -/
def NV.plain : NV → Bool
  | .one a => a.plain
  | .agg l => l.all At.plain
def SV.plain : SV → Bool
  | .nv x => x.plain
  | .tup l => l.all NV.plain
  | .any => true

theorem NV.plain_rel {env env' : Env} {x : NV} {v : Value} (h : x.plain = true) (k : x.rel env v) : x.rel env' v := by
  cases x with
  | one a => exact At.plain_rel h k
  | agg l => obtain ⟨cs, e, k⟩ := k; exact ⟨cs, e, k.plain h⟩
theorem AllNV.plain {env env' : Env} : ∀ {l : List NV} {vs : List Value}, l.all NV.plain = true → AllNV env l vs → AllNV env' l vs
  | [], [], _, _ => trivial
  | a :: l, v :: vs, h, k => by
    simp only [List.all_cons, Bool.and_eq_true] at h
    exact ⟨NV.plain_rel h.1 k.1, AllNV.plain h.2 k.2⟩
theorem SV.plain_rel {env env' : Env} {x : SV} {v : Value} (h : x.plain = true) (k : x.rel env v) : x.rel env' v := by
  cases x with
  | nv x => exact NV.plain_rel h k
  | tup l => obtain ⟨cs, e, k⟩ := k; exact ⟨cs, e, k.plain h⟩
  | any => trivial
theorem AllSV.plain {env env' : Env} : ∀ {l : List SV} {vs : List Value}, l.all SV.plain = true → AllSV env l vs → AllSV env' l vs
  | [], [], _, _ => trivial
  | a :: l, v :: vs, h, k => by
    simp only [List.all_cons, Bool.and_eq_true] at h
    exact ⟨SV.plain_rel h.1 k.1, AllSV.plain h.2 k.2⟩

theorem MemOk.empty (w : World) : MemOk (fun _ => none) [] w w NoS :=
  ⟨fun h s e => by simp at e, fun _ _ => rfl, fun h k s t b e => by simp at e, fun h s b e => by simp at e, rfl, rfl, rfl, Nat.le_refl _, fun _ _ _ => rfl⟩

/-- A function of plain values, that writes nothing that was there. -/
def PureOk (P : Program) (f : FuncId) (args : List SV) (r : SV) : Prop :=
  ∀ (vals : List Value) (w : World), AllSV (fun _ => none) args vals → Calls P f vals.toArray w fun e w' => ∃ v, e = .returned v ∧ r.rel (fun _ => none) v ∧ Ext w w'

theorem FnOk.pure {P : Program} {f : FuncId} {args : List SV} {r : SV} {mem' : List Seg} (h : FnOk P f args [] r mem') (hr : r.plain = true) : PureOk P f args r := by
  intro vals w hv
  refine (h _ w w NoS vals hv (MemOk.empty w)).mono ?_
  rintro e w' ⟨v, env', rfl, _, _, _, h1, h2⟩
  exact ⟨v, rfl, SV.plain_rel hr h1, h2.ext⟩

def pureS (g : List SV → Option (SV × List Prop)) : Sp := .rd fun args _ => g args
theorem pureS_ok {P : Program} {f : FuncId} {g : List SV → Option (SV × List Prop)} (h : ∀ args r obl, g args = some (r, obl) → AllT obl → args.all SV.plain = true ∧ r.plain = true ∧ PureOk P f args r) : SpOk P f (pureS g) := by
  refine ⟨fun args mem mem' x _ hx => hx, ?_⟩
  intro args mem r obl hg ho env w0 w S vals hv hm
  obtain ⟨h1, h2, h3⟩ := h _ _ _ hg ho
  refine (h3 vals w (hv.plain h1)).mono ?_
  rintro e w' ⟨v, rfl, h4, h5⟩
  exact ⟨v, rfl, SV.plain_rel h2 h4, h5⟩

/-! loops -/
/-- One round: from a state to a state. -/
def RoundOk (P : Program) (m0 : Nat) (c : Code) (pre : St) (ex : Ex) (post : St) : Prop := CodeOk P m0 c pre ex post

theorem code_ok {P : Program} {Γ : List (FuncId × Sp)} (hΓ : CtxOk P Γ) {m0 : Nat} {c : Code} {st st' post : St} {orc orc' : Orc} {e : Ex} {obl : List Prop} (h : exec P Γ m0 c st orc = some (e, st', obl, orc')) (ho : AllT obl)
    (hp : AllT (leSt m0 st' post)) (hm : m0 ≤ post.mem.length) : CodeOk P m0 c st e post := by
  intro cx env a w hm0 hk
  refine wp_mono (exec_sound hΓ hm0 c h ho hk) ?_
  rintro e' a' w' ⟨rfl, env', hk'⟩
  exact ⟨rfl, _, leSt_sound (by rw [hm0]; exact hp) (by rw [hm0]; exact hm) hk'⟩

theorem loop_ok {P : Program} {m0 : Nat} {c : Code} {α : Type} (St : α → E.St) (I : α → Prop) (μ : α → Nat) {ex : Ex} {post : E.St} (hex : ex ≠ .normal)
    (round : ∀ x, I x → (∃ x', I x' ∧ μ x' < μ x ∧ CodeOk P m0 c (St x) .normal (St x')) ∨ CodeOk P m0 c (St x) ex post) {x : α} (hx : I x) : CodeOk P m0 (.loop c) (St x) ex post := by
  intro cx env a w hm0 hk
  refine wp_loop_ghost (fun n a w => ∃ x env, I x ∧ μ x = n ∧ Ok cx env (St x) a w) (μ x) ⟨x, env, hx, rfl, hk⟩ ?_
  rintro n a w ⟨x, env, hI, rfl, hk⟩
  rcases round x hI with ⟨x', hI', hlt, hc⟩ | hc
  · refine wp_mono (hc cx env a w hm0 hk) ?_
    rintro e a' w' ⟨rfl, env', hk'⟩
    exact ⟨μ x', hlt, x', env', hI', rfl, hk'⟩
  · refine wp_mono (hc cx env a w hm0 hk) ?_
    rintro e a' w' ⟨rfl, env', hk'⟩
    cases ex with
    | normal => exact (hex rfl).elim
    | exit id => exact ⟨rfl, env', hk'⟩
    | ret => exact ⟨rfl, env', hk'⟩

/-! runs against what is wanted -/
/-- A state of n slots, of which some are told. -/
def mkSt (n : Nat) (l : List (Nat × SV)) (mem : List Seg) : St := ⟨l.foldl (fun t p => t.set p.1 p.2) (List.replicate n .any), mem⟩
theorem AllT.nil : AllT [] := trivial
theorem AllT.cons {p : Prop} {l : List Prop} (h : p) (k : AllT l) : AllT (p :: l) := ⟨h, k⟩
def G0 : List (FuncId × Sp) := []
theorem G0_ok {P : Program} : CtxOk P G0 := fun f sp h => by simp [G0] at h
def loopsIn : Code → List Code
  | .loop b => b :: loopsIn b
  | .seq x y => loopsIn x ++ loopsIn y
  | .cond _ x y => loopsIn x ++ loopsIn y
  | .block _ b => loopsIn b
  | _ => []
/-- The body of a function's loop number k. -/
def loopOf (fn : Func) (k : Nat) : Code := match fn.body with
  | some c => (loopsIn c).getD k .skip
  | none => .skip

def codeRun (P : Program) (Γ : List (FuncId × Sp)) (m0 : Nat) (c : Code) (st : St) (orc : Orc) (post : St) : Option (Ex × List Prop) :=
  match exec P Γ m0 c st orc with
  | some (e, st', obl, _) => some (e, obl ++ leSt m0 st' post)
  | none => none
theorem code_run {P : Program} {Γ : List (FuncId × Sp)} (hΓ : CtxOk P Γ) {m0 : Nat} {c : Code} {st post : St} {orc : Orc} {e : Ex} {obl : List Prop} (h : codeRun P Γ m0 c st orc post = some (e, obl)) (ho : AllT obl) (hm : m0 ≤ post.mem.length) : CodeOk P m0 c st e post := by
  unfold codeRun at h
  split at h
  · rename_i e' st' o _ hx
    simp only [Option.some.injEq, Prod.mk.injEq] at h
    obtain ⟨rfl, rfl⟩ := h
    obtain ⟨h1, h2⟩ := AllT.append.1 ho
    exact code_ok hΓ hx h1 h2 hm
  · cases h

def pureRun (P : Program) (Γ : List (FuncId × Sp)) (fn : Func) (args : List SV) (orc : Orc) (r : SV) : Option (List Prop) :=
  match runFn P Γ fn args [] orc with
  | some (r1, _, obl) => some (obl ++ leSV [] 0 r1 r)
  | none => none
theorem pure_run {P : Program} {Γ : List (FuncId × Sp)} (hΓ : CtxOk P Γ) {f : FuncId} {fn : Func} (hf : P.funcs[f]? = some fn) {args : List SV} {orc : Orc} {r : SV} {obl : List Prop} (h : pureRun P Γ fn args orc r = some obl) (ho : AllT obl) : PureOk P f args r := by
  unfold pureRun at h
  split at h
  · rename_i r1 m1 o hx
    simp only [Option.some.injEq] at h
    subst h
    obtain ⟨h1, h2⟩ := AllT.append.1 ho
    intro vals w hv
    refine (fn_ok hΓ hf hx h1 _ w w NoS vals hv (MemOk.empty w)).mono ?_
    rintro e w' ⟨v, env', rfl, _, _, _, h3, h4⟩
    refine ⟨v, rfl, SV.rel_le ?_ (leSV_sound h2 h3), h4.ext⟩
    intro k u hk
    simp [Env.cutR] at hk
  · cases h

/-- A function that writes nothing that was there, and what it reads of memory. -/
def LawOk (P : Program) (f : FuncId) (args : List SV) (mem : List Seg) (r : SV) : Prop :=
  ∀ (env : Env) (vals : List Value) (w : World), AllSV env args vals → MemOk env mem w w NoS → Calls P f vals.toArray w fun e w' => ∃ v, e = .returned v ∧ r.rel (fun _ => none) v ∧ Ext w w'
def lawRun (P : Program) (Γ : List (FuncId × Sp)) (fn : Func) (args : List SV) (mem : List Seg) (orc : Orc) (r : SV) : Option (List Prop) :=
  match runFn P Γ fn args mem orc with
  | some (r1, _, obl) => some (obl ++ leSV [] 0 r1 r)
  | none => none
theorem law_run {P : Program} {Γ : List (FuncId × Sp)} (hΓ : CtxOk P Γ) {f : FuncId} {fn : Func} (hf : P.funcs[f]? = some fn) {args : List SV} {mem : List Seg} {orc : Orc} {r : SV} {obl : List Prop} (h : lawRun P Γ fn args mem orc r = some obl) (ho : AllT obl) : LawOk P f args mem r := by
  unfold lawRun at h
  split at h
  · rename_i r1 m1 o hx
    simp only [Option.some.injEq] at h
    subst h
    obtain ⟨h1, h2⟩ := AllT.append.1 ho
    intro env vals w hv hm
    refine (fn_ok hΓ hf hx h1 _ w w NoS vals hv hm).mono ?_
    rintro e w' ⟨v, env', rfl, _, _, _, h3, h4⟩
    refine ⟨v, rfl, SV.rel_le ?_ (leSV_sound h2 h3), h4.ext⟩
    intro k u hk
    simp [Env.cutR] at hk
  · cases h

/-- From a contract with values written out. -/
theorem pure_of_calls {P : Program} {f : FuncId} {args : List SV} {vals : Array Value} {v : Value} {r : SV} (h : ∀ w, Calls P f vals w fun e w' => e = .returned v ∧ Ext w w') (hv : ∀ us, AllSV (fun _ => none) args us → us.toArray = vals) (hr : r.rel (fun _ => none) v) : PureOk P f args r := by
  intro us w hu
  rw [hv us hu]
  refine (h w).mono ?_
  rintro e w' ⟨rfl, hx⟩
  exact ⟨v, rfl, hr, hx⟩
/-- To a contract with values written out. -/
theorem PureOk.calls {P : Program} {f : FuncId} {args : List SV} {r : SV} (h : PureOk P f args r) {vals : List Value} {v : Value} (hv : AllSV (fun _ => none) args vals) (hr : ∀ u, r.rel (fun _ => none) u → u = v) (w : World) :
    Calls P f vals.toArray w fun e w' => e = .returned v ∧ Ext w w' := by
  refine (h vals w hv).mono ?_
  rintro e w' ⟨u, rfl, hu, hx⟩
  exact ⟨by rw [hr u hu], hx⟩

theorem ctx_cons {P : Program} {Γ : List (FuncId × Sp)} {f : FuncId} {sp : Sp} (he : EnterOk P f) (hs : SpOk P f sp) (h : CtxOk P Γ) : CtxOk P ((f, sp) :: Γ) := by
  intro g t hg
  rw [List.lookup_cons] at hg
  split at hg
  · rename_i e
    have e' : g = f := by simpa using e
    subst e'
    obtain rfl := Option.some.inj hg
    exact .inl ⟨he, hs⟩
  · exact h g t hg
theorem ctx_ext {P : Program} {Γ : List (FuncId × Sp)} {f : FuncId} {sp : Sp} (he : ExtOk P f sp) (h : CtxOk P Γ) : CtxOk P ((f, sp) :: Γ) := by
  intro g t hg
  rw [List.lookup_cons] at hg
  split at hg
  · rename_i e
    have e' : g = f := by simpa using e
    subst e'
    obtain rfl := Option.some.inj hg
    exact .inr he
  · exact h g t hg
/-- Of a function of the machine: from numbers. -/
theorem ext_ok {P : Program} {f : FuncId} {g : List SV → Option (SV × List Prop)} (h : ∀ args r obl, g args = some (r, obl) → AllT obl → ∃ vals, (∀ env us, AllSV env args us → us.toArray = vals) ∧ ∃ v, (∀ env, r.rel env v) ∧ ∀ w, (callFunc f vals).run P w = .ok (.value v) w) : ExtOk P f (pureS g) := by
  refine ⟨g, rfl, fun args r obl hg ho env vals hv w => ?_⟩
  obtain ⟨us, h1, v, h2, h3⟩ := h args r obl hg ho
  exact ⟨v, by rw [h1 env vals hv]; exact h3 w, h2 env⟩

/-! numbers that fit -/
theorem w64 {a b : Int} (h : a = b) (k : -9223372036854775808 ≤ b ∧ b ≤ 9223372036854775807) : IntKind.i64.wrap a = b := by
  subst h; rw [IntKind.wrap_i64]; omega
theorem wU64 {a b : Int} (h : a = b) (k : 0 ≤ b ∧ b ≤ 18446744073709551615) : IntKind.u64.wrap a = b := by
  subst h; simp [IntKind.wrap, IntKind.signed, IntKind.bits]; omega
theorem wU32 {a b : Int} (h : a = b) (k : 0 ≤ b ∧ b ≤ 4294967295) : IntKind.u32.wrap a = b := by
  subst h; simp [IntKind.wrap, IntKind.signed, IntKind.bits]; omega
theorem wU16 {a b : Int} (h : a = b) (k : 0 ≤ b ∧ b ≤ 65535) : IntKind.u16.wrap a = b := by
  subst h; simp [IntKind.wrap, IntKind.signed, IntKind.bits]; omega
theorem wU8 {a b : Int} (h : a = b) (k : 0 ≤ b ∧ b ≤ 255) : IntKind.u8.wrap a = b := by
  subst h; simp [IntKind.wrap, IntKind.signed, IntKind.bits]; omega

/-! rows that came in -/
theorem ros_ok {env : Env} {mem : List Seg} {w : World} (hok : ∀ h s, mem[h]? = some s → SegOk env w h s ∧ s.excl = false) (top : ∀ h, mem.length ≤ h → env h = none) : MemOk env mem w w NoS :=
  ⟨fun h s e => (hok h s e).1, top, (fun h k s t b hs ht hne hx => by rw [(hok h s hs).2] at hx; cases hx), (fun h s b hs hx => by rw [(hok h s hs).2] at hx; cases hx), rfl, rfl, rfl, Nat.le_refl _, fun _ _ _ => rfl⟩
end E
end Go.Proofs.Ytajdkbgbekdbmaa

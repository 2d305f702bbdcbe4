/- A symbolic run of Go code: within a round of a range over a function, and behind one. No condition. -/
import Derived.Test.YtoincoicgfnbiaaEC
import Derived.RangeFuncNested
import Derived.RangeFuncBound
import Derived.RangeFuncCalls
import Derived.RangeFuncLeaves
import Derived.OrdersIn
namespace Go.Proofs.Ytoincoicgfnbiaa
set_option linter.unusedVariables false
set_option linter.unusedSimpArgs false
namespace E
open Go.RowKit
/-- What is asked of a run's end: no call that waits, no panic. -/
structure Tame (Q : Exit → Act → World → Prop) : Prop where
  defers : ∀ e a w, Q e a w → a.defers = []
  panic : ∀ ch a w, ¬ Q (.panic ch) a w
  out : ∀ a w, ¬ Q .outgrown a w
def Fw (r : Option Nat) : Fence := { Fence.wide with round := r }
theorem put_defers (a : Act) (dst : Option Tmp) (v : Value) : (a.put dst v).defers = a.defers := by cases dst <;> rfl
theorem put_with (a : Act) (d : List Deferred) (dst : Option Tmp) (v : Value) : Act.put { a with defers := d } dst v = { a.put dst v with defers := d } := by cases dst <;> rfl
theorem eval_with (a : Act) (d : List Deferred) : Act.eval { a with defers := d } = a.eval := by funext x; cases x <;> rfl
section
variable {P : Program} {Q Q' : Exit → Act → World → Prop} {K K' : Act → World → Prop} {a : Act} {w : World} {o : Oper}
theorem op_defers (hQ : Tame Q) (hK : ∀ a w, K a w → a.defers = []) (h : o.wp P a w K Q) : a.defers = [] := by
  unfold Oper.wp Oper.upon at h
  split at h
  · have := hK _ _ h; rwa [put_defers] at this
  · have := hK _ _ h; rwa [put_defers] at this
  · have := hK _ _ h; rw [put_defers] at this; cases this
  · obtain ⟨e, w', fr, hr, _⟩ := h []
    cases e with
    | returned v => have := hK _ _ hr; rwa [put_defers] at this
    | panicked ch => exact (hQ.panic _ _ _ hr).elim
    | outgrown => obtain ⟨a, w, q⟩ := hr; exact (hQ.out _ _ q).elim
  · obtain ⟨v, w', hr, _⟩ := h default []
    have := hK _ _ hr; rwa [put_defers] at this
  · exact (hQ.panic _ _ _ h).elim
  · exact h.elim
theorem op_lift (r : Option Nat) (d : List Deferred) (n : Nat) (hnd : ∀ c, o.op ≠ .defer c) (hQ : Tame Q) (hK : ∀ a w, K a w → a.defers = []) (hKK : ∀ a w, K a w → K' { a with defers := d } w) (h : o.wp P a w K Q) :
    o.wpIn (Fw r) n P { a with defers := d } w K' Q' := by
  refine ⟨fun _ _ => trivial, ?_⟩
  rw [Oper.semAt_eq _ _ _ hnd, eval_with]
  unfold Oper.wp at h
  generalize (execOp a.eval o).run P w = res at h
  unfold Oper.upon at h
  split at h
  · rw [Oper.uponIn_value, put_with]; exact hKK _ _ h
  · rw [Oper.uponIn_skip, put_with]; exact hKK _ _ h
  · have := hK _ _ h; rw [put_defers] at this; cases this
  · rw [Oper.uponIn_enter]
    refine ⟨fun q => (by cases q), ?_⟩
    have h2 := (callsIn_wide (n := n - 1)).2 h
    refine CallsIn.mono (F := Fw r) h2 ?_
    intro e w'' hr
    cases e with
    | returned v => show K' (Act.put { a with defers := d } o.dst v) w''; rw [put_with]; exact hKK _ _ hr
    | panicked ch => exact (hQ.panic _ _ _ hr).elim
    | outgrown => obtain ⟨a, w, q⟩ := hr; exact (hQ.out _ _ q).elim
  · rw [Oper.uponIn_row]
    refine ⟨fun q => (by cases q), fun c cs _ => ?_⟩
    obtain ⟨v, w', hr, hs⟩ := h c cs
    exact ⟨v, w', by simp only [put_with]; exact hKK _ _ hr, stepsIn_wide.2 hs⟩
  · exact (hQ.panic _ _ _ h).elim
  · exact h.elim
def callMeB (o : Oper) : Bool := match o.op with
  | .defer _ => false
  | _ => true
theorem callMeB_spec (h : callMeB o = true) : ∀ c, o.op ≠ .defer c := by
  intro c e
  unfold callMeB at h
  rw [e] at h
  cases h
theorem list_defers {ops : Array Oper} (hQ : Tame Q) : ∀ (l : List Oper) (a : Act) (w : World), wpList P ops Q l a w → a.defers = []
  | [], a, w, h => hQ.defers _ _ _ h
  | o :: l, a, w, h => by
    unfold wpList at h
    split at h
    · rcases h with h | ⟨_, x, y, h⟩
      · exact op_defers hQ (fun a w => list_defers hQ l a w) h
      · exact (hQ.out _ _ h).elim
    · have := list_defers hQ l _ _ h; rwa [put_defers] at this
theorem list_lift (r : Option Nat) (d : List Deferred) (n : Nat) {ops : Array Oper} (hQ : Tame Q) : ∀ (l : List Oper) (a : Act) (w : World), l.all callMeB = true → wpList P ops Q l a w →
    wpListIn (Fw r) n P ops (fun e a' w' => a'.defers = d ∧ Q e { a' with defers := [] } w') l { a with defers := d } w
  | [], a, w, _, h => by
    have := hQ.defers _ _ _ h
    refine ⟨rfl, ?_⟩
    have e : ({ ({ a with defers := d } : Act) with defers := [] } : Act) = a := by
      cases a; simp only at this; subst this; rfl
    rw [e]; exact h
  | o :: l, a, w, hc, h => by
    rw [List.all_cons, Bool.and_eq_true] at hc
    unfold wpList at h
    unfold wpListIn
    split at h
    · rename_i hw
      rw [if_pos hw]
      rcases h with h | ⟨_, x, y, h⟩
      · exact op_lift r d n (callMeB_spec hc.1) hQ (fun a w => list_defers hQ l a w) (fun a w => list_lift r d n hQ l a w hc.2) h
      · exact (hQ.out _ _ h).elim
    · rename_i hw
      rw [if_neg hw]
      refine ⟨fun _ _ => trivial, ?_⟩
      rw [put_with]
      exact list_lift r d n hQ l _ _ hc.2 h
end
/-- Code with no loop, of regions that are run in the text's order. -/
def calm : Code → Bool
  | .skip | .exit _ | .ret | .label _ => true
  | .region _ ops draw => !draw && ops.toList.all callMeB
  | .seq x y => calm x && calm y
  | .cond _ x y => calm x && calm y
  | .block _ c => calm c
  | _ => false
section
variable {P : Program} {Γ : List (FuncId × Sp)}
theorem tame_ok {cx : Cx} {e : Ex} {st : St} : Tame (fun e' a' w' => e' = e.to ∧ ∃ env', Ok cx env' st a' w') where
  defers := fun _ a w h => by obtain ⟨_, env', k⟩ := h; exact k.defers
  panic := fun ch a w h => by cases e <;> cases h.1
  out := fun a w h => by cases e <;> cases h.1
theorem exec_lift (hΓ : CtxOk P Γ) {m0 : Nat} {cx : Cx} (r : Option Nat) (d : List Deferred) (n : Nat) : ∀ (c : Code) {st st' : St} {orc orc' : Orc} {e : Ex} {obl : List Prop} {a : Act} {w : World} {env : Env}, calm c = true → exec P Γ m0 c st orc = some (e, st', obl, orc') → AllT obl → Ok cx env st a w →
    c.wpIn (Fw r) n P (fun e' a' w' => a'.defers = d ∧ e' = e.to ∧ ∃ env', Ok cx env' st' { a' with defers := [] } w') { a with defers := d } w := by
  intro c
  induction c with
  | skip =>
    intro st st' orc orc' e obl a w env hc h ho hk
    simp only [exec, execC, Option.some.injEq, Prod.mk.injEq] at h
    obtain ⟨rfl, rfl, rfl, rfl⟩ := h
    have e0 : ({ ({ a with defers := d } : Act) with defers := [] } : Act) = a := by have := hk.defers; cases a; simp only at this; subst this; rfl
    exact wpIn_skip ⟨rfl, rfl, env, by rw [e0]; exact hk⟩
  | region id ops draw =>
    intro st st' orc orc' e obl a w env hc h ho hk
    simp only [calm, Bool.and_eq_true, Bool.not_eq_true'] at hc
    obtain ⟨hd, hc⟩ := hc
    subst hd
    simp only [exec, execC] at h
    split at h
    · rename_i q; cases q
    split at h
    · rename_i st1 obl1 bits h1
      simp only [Option.some.injEq, Prod.mk.injEq] at h
      obtain ⟨rfl, rfl, rfl, rfl⟩ := h
      exact wpIn_region_list (list_lift r d n (tame_ok (e := .normal)) ops.toList a w hc (runOps_sound hΓ ops.toList h1 ho hk (fun env' a' w' _ hk' => ⟨rfl, env', hk'⟩)))
    · cases h
  | seq x y ihx ihy =>
    intro st st' orc orc' e obl a w env hc h ho hk
    simp only [calm, Bool.and_eq_true] at hc
    simp only [exec, execC] at h
    split at h
    · rename_i st1 obl1 orc1 h1
      split at h
      · rename_i e2 st2 obl2 orc2 h2
        simp only [Option.some.injEq, Prod.mk.injEq] at h
        obtain ⟨rfl, rfl, rfl, rfl⟩ := h
        obtain ⟨o1, o2⟩ := AllT.append.1 ho
        refine wpIn_seq (wpIn_mono (ihx hc.1 h1 o1 hk) ?_)
        rintro e' a' w' ⟨hd, rfl, env', hk'⟩
        have := ihy hc.2 h2 o2 hk'
        have e0 : ({ ({ a' with defers := [] } : Act) with defers := d } : Act) = a' := by cases a'; simp only at hd; subst hd; rfl
        rw [e0] at this
        exact this
      · cases h
    · rename_i hn
      refine wpIn_seq (wpIn_mono (ihx hc.1 h ho hk) ?_)
      rintro e' a' w' ⟨hd, rfl, env', hk'⟩
      cases e with
      | normal => exact (hn _ _ _ h).elim
      | exit id => exact ⟨hd, rfl, env', hk'⟩
      | ret => exact ⟨hd, rfl, env', hk'⟩
  | cond c x y ihx ihy =>
    intro st st' orc orc' e obl a w env hc h ho hk
    simp only [calm, Bool.and_eq_true] at hc
    simp only [exec, execC] at h
    split at h
    · rename_i b tm obl0 bits hdec
      split at h
      · rename_i e1 st1 obl1 orc1 h1
        simp only [Option.some.injEq, Prod.mk.injEq] at h
        obtain ⟨rfl, rfl, rfl, rfl⟩ := h
        obtain ⟨o1, o2⟩ := AllT.append.1 ho
        obtain ⟨hb, htm⟩ := decide?_sound hdec o1 hk.tm
        refine wpIn_cond (t := b) (by rw [eval_with]; exact hb) ?_
        cases b with
        | true => exact ihx hc.1 h1 o2 ⟨hk.defers, htm, hk.mem, hk.long, hk.fix⟩
        | false => exact ihy hc.2 h1 o2 ⟨hk.defers, htm, hk.mem, hk.long, hk.fix⟩
      · cases h
    · cases h
  | block id c ih =>
    intro st st' orc orc' e obl a w env hc h ho hk
    simp only [calm] at hc
    simp only [exec, execC] at h
    split at h
    · rename_i id' st1 obl1 orc1 h1
      simp only [Option.some.injEq, Prod.mk.injEq] at h
      obtain ⟨rfl, rfl, rfl, rfl⟩ := h
      refine wpIn_block (wpIn_mono (ih hc h1 ho hk) ?_)
      rintro e' a' w' ⟨hd, rfl, env', hk'⟩
      by_cases hid : id' = id
      · simp only [Exit.inBlock, Ex.to, if_pos hid]
        exact ⟨hd, trivial, env', hk'⟩
      · simp only [Exit.inBlock, Ex.to, if_neg hid]
        exact ⟨hd, trivial, env', hk'⟩
    · rename_i hn
      refine wpIn_block (wpIn_mono (ih hc h ho hk) ?_)
      rintro e' a' w' ⟨hd, rfl, env', hk'⟩
      cases e with
      | normal => exact ⟨hd, rfl, env', hk'⟩
      | exit id => exact (hn _ _ _ _ h).elim
      | ret => exact ⟨hd, rfl, env', hk'⟩
  | exit id =>
    intro st st' orc orc' e obl a w env hc h ho hk
    simp only [exec, execC, Option.some.injEq, Prod.mk.injEq] at h
    obtain ⟨rfl, rfl, rfl, rfl⟩ := h
    have e0 : ({ ({ a with defers := d } : Act) with defers := [] } : Act) = a := by have := hk.defers; cases a; simp only at this; subst this; rfl
    exact wpIn_exit ⟨rfl, rfl, env, by rw [e0]; exact hk⟩
  | ret =>
    intro st st' orc orc' e obl a w env hc h ho hk
    simp only [exec, execC, Option.some.injEq, Prod.mk.injEq] at h
    obtain ⟨rfl, rfl, rfl, rfl⟩ := h
    have e0 : ({ ({ a with defers := d } : Act) with defers := [] } : Act) = a := by have := hk.defers; cases a; simp only at this; subst this; rfl
    exact wpIn_ret ⟨rfl, rfl, env, by rw [e0]; exact hk⟩
  | label l =>
    intro st st' orc orc' e obl a w env hc h ho hk
    simp only [exec, execC, Option.some.injEq, Prod.mk.injEq] at h
    obtain ⟨rfl, rfl, rfl, rfl⟩ := h
    have e0 : ({ ({ a with defers := d } : Act) with defers := [] } : Act) = a := by have := hk.defers; cases a; simp only at this; subst this; rfl
    exact wpIn_label ⟨rfl, rfl, env, by rw [e0]; exact hk⟩
  | _ => intro st st' orc orc' e obl a w env hc; simp [calm] at hc
end
/-- As CodeOk, of code within a round (r), calls waiting (d). -/
def CodeOkL (P : Program) (m0 : Nat) (c : Code) (pre : St) (ex : Ex) (post : St) : Prop :=
  ∀ (r : Option Nat) (d : List Deferred) (n : Nat) (cx : Cx) (env : Env) (a : Act) (w : World), cx.m0 = m0 → Ok cx env pre a w →
    c.wpIn (Fw r) n P (fun e a' w' => a'.defers = d ∧ e = ex.to ∧ ∃ env', Ok cx env' post { a' with defers := [] } w') { a with defers := d } w
theorem codeL_run {P : Program} {Γ : List (FuncId × Sp)} (hΓ : CtxOk P Γ) {m0 : Nat} {c : Code} {st post : St} {orc : Orc} {e : Ex} {obl : List Prop} (hc : calm c = true) (h : codeRun P Γ m0 c st orc post = some (e, obl)) (ho : AllT obl) (hm : m0 ≤ post.mem.length) : CodeOkL P m0 c st e post := by
  unfold codeRun at h
  split at h
  · rename_i e' st' o _ hx
    simp only [Option.some.injEq, Prod.mk.injEq] at h
    obtain ⟨rfl, rfl⟩ := h
    obtain ⟨h1, h2⟩ := AllT.append.1 ho
    intro r d n cx env a w hm0 hk
    refine wpIn_mono (exec_lift hΓ r d n c hc hx h1 hk) ?_
    rintro e' a' w' ⟨hd, rfl, env', hk'⟩
    exact ⟨hd, rfl, _, leSt_sound (by rw [hm0]; exact h2) (by rw [hm0]; exact hm) hk'⟩
  · cases h
end E
end Go.Proofs.Ytoincoicgfnbiaa

/- Runs in a world that is known: a slice that lay in memory from the beginning is brought in. No condition. -/
import Derived.Test.YtajdkbgbekdbmaaEC
import Derived.Test.YtajdkbgbekdbmaaEB
namespace Go.Proofs.Ytajdkbgbekdbmaa
set_option linter.unusedVariables false
set_option linter.unusedSimpArgs false
namespace E
open Go.RowKit
/-- Code that begins in a state, in a world that began as w0, ends so, in another one. -/
def CodeOkW (P : Program) (w0 : World) (m0 : Nat) (c : Code) (pre : St) (ex : Ex) (post : St) : Prop :=
  ∀ (cx : Cx) (env : Env) (a : Act) (w : World), cx.w0 = w0 → cx.S = NoS → cx.m0 = m0 → Ok cx env pre a w →
    c.wp P (fun e a' w' => e = ex.to ∧ ∃ env', Ok cx env' post a' w') a w
theorem CodeOk.inW {P : Program} {w0 : World} {m0 : Nat} {c : Code} {pre post : St} {ex : Ex} (h : CodeOk P m0 c pre ex post) : CodeOkW P w0 m0 c pre ex post :=
  fun cx env a w _ _ h3 hk => h cx env a w h3 hk
theorem CodeOkW.seq {P : Program} {w0 : World} {m0 : Nat} {c1 c2 : Code} {pre mid post : St} {ex : Ex} (h1 : CodeOkW P w0 m0 c1 pre .normal mid) (h2 : CodeOkW P w0 m0 c2 mid ex post) : CodeOkW P w0 m0 (.seq c1 c2) pre ex post := by
  intro cx env a w k1 k2 k3 hk
  refine wp_seq (wp_mono (h1 cx env a w k1 k2 k3 hk) ?_)
  rintro e' a' w' ⟨rfl, env', hk'⟩
  exact h2 cx env' a' w' k1 k2 k3 hk'
theorem loopW_ok {P : Program} {w0 : World} {m0 : Nat} {c : Code} {α : Type} (St : α → E.St) (I : α → Prop) (μ : α → Nat) {ex : Ex} {post : E.St} (hex : ex ≠ .normal)
    (round : ∀ x, I x → (∃ x', I x' ∧ μ x' < μ x ∧ CodeOkW P w0 m0 c (St x) .normal (St x')) ∨ CodeOkW P w0 m0 c (St x) ex post) {x : α} (hx : I x) : CodeOkW P w0 m0 (.loop c) (St x) ex post := by
  intro cx env a w k1 k2 hm0 hk
  refine wp_loop_ghost (fun n a w => ∃ x env, I x ∧ μ x = n ∧ Ok cx env (St x) a w) (μ x) ⟨x, env, hx, rfl, hk⟩ ?_
  rintro n a w ⟨x, env, hI, rfl, hk⟩
  rcases round x hI with ⟨x', hI', hlt, hc⟩ | hc
  · refine wp_mono (hc cx env a w k1 k2 hm0 hk) ?_
    rintro e a' w' ⟨rfl, env', hk'⟩
    exact ⟨μ x', hlt, x', env', hI', rfl, hk'⟩
  · refine wp_mono (hc cx env a w k1 k2 hm0 hk) ?_
    rintro e a' w' ⟨rfl, env', hk'⟩
    cases ex with
    | normal => exact (hex rfl).elim
    | exit id => exact ⟨rfl, env', hk'⟩
    | ret => exact ⟨rfl, env', hk'⟩
def LawOkW (P : Program) (w : World) (f : FuncId) (args : List SV) (mem : List Seg) (r : SV) : Prop :=
  ∀ (env : Env) (vals : List Value), AllSV env args vals → MemOk env mem w w NoS → Calls P f vals.toArray w fun e w' => ∃ v, e = .returned v ∧ r.rel (fun _ => none) v ∧ Ext w w'
def lawRunW (P : Program) (w : World) (Γ : List (FuncId × Sp)) (fn : Func) (args : List SV) (mem : List Seg) (orc : Orc) (r : SV) : Option (List Prop) :=
  match runFnC (CodeOkW P w) P Γ fn args mem orc with
  | some (r1, _, obl) => some (obl ++ leSV [] 0 r1 r)
  | none => none
theorem law_runW {P : Program} {w : World} {Γ : List (FuncId × Sp)} (hΓ : CtxOk P Γ) {f : FuncId} {fn : Func} (hf : P.funcs[f]? = some fn) {args : List SV} {mem : List Seg} {orc : Orc} {r : SV} {obl : List Prop} (h : lawRunW P w Γ fn args mem orc r = some obl) (ho : AllT obl) : LawOkW P w f args mem r := by
  unfold lawRunW at h
  split at h
  · rename_i r1 m1 o hx
    simp only [Option.some.injEq] at h
    subst h
    obtain ⟨h1, h2⟩ := AllT.append.1 ho
    intro env vals hv hm
    refine (fn_okC hΓ hf hx h1 env w w NoS vals (fun cx k1 k2 k3 c pre ex post k env a w' hk => k cx env a w' k1 k2 k3 hk) hv hm).mono ?_
    rintro e w' ⟨v, env', rfl, _, _, _, h3, h4⟩
    refine ⟨v, rfl, SV.rel_le ?_ (leSV_sound h2 h3), h4.ext⟩
    intro k u hk
    simp [Env.cutR] at hk
  · cases h
/-- A box's last cell is a slice that lay there from the beginning: it gets a handle. -/
theorem bring {cx : Cx} {env : Env} {tm : List SV} {mem : List Seg} {a : Act} {w : World} (hk : Ok cx env ⟨tm, mem⟩ a w) (hS : cx.S = NoS) {hb : Nat} {t : TypeId} {cs : List At} {ao : Option Addr} {n cap : Nat}
    (hbox : mem[hb]? = some (.box t (cs ++ [.val (.slice ao n cap)]))) {wd : Nat} {g : Nat → List At} (hs : ∀ env' : Env, env' mem.length = some (.slice ao n cap) → SegOk env' cx.w0 mem.length (.ro wd n g)) :
    Ok cx (env.put mem.length (.slice ao n cap)) ⟨tm, mem.set hb (.box t (cs ++ [.own mem.length])) ++ [.ro wd n g]⟩ a w := by
  have hm := hk.mem
  have hnone : env mem.length = none := hm.top _ (Nat.le_refl _)
  have hle : env.le (env.put mem.length (.slice ao n cap)) := by
    intro h v e
    show (if h = mem.length then _ else _) = _
    split
    · rename_i q; rw [q, hnone] at e; cases e
    · exact e
  have hoth : ∀ h, h ≠ mem.length → (env.put mem.length (.slice ao n cap)) h = env h := fun h q => by
    show (if h = mem.length then _ else _) = _
    rw [if_neg q]
  have hnew : (env.put mem.length (.slice ao n cap)) mem.length = some (.slice ao n cap) := by
    show (if mem.length = mem.length then _ else _) = _
    rw [if_pos rfl]
  have hbl : hb < mem.length := (List.getElem?_eq_some_iff.1 hbox).1
  have hlen : (mem.set hb (.box t (cs ++ [.own mem.length]))).length = mem.length := List.length_set
  have hget : ∀ h s, (mem.set hb (.box t (cs ++ [.own mem.length])) ++ [.ro wd n g])[h]? = some s →
      (h < mem.length ∧ ∃ s0, mem[h]? = some s0 ∧ s.excl = s0.excl ∧ (s.live → s0.live) ∧ (s = s0 ∨ (h = hb ∧ s = .box t (cs ++ [.own mem.length])))) ∨ (h = mem.length ∧ s = .ro wd n g) := by
    intro h s e
    by_cases q : h < mem.length
    · rw [List.getElem?_append_left (by rw [hlen]; exact q)] at e
      left
      refine ⟨q, ?_⟩
      by_cases q2 : h = hb
      · subst q2
        rw [List.getElem?_set_self q] at e
        cases e
        exact ⟨_, hbox, rfl, fun _ => trivial, .inr ⟨rfl, rfl⟩⟩
      · rw [List.getElem?_set_ne (Ne.symm q2)] at e
        exact ⟨s, e, rfl, fun k => k, .inl rfl⟩
    · rw [List.getElem?_append_right (by rw [hlen]; omega), hlen] at e
      right
      have : h - mem.length = 0 := by
        have := (List.getElem?_eq_some_iff.1 e).1
        simp at this; omega
      rw [this] at e
      simp at e
      exact ⟨by omega, e.symm⟩
  have hseg0 := hs _ hnew
  refine ⟨hk.defers, ?_, ⟨?_, ?_, ?_, ?_, hm.os, hm.tape, hm.output, hm.grow, hm.frame⟩, ?_, ?_⟩
  · exact AllSV.le hle hk.tm
  · intro h s e
    rcases hget h s e with ⟨q, s0, e0, _, _, r⟩ | ⟨rfl, rfl⟩
    · rcases r with rfl | ⟨rfl, rfl⟩
      · exact (hm.ok h s e0).le hle
      · obtain ⟨b, vs, h1, h2, h3⟩ := hm.ok h _ hbox
        refine ⟨b, vs, hle _ _ h1, h2, ?_⟩
        have key : ∀ (l : List At) (us : List Value), AllRel env (l ++ [.val (.slice ao n cap)]) us → AllRel (env.put mem.length (.slice ao n cap)) (l ++ [.own mem.length]) us := by
          intro l
          induction l with
          | nil =>
            intro us k
            match us, k with
            | [u], k =>
              have e1 : u = .slice ao n cap := k.1
              exact ⟨by subst e1; exact ⟨hnew, _, _, _, rfl⟩, trivial⟩
          | cons x l ih =>
            intro us k
            match us, k with
            | u :: us, k => exact ⟨At.rel_le hle k.1, ih us k.2⟩
        exact key cs _ h3
    · exact hseg0.heap (fun b hb' _ hlt => hm.frame b hlt (by rw [hS]; exact fun k => k))
  · intro h hh
    have hh2 : mem.length + 1 ≤ h := by
      have : (mem.set hb (Seg.box t (cs ++ [At.own mem.length])) ++ [Seg.ro wd n g]).length = mem.length + 1 := by rw [List.length_append, hlen]; rfl
      have hh' : (mem.set hb (Seg.box t (cs ++ [At.own mem.length])) ++ [Seg.ro wd n g]).length ≤ h := hh
      omega
    rw [hoth h (by omega)]
    exact hm.top h (show mem.length ≤ h by omega)
  · intro h k s t' b e1 e2 hne hx hl hb1 hb2
    rcases hget h s e1 with ⟨q1, s0, e10, x1, _, _⟩ | ⟨rfl, rfl⟩
    · have hb1' : blk env h b := by unfold blk at hb1 ⊢; rwa [hoth h (by omega)] at hb1
      rcases hget k t' e2 with ⟨q2, t0, e20, _, l2, _⟩ | ⟨rfl, rfl⟩
      · have hb2' : blk env k b := by unfold blk at hb2 ⊢; rwa [hoth k (by omega)] at hb2
        exact hm.sep h k s0 t0 b e10 e20 hne (x1 ▸ hx) (l2 hl) hb1' hb2'
      · rcases hm.own h s0 b e10 (x1 ▸ hx) hb1' with k1 | k1
        · have := hseg0.lt hl hb2
          omega
        · rw [hS] at k1; exact k1
    · cases hx
  · intro h s b e1 hx hb1
    rcases hget h s e1 with ⟨q1, s0, e10, x1, _, _⟩ | ⟨rfl, rfl⟩
    · have hb1' : blk env h b := by unfold blk at hb1 ⊢; rwa [hoth h (by omega)] at hb1
      exact hm.own h s0 b e10 (x1 ▸ hx) hb1'
    · cases hx
  · show cx.m0 ≤ (mem.set hb (Seg.box t (cs ++ [At.own mem.length])) ++ [Seg.ro wd n g]).length
    rw [List.length_append, hlen]
    have : cx.m0 ≤ mem.length := hk.long
    omega
  · intro h hh
    have : cx.m0 ≤ mem.length := hk.long
    rw [hoth h (by omega)]
    exact hk.fix h hh
theorem CodeOkW.bring {P : Program} {w0 : World} {m0 : Nat} {c : Code} {tm : List SV} {mem : List Seg} {post : St} {ex : Ex} {hb : Nat} {t : TypeId} {cs : List At} {ao : Option Addr} {n cap : Nat}
    (hbox : mem[hb]? = some (.box t (cs ++ [.val (.slice ao n cap)]))) {wd : Nat} {g : Nat → List At} (hs : ∀ env' : Env, env' mem.length = some (.slice ao n cap) → SegOk env' w0 mem.length (.ro wd n g))
    (h : CodeOkW P w0 m0 c ⟨tm, mem.set hb (.box t (cs ++ [.own mem.length])) ++ [.ro wd n g]⟩ ex post) : CodeOkW P w0 m0 c ⟨tm, mem⟩ ex post := by
  intro cx env a w k1 k2 k3 hk
  exact h cx _ a w k1 k2 k3 (E.bring hk k2 hbox (by rw [k1]; exact hs))
end E
end Go.Proofs.Ytajdkbgbekdbmaa

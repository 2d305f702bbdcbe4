/- A symbolic run of Go code: regions that draw their order: the run tells the truth. No condition. -/
import Derived.Test.YtlmeemilikladaaEF
namespace Go.Proofs.Ytlmeemilikladaa
set_option linter.unusedVariables false
set_option linter.unusedSimpArgs false
namespace E
open Go.RowKit

theorem decide?_refine {tm tm' : List SV} {orc orc' : List Bool} {x : Operand} {c : Bool} {obl : List Prop} (h : decide? tm orc x = some (c, tm', obl, orc')) (ho : AllT obl) :
    tm'.length = tm.length ∧ ∀ t env u, (tm.getD t .any).rel env u → (tm'.getD t .any).rel env u := by
  unfold decide? at h
  split at h
  · rename_i t
    split at h
    · simp only [Option.some.injEq, Prod.mk.injEq] at h
      obtain ⟨rfl, rfl, rfl, rfl⟩ := h
      exact ⟨rfl, fun _ _ _ k => k⟩
    · rename_i b hb
      split at h
      · simp only [Option.some.injEq, Prod.mk.injEq] at h
        obtain ⟨rfl, rfl, rfl, rfl⟩ := h
        simp only [AllT, and_true] at ho
        subst ho
        refine ⟨by simp, fun q env u k => ?_⟩
        by_cases e : t = q
        · subst e
          rw [hb] at k
          by_cases hl : t < tm.length
          · rw [List.getD_eq_getElem?_getD, List.getElem?_set_self hl]; exact k
          · rw [List.getD_eq_getElem?_getD, List.getElem?_eq_none (by rw [List.length_set]; exact Nat.le_of_not_lt hl)]; trivial
        · rw [List.getD_eq_getElem?_getD, List.getElem?_set_ne e, ← List.getD_eq_getElem?_getD]; exact k
      · cases h
    · cases h
  · simp only [Option.some.injEq, Prod.mk.injEq] at h
    obtain ⟨rfl, rfl, rfl, rfl⟩ := h
    exact ⟨rfl, fun _ _ _ k => k⟩
  · cases h

/-- An operand that is seen. -/
def Seen (env : Env) (a : Act) (tm : List SV) (x : Operand) : Prop := (get tm x).rel env (a.eval x)
theorem decide?_seen {env : Env} {tm tm' : List SV} {orc orc' : List Bool} {x : Operand} {c : Bool} {obl : List Prop} {a : Act} (h : decide? tm orc x = some (c, tm', obl, orc')) (ho : AllT obl) (hs : Seen env a tm x) : a.eval x = .bool c := by
  unfold decide? at h
  split at h
  · rename_i t
    have hv : (tm.getD t .any).rel env (a.tmps.getD t undef) := hs
    split at h
    · rename_i b hb
      simp only [Option.some.injEq, Prod.mk.injEq] at h
      obtain ⟨rfl, rfl, rfl, rfl⟩ := h
      rw [hb] at hv
      exact hv
    · rename_i b hb
      split at h
      · simp only [Option.some.injEq, Prod.mk.injEq] at h
        obtain ⟨rfl, rfl, rfl, rfl⟩ := h
        simp only [AllT, and_true] at ho
        subst ho
        rw [hb] at hv
        exact hv
      · cases h
    · cases h
  · simp only [Option.some.injEq, Prod.mk.injEq] at h
    obtain ⟨rfl, rfl, rfl, rfl⟩ := h
    rfl
  · cases h
theorem Seen.refine {env : Env} {a : Act} {tm tm' : List SV} {x : Operand} (h : Seen env a tm x) (hr : ∀ t env u, (tm.getD t .any).rel env u → (tm'.getD t .any).rel env u) : Seen env a tm' x := by
  cases x with
  | tmp t => exact hr t env _ h
  | const v => exact h
  | func f => exact h
  | global g => exact h

theorem seen_all {env : Env} {a : Act} {tm : List SV} : ∀ {l : List Operand}, (∀ x ∈ l, Seen env a tm x) → AllSV env (l.map (get tm)) (l.map a.eval)
  | [], _ => trivial
  | x :: l, h => ⟨h x (by simp), seen_all (fun y hy => h y (by simp [hy]))⟩
theorem seen_norm {env : Env} {a : Act} {tm : List SV} : ∀ {l : List Operand}, (∀ x ∈ l, Seen env a tm x) → AllSV env (l.map fun x => norm (get tm x)) (l.map a.eval)
  | [], _ => trivial
  | x :: l, h => ⟨norm_rel (h x (by simp)), seen_norm (fun y hy => h y (by simp [hy]))⟩

section
variable {P : Program} {Γ : List (FuncId × Sp)} {env : Env} {w0 w : World} {S : Nat → Prop}

theorem drawOp_good (hΓ : CtxOk P Γ) {vis : Operand → Bool} {o : Oper} {memM mem : List Seg} {nh : Nat} {tm : List SV} {orc : List Bool} {d : DR} {a : Act} (h : drawOp P Γ vis o.op memM nh tm orc = some d) (ho : AllT d.obl)
    (hs : ∀ x, vis x = true → Seen env a tm x) (hle : MemLe memM mem) (hm : MemOk env mem w0 w S) (hnh : d.inf.eff.makes = mk? o.op → mem[nh]? = some .gone ∧ env nh = none)
    {K : Act → World → Prop} {Q : Exit → Act → World → Prop} (hK : ∀ env' u w', env.le env' → (∀ h, (d.inf.eff.makes = true → h ≠ nh) → env' h = env h) → d.inf.v.rel env' u → MemOk env' (d.inf.eff.apply nh mem) w0 w' S → K (a.put o.dst u) w') :
    o.wp P a w K Q ∧ d.inf.nh = nh ∧ d.tm.length = tm.length ∧ (∀ t env u, (tm.getD t .any).rel env u → (d.tm.getD t .any).rel env u) := by
  obtain ⟨dst, op, type, pos, after, guard⟩ := o
  simp only at h hK
  unfold drawOp at h
  split at h
  · -- pick
    rename_i c x y
    split at h
    · rename_i hvc
      split at h
      · rename_i b tm1 obl1 orc1 hd
        split at h
        · rename_i hvz
          split at h
          · rename_i r hr
            simp only [Option.some.injEq] at h; subst h
            have h1 := decide?_seen hd ho (hs c hvc)
            obtain ⟨hl, hrf⟩ := decide?_refine hd ho
            refine ⟨wp_of_yield (u := a.eval (sel b x y)) (w' := w) (.inl ?_) (hK env _ w (Env.le_refl _) (fun _ _ => rfl) (by rw [← hr]; exact (hs _ hvz).refine hrf) hm), rfl, hl, hrf⟩
            simp only [execOp, h1, asBool, Sem.run_bind, Sem.run_pure, Result.andThen_ok]
            cases b <;> rfl
          · cases h
        · cases h
      · cases h
    · cases h
  · -- call
    rename_i f args ts
    split at h
    · rename_i hv
      split at h
      · rename_i g hl
        split at h
        · rename_i r obl hg
          simp only [Option.some.injEq] at h; subst h
          have hargs : AllSV env (args.toList.map fun x => norm (get tm x)) (args.toList.map a.eval) := seen_norm (fun x hx => hs x (List.all_eq_true.1 hv x hx))
          rcases hΓ f _ hl with ⟨he, hsp⟩ | ⟨g', e', hx⟩
          case inr =>
            obtain rfl := Sp.rd.inj e'
            obtain ⟨v, h1, h2⟩ := hx _ _ _ hg ho env _ hargs w
            refine ⟨wp_of_yield (u := v) (w' := w) (.inl ?_) (hK env v w (Env.le_refl _) (fun _ _ => rfl) h2 hm), rfl, rfl, fun _ _ _ k => k⟩
            have e : (#[] ++ args.map a.eval ++ #[]) = (args.toList.map a.eval).toArray := by
              apply Array.ext'; simp
            show (callFunc f (#[] ++ args.map a.eval ++ #[])).run P w = _
            rw [e]
            exact h1
          have hg' := hsp.1 _ _ _ _ hle hg
          have hc := hsp.2 _ _ _ _ hg' ho env w0 w S _ hargs hm
          refine ⟨?_, rfl, rfl, fun _ _ _ k => k⟩
          unfold Oper.wp
          have hrun : (execOp a.eval ⟨dst, .call { callee := .value (.func f), args := args, argTypes := ts }, type, pos, after, guard⟩).run P w = .ok (.enter f (args.toList.map a.eval).toArray) w := by
            have e : (#[] ++ args.map a.eval ++ #[]) = (args.toList.map a.eval).toArray := by
              apply Array.ext'; simp
            show (callFunc f (#[] ++ args.map a.eval ++ #[])).run P w = _
            rw [e]
            exact callFunc_run he _ w
          rw [hrun]
          show Calls P f _ w _
          refine hc.mono ?_
          rintro e w' ⟨v, rfl, hv', hx⟩
          exact hK env _ w' (Env.le_refl _) (fun _ _ => rfl) hv' (hm.trans hx)
        · cases h
      · cases h
    · cases h
  · rename_i op' n1 n2
    split at h
    · rename_i hv
      split at h
      · rename_i r eff obl hc
        split at h
        · rename_i hmk
          simp only [Option.some.injEq] at h; subst h
          have hx : AllSV env (op.operands.toList.map (get tm)) (op.operands.toList.map a.eval) := seen_all (fun x hx => hs x (List.all_eq_true.1 hv x hx))
          obtain ⟨u, env', w', h1, h2, h3⟩ := core_sound (o := ⟨dst, op, type, pos, after, guard⟩) (ρ := a.eval) (evalCore_mono hle hc) ho hx hm (hnh hmk).1 (hnh hmk).2
          refine ⟨wp_of_yield h1 (hK env' u w' h3.le (fun k hk => ?_) h2 h3.ok), rfl, rfl, fun _ _ _ k => k⟩
          by_cases hm' : eff.makes = true
          · exact h3.other k (hk hm')
          · rw [h3.same (by simpa using hm')]
        · cases h
      · cases h
    · cases h

theorem drawStep_good (hΓ : CtxOk P Γ) {ops : Array Oper} {vis : Operand → Bool} {i : Nat} {o : Oper} {memM mem : List Seg} {nh : Nat} {tm : List SV} {orc : List Bool} {d : DR} {a : Act} (hi : ops[i]? = some o) (h : drawStep P Γ ops vis o memM nh tm orc = some d) (ho : AllT d.obl)
    (hs : ∀ x, vis x = true → Seen env a tm x) (hle : MemLe memM mem) (hm : MemOk env mem w0 w S) (hnh : d.inf.eff.makes = mk? o.op → mem[nh]? = some .gone ∧ env nh = none)
    {K : Act → World → Prop} {Q : Exit → Act → World → Prop} (hK : ∀ env' u w', env.le env' → (∀ h, (d.inf.eff.makes = true → h ≠ nh) → env' h = env h) → d.inf.v.rel env' u → MemOk env' (d.inf.eff.apply nh mem) w0 w' S → K (a.put o.dst u) w') :
    wpOp P ops Q i K a w := by
  unfold wpOp
  simp only [hi]
  unfold drawStep at h
  split at h
  · rename_i hg
    rw [if_pos (by simp [Region.wanted, hg])]
    exact .inl (drawOp_good hΓ h ho hs hle hm hnh hK).1
  · rename_i j want hg
    split at h
    · rename_i q hq
      split at h
      · rename_i hv
        split at h
        · rename_i hun
          simp only [Option.some.injEq] at h; subst h
          have hw : Region.wanted o (yielded ops a.tmps) = false := by
            have hs' : (tm.getD q .any).rel env (a.tmps.getD q undef) := hs _ hv
            have hv' := isUndef_rel hun hs'
            have hy : yielded ops a.tmps j = none := by
              unfold yielded
              rw [hq]
              simp only [Option.bind_some]
              rw [Array.getD_eq_getD_getElem?] at hv'
              cases hq2 : a.tmps[q]? with
              | none => rfl
              | some u => rw [hq2] at hv'; have hv2 : u = undef := hv'; subst hv2; rfl
            simp [Region.wanted, hg, hy]
          rw [hw, if_neg (by simp)]
          exact hK env undef w (Env.le_refl _) (fun _ _ => rfl) (undef_rel env) hm
        split at h
        · rename_i c tm1 obl0 orc0 hd
          have key : AllT obl0 → Region.wanted o (yielded ops a.tmps) = (c == want) ∧ ∀ t env u, (tm.getD t .any).rel env u → (tm1.getD t .any).rel env u := by
            intro ho0
            have h1 := decide?_seen hd ho0 (hs _ hv)
            refine ⟨?_, (decide?_refine hd ho0).2⟩
            have hv' : a.tmps[q]? = some (.bool c) := by
              have h1' : a.tmps.getD q undef = .bool c := h1
              rw [Array.getD_eq_getD_getElem?] at h1'
              cases hq' : a.tmps[q]? with
              | none => rw [hq'] at h1'; cases h1'
              | some u => rw [hq'] at h1'; exact congrArg some h1'
            simp [Region.wanted, hg, yielded, hq, hv']
          split at h
          · rename_i hc
            split at h
            · rename_i r hr
              simp only [Option.some.injEq] at h; subst h
              obtain ⟨o1, o2⟩ := AllT.append.1 ho
              obtain ⟨k1, k2⟩ := key o1
              rw [k1, if_pos hc]
              exact .inl (drawOp_good hΓ hr o2 (fun x hx => (hs x hx).refine k2) hle hm hnh hK).1
            · cases h
          · rename_i hc
            simp only [Option.some.injEq] at h; subst h
            obtain ⟨k1, k2⟩ := key ho
            rw [k1, if_neg hc]
            exact hK env undef w (Env.le_refl _) (fun _ _ => rfl) (undef_rel env) hm
        · cases h
      · cases h
    · cases h

theorem drawStep_facts {ops : Array Oper} {vis : Operand → Bool} {o : Oper} {memM : List Seg} {nh : Nat} {tm : List SV} {orc : List Bool} {d : DR} (h : drawStep P Γ ops vis o memM nh tm orc = some d) (ho : AllT d.obl) :
    d.inf.nh = nh ∧ (d.inf.eff.makes = true → mk? o.op = true) ∧ d.tm.length = tm.length ∧ (∀ t env u, (tm.getD t .any).rel env u → (d.tm.getD t .any).rel env u) := by
  have one : ∀ {tm : List SV} {orc : List Bool} {d : DR}, drawOp P Γ vis o.op memM nh tm orc = some d → AllT d.obl → d.inf.nh = nh ∧ (d.inf.eff.makes = true → mk? o.op = true) ∧ d.tm.length = tm.length ∧ (∀ t env u, (tm.getD t .any).rel env u → (d.tm.getD t .any).rel env u) := by
    intro tm orc d h ho
    unfold drawOp at h
    split at h
    · split at h
      · split at h
        · rename_i hd
          split at h
          · split at h
            · simp only [Option.some.injEq] at h; subst h
              obtain ⟨hl, hrf⟩ := decide?_refine hd ho
              exact ⟨rfl, (fun e => by cases e), hl, hrf⟩
            · cases h
          · cases h
        · cases h
      · cases h
    · split at h
      · split at h
        · split at h
          · simp only [Option.some.injEq] at h; subst h
            exact ⟨rfl, (fun e => by cases e), rfl, fun _ _ _ k => k⟩
          · cases h
        · cases h
      · cases h
    · split at h
      · split at h
        · split at h
          · rename_i hmk
            simp only [Option.some.injEq] at h; subst h
            exact ⟨rfl, (fun e => by rw [← hmk]; exact e), rfl, fun _ _ _ k => k⟩
          · cases h
        · cases h
      · cases h
  unfold drawStep at h
  split at h
  · exact one h ho
  · split at h
    · split at h
      · split at h
        · simp only [Option.some.injEq] at h; subst h
          exact ⟨rfl, (fun e => by cases e), rfl, fun _ _ _ k => k⟩
        split at h
        · rename_i hd
          split at h
          · split at h
            · rename_i r hr
              simp only [Option.some.injEq] at h; subst h
              obtain ⟨o1, o2⟩ := AllT.append.1 ho
              obtain ⟨k1, k2, k3, k4⟩ := one hr o2
              obtain ⟨hl, hrf⟩ := decide?_refine hd o1
              exact ⟨k1, k2, k3.trans hl, fun t env u k => k4 t env u (hrf t env u k)⟩
            · cases h
          · simp only [Option.some.injEq] at h; subst h
            obtain ⟨hl, hrf⟩ := decide?_refine hd ho
            exact ⟨rfl, (fun e => by cases e), hl, hrf⟩
        · cases h
      · cases h
    · cases h

/-- What stands at each place of the run. -/
theorem drawGo_spec {ops : Array Oper} {masks : List Nat} {dsts : List (Option Tmp)} {W : List (List Nat)} {r : Nat} : ∀ {l : List Oper} {i nh : Nat} {tm tmF : List SV} {mem memF : List Seg} {orc orcF : List Bool} {infs : List Inf} {obl : List Prop},
    drawGo P Γ ops masks dsts W r l i nh tm mem orc = some (infs, tmF, memF, obl, orcF) → AllT obl →
    ∃ (T : Nat → List SV) (M : Nat → List Seg) (N : Nat → Nat), T 0 = tm ∧ M 0 = mem ∧ infs.length = l.length ∧ T l.length = tmF ∧ M l.length = memF ∧
      ∀ k o, l[k]? = some o → ∃ x orc d, infs[k]? = some x ∧ drawStep P Γ ops (visB masks dsts (i + k)) o (maskMem masks (i + k) W 0 (M k)) (if mk? o.op then N k else r) (T k) orc = some d ∧ d.inf = x ∧ AllT d.obl ∧
        T (k + 1) = put d.tm o.dst x.v ∧ M (k + 1) = x.app (M k)
  | [], i, nh, tm, tmF, mem, memF, orc, orcF, infs, obl, h, ho => by
    simp only [drawGo, Option.some.injEq, Prod.mk.injEq] at h
    obtain ⟨rfl, rfl, rfl, rfl, rfl⟩ := h
    exact ⟨fun _ => tm, fun _ => mem, fun _ => nh, rfl, rfl, rfl, rfl, rfl, fun k o e => by simp at e⟩
  | o :: os, i, nh, tm, tmF, mem, memF, orc, orcF, infs, obl, h, ho => by
    simp only [drawGo] at h
    split at h
    · rename_i d hd
      split at h
      · rename_i infs' tm' mem' obl' orc' hr
        simp only [Option.some.injEq, Prod.mk.injEq] at h
        obtain ⟨rfl, rfl, rfl, rfl, rfl⟩ := h
        obtain ⟨o1, o2⟩ := AllT.append.1 ho
        obtain ⟨T, M, N, t0, m0, hlen, tF, mF, hall⟩ := drawGo_spec hr o2
        refine ⟨fun | 0 => tm | k + 1 => T k, fun | 0 => mem | k + 1 => M k, fun | 0 => nh | k + 1 => N k, rfl, rfl, by simp [hlen], tF, mF, fun k o' hk => ?_⟩
        cases k with
        | zero =>
          simp at hk
          subst hk
          exact ⟨d.inf, orc, d, by simp, hd, rfl, o1, t0, m0⟩
        | succ k =>
          simp at hk
          obtain ⟨x, orc1, d1, e1, e2, e3⟩ := hall k o' hk
          refine ⟨x, orc1, d1, by simpa using e1, ?_, e3⟩
          rw [show i + (k + 1) = i + 1 + k by omega]
          exact e2
      · cases h
    · cases h
end
end E
end Go.Proofs.Ytlmeemilikladaa

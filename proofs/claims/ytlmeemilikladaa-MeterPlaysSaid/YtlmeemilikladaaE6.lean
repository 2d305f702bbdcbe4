/- A symbolic run of Go code: each operation yields what the run says. No condition. -/
import Derived.Test.YtlmeemilikladaaE5
namespace Go.Proofs.Ytlmeemilikladaa
set_option linter.unusedVariables false
set_option linter.unusedSimpArgs false
namespace E
open Go.RowKit
section
variable {P : Program} {env : Env} {mem : List Seg} {w0 w : World} {S : Nat → Prop} {nh : Nat}

theorem sliceArgs_rel {ρ : Operand → Value} {lo hi : Option Operand} {xs : List SV} {l h : Option Int} (hs : sliceArgs lo hi xs = some (l, h)) (hx : AllSV env xs ((lo.toArray ++ hi.toArray).toList.map ρ)) :
    ∃ kl kh : IntKind, lo.map ρ = l.map (.int kl) ∧ hi.map ρ = h.map (.int kh) := by
  unfold sliceArgs at hs
  split at hs
  · simp only [Option.some.injEq, Prod.mk.injEq] at hs
    obtain ⟨rfl, rfl⟩ := hs
    exact ⟨.i64, .i64, rfl, rfl⟩
  · rename_i p x
    rw [Option.map_eq_some_iff] at hs
    obtain ⟨⟨k, n⟩, h1, e⟩ := hs
    obtain ⟨rfl, rfl⟩ := Prod.mk.inj e
    have := intOf?_rel h1 hx.1
    exact ⟨k, .i64, by simpa using this, rfl⟩
  · rename_i p x
    rw [Option.map_eq_some_iff] at hs
    obtain ⟨⟨k, n⟩, h1, e⟩ := hs
    obtain ⟨rfl, rfl⟩ := Prod.mk.inj e
    have := intOf?_rel h1 hx.1
    exact ⟨.i64, k, rfl, by simpa using this⟩
  · rename_i p q x y
    split at hs
    · rename_i a b h1 h2
      simp only [Option.some.injEq, Prod.mk.injEq] at hs
      obtain ⟨rfl, rfl⟩ := hs
      have e1 := intOf?_rel (k := a.1) (a := a.2) h1 hx.1
      have e2 := intOf?_rel (k := b.1) (a := b.2) h2 hx.2.1
      exact ⟨a.1, b.1, by simpa using e1, by simpa using e2⟩
    · cases hs
  · cases hs

theorem core_sound {o : Oper} {ρ : Operand → Value} {xs : List SV} {r : SV} {eff : Eff} {obl : List Prop} (h : evalCore P o.op xs mem nh = some (r, eff, obl)) (ho : AllT obl)
    (hx : AllSV env xs (o.op.operands.toList.map ρ)) (hm : MemOk env mem w0 w S) (hg : mem[nh]? = some .gone) (hn : env nh = none) :
    ∃ u env' w', Yield P ρ o w u w' ∧ r.rel env' u ∧ After env env' eff mem w0 w' S nh := by
  obtain ⟨dst, op, type, pos, after, guard⟩ := o
  simp only at h hx
  unfold evalCore at h
  split at h
  · -- move
    simp only [Option.some.injEq, Prod.mk.injEq] at h
    obtain ⟨rfl, rfl, rfl⟩ := h
    exact ⟨_, _, _, .inl rfl, hx.1, After.none hm⟩
  · simp only [Option.some.injEq, Prod.mk.injEq] at h
    obtain ⟨rfl, rfl, rfl⟩ := h
    exact ⟨_, _, _, .inl rfl, hx.1, After.none hm⟩
  · simp only [Option.some.injEq, Prod.mk.injEq] at h
    obtain ⟨rfl, rfl, rfl⟩ := h
    exact ⟨_, _, _, .inl rfl, hx.1, After.none hm⟩
  · simp only [Option.some.injEq, Prod.mk.injEq] at h
    obtain ⟨rfl, rfl, rfl⟩ := h
    exact ⟨_, _, _, .inl rfl, hx.1, After.none hm⟩
  · -- extract
    rename_i x i l
    split at h
    · rename_i y hy
      simp only [Option.some.injEq, Prod.mk.injEq] at h
      obtain ⟨rfl, rfl, rfl⟩ := h
      obtain ⟨vs, hv, hl⟩ := hx.1
      have hget : ∀ {l : List NV} {vs : List Value} {i : Nat} {a : NV}, AllNV env l vs → l[i]? = some a → ∃ v, vs[i]? = some v ∧ a.rel env v := by
        intro l
        induction l with
        | nil => intro vs i a _ h; simp at h
        | cons b l ih =>
          intro vs i a k h
          cases vs with
          | nil => exact k.elim
          | cons v vs =>
            cases i with
            | zero => simp at h; subst h; exact ⟨v, by simp, k.1⟩
            | succ i => simp at h; obtain ⟨u, h1, h2⟩ := ih k.2 h; exact ⟨u, by simpa using h1, h2⟩
      obtain ⟨v, h1, h2⟩ := hget hl hy
      refine ⟨v, _, _, .inl ?_, h2, After.none hm⟩
      have h1' : vs[i]? = some v := by simpa using h1
      show (do pure (.value (← Instr.extract (ρ x) i)) : Sem Next).run P w = _
      refine run_pureValue _ ?_
      rw [hv]
      simp [Instr.extract, h1']
    · cases h
  · -- binOp
    rename_i bop t x y yt a b
    split at h
    · rename_i v obl' hb
      simp only [Option.some.injEq, Prod.mk.injEq] at h
      obtain ⟨rfl, rfl, rfl⟩ := h
      refine ⟨v, _, _, .inl ?_, rfl, After.none hm⟩
      exact run_pureValue _ (run_evBinOp hb ho hx.1 hx.2.1 x y w)
    · cases h
  · -- unOp
    split at h
    · rename_i u e1
      split at h
      · rename_i v e2
        simp only [Option.some.injEq, Prod.mk.injEq] at h
        obtain ⟨rfl, rfl, rfl⟩ := h
        refine ⟨v, _, _, .inl ?_, rfl, After.none hm⟩
        refine run_pureValue _ ?_
        rw [plain_rel e1 hx.1]
        exact run_evUn e2 w
      · cases h
    · cases h
  · -- convert
    split at h
    · rename_i u e1
      split at h
      · rename_i v e2
        simp only [Option.some.injEq, Prod.mk.injEq] at h
        obtain ⟨rfl, rfl, rfl⟩ := h
        refine ⟨v, _, _, .inl ?_, rfl, After.none hm⟩
        refine run_pureValue _ ?_
        rw [plain_rel e1 hx.1]
        exact run_evConv e2 w
      · cases h
    · cases h
  · -- field
    split at h
    · rename_i r' e1
      simp only [Option.some.injEq, Prod.mk.injEq] at h
      obtain ⟨rfl, rfl, rfl⟩ := h
      obtain ⟨u, h1, h2⟩ := run_evField e1 hx.1 w
      exact ⟨u, _, _, .inl (run_pureValue _ h1), h2, After.none hm⟩
    · cases h
  · -- index
    split at h
    · rename_i k i e1
      split at h
      · rename_i r' obl' e2
        simp only [Option.some.injEq, Prod.mk.injEq] at h
        obtain ⟨rfl, rfl, rfl⟩ := h
        obtain ⟨u, h1, h2⟩ := run_evIndex (k := k) e2 ho hx.1 w
        refine ⟨u, _, _, .inl (run_pureValue _ ?_), h2, After.none hm⟩
        rw [intOf?_rel e1 hx.2.1]
        exact h1
      · cases h
    · cases h
  · -- nilCheck
    rename_i x a
    split at h
    · rename_i hp
      simp only [Option.some.injEq, Prod.mk.injEq] at h
      obtain ⟨rfl, rfl, rfl⟩ := h
      obtain ⟨p, e⟩ := isPtr_rel hp hx.1
      refine ⟨.pointer (some p), _, _, .inl ?_, by rw [← e]; exact hx.1, After.none hm⟩
      have e' : ρ x = .pointer (some p) := e
      simp [execOp, e']
    · cases h
  · -- box
    split at h
    · rename_i r' eff' e1
      simp only [Option.some.injEq, Prod.mk.injEq] at h
      obtain ⟨rfl, rfl, rfl⟩ := h
      obtain ⟨u, env', w', h1, h2, h3⟩ := run_evBox e1 hm hg hn hx.1
      exact ⟨u, env', w', .inl (run_pureValue _ h1), h2, h3⟩
    · cases h
  · -- alloc
    split at h
    · rename_i r' eff' e1
      simp only [Option.some.injEq, Prod.mk.injEq] at h
      obtain ⟨rfl, rfl, rfl⟩ := h
      obtain ⟨u, env', w', h1, h2, h3⟩ := run_evAlloc e1 hm hg hn
      exact ⟨u, env', w', .inl (run_pureValue _ h1), h2, h3⟩
    · cases h
  · -- load
    split at h
    · rename_i r' obl' e1
      simp only [Option.some.injEq, Prod.mk.injEq] at h
      obtain ⟨rfl, rfl, rfl⟩ := h
      obtain ⟨u, h1, h2⟩ := run_evLoad e1 ho hm hx.1
      exact ⟨u, _, _, .inl (run_pureValue _ h1), h2, After.none hm⟩
    · cases h
  · -- store
    split at h
    · rename_i hd s obl' e1
      simp only [Option.some.injEq, Prod.mk.injEq] at h
      obtain ⟨rfl, rfl, rfl⟩ := h
      obtain ⟨w', h1, h2⟩ := run_evStore e1 ho hm hx.1 hx.2.1
      refine ⟨undef, env, w', .inr ⟨?_, rfl⟩, trivial, Env.le_refl _, fun _ _ => rfl, h2, (fun _ => rfl), fun _ _ e => by cases e; exact evStore_excl e1⟩
      simp only [execOp, Sem.run_bind, h1, Result.andThen_ok, Sem.run_pure]
    · cases h
  · -- fieldAddr
    split at h
    · rename_i r' e1
      simp only [Option.some.injEq, Prod.mk.injEq] at h
      obtain ⟨rfl, rfl, rfl⟩ := h
      obtain ⟨u, h1, h2⟩ := run_evFieldAddr e1 hx.1 w
      exact ⟨u, _, _, .inl (run_pureValue _ h1), h2, After.none hm⟩
    · cases h
  · -- indexAddr
    split at h
    · rename_i k i e1
      split at h
      · rename_i r' obl' e2
        simp only [Option.some.injEq, Prod.mk.injEq] at h
        obtain ⟨rfl, rfl, rfl⟩ := h
        obtain ⟨u, h1, h2⟩ := run_evIndexAddr (k := k) e2 ho hm hx.1
        refine ⟨u, _, _, .inl (run_pureValue _ ?_), h2, After.none hm⟩
        rw [intOf?_rel e1 hx.2.1]
        exact h1
      · cases h
    · cases h
  · -- build
    rename_i _ t ps
    split at h
    · rename_i l e1
      split at h
      · rename_i r' e2
        simp only [Option.some.injEq, Prod.mk.injEq] at h
        obtain ⟨rfl, rfl, rfl⟩ := h
        have hp : AllParts env l ((ps.map fun (i, x) => (i, ρ x)).toList) := by
          have := pairUp_rel (ρ := ρ) e1 (by simpa [Op.operands, Function.comp_def] using hx)
          simpa using this
        obtain ⟨u, h1, h2⟩ := run_evBuild e2 hp w
        exact ⟨u, _, _, .inl (run_pureValue _ h1), h2, After.none hm⟩
      · cases h
    · cases h
  · -- buildSlice
    rename_i _ t len ps
    split at h
    · rename_i l e1
      split at h
      · rename_i r' eff' e2
        simp only [Option.some.injEq, Prod.mk.injEq] at h
        obtain ⟨rfl, rfl, rfl⟩ := h
        have hp : AllParts env l ((ps.map fun (i, x) => (i, ρ x)).toList) := by
          have := pairUp_rel (ρ := ρ) e1 (by simpa [Op.operands, Function.comp_def] using hx)
          simpa using this
        obtain ⟨u, env', w', h1, h2, h3⟩ := run_evBuildSlice e2 hp hm hg hn
        exact ⟨u, _, _, .inl (run_pureValue _ h1), h2, h3⟩
      · cases h
    · cases h
  · -- makeSlice
    split at h
    · rename_i kl l kc c e1 e2
      obtain ⟨u, env', w', h1, h2, h3⟩ := run_evMake (kl := kl) (kc := kc) h ho hm hg hn
      refine ⟨u, _, _, .inl (run_pureValue _ ?_), h2, h3⟩
      rw [intOf?_rel e1 hx.1, intOf?_rel e2 hx.2.1]
      exact h1
    · cases h
  · -- slice of a text
    rename_i t x lo hi s xs'
    split at h
    · rename_i l hh e1 e2
      simp only [Option.some.injEq, Prod.mk.injEq] at h
      obtain ⟨rfl, rfl, rfl⟩ := h
      have hxs : AllSV env xs' ((lo.toArray ++ hi.toArray).toList.map ρ) := by
        have := hx
        simp only [Op.operands, Option.toArray, Array.append_empty] at this
        have e : ((#[x] ++ lo.toArray ++ hi.toArray).toList.map ρ) = ρ x :: ((lo.toArray ++ hi.toArray).toList.map ρ) := by simp
        simp only [Op.operands, Option.toArray_none, Array.append_empty] at hx
        rw [e] at hx
        exact hx.2
      obtain ⟨kl, kh, el, eh⟩ := sliceArgs_rel e2 hxs
      have hv : ρ x = .string s := by
        have e : ((#[x] ++ lo.toArray ++ hi.toArray).toList.map ρ) = ρ x :: ((lo.toArray ++ hi.toArray).toList.map ρ) := by simp
        simp only [Op.operands, Option.toArray_none, Array.append_empty] at hx
        rw [e] at hx
        exact hx.1
      refine ⟨.string (evSliceStr s l hh).1, _, _, .inl (run_pureValue _ ?_), rfl, After.none hm⟩
      rw [hv, el, eh]
      exact run_evSliceStr e1 s l hh kl kh rfl ho w
    · cases h
  · -- len
    rename_i args ts x
    split at h
    · rename_i t ht
      split at h
      · rename_i n e1
        simp only [Option.some.injEq, Prod.mk.injEq] at h
        obtain ⟨rfl, rfl, rfl⟩ := h
        obtain ⟨v, hv, hx'⟩ := all1 rfl hx
        have ha : args.map ρ = #[v] := by
          apply Array.ext'
          simpa [Op.operands, Call.operands] using hv
        refine ⟨.int .i64 n, _, _, .inl ?_, rfl, After.none hm⟩
        have := run_evLen (ty := type) e1 hm hx' ts ht
        simp only [execOp, resolve, Sem.run_bind, Sem.run_pure, Result.andThen_ok, invoke, builtin, ha, this]
      · cases h
    · cases h
  · -- min
    rename_i _ args ts
    split at h
    · rename_i k n e1
      simp only [Option.some.injEq, Prod.mk.injEq] at h
      obtain ⟨rfl, rfl, rfl⟩ := h
      refine ⟨.int k n, _, _, .inl ?_, rfl, After.none hm⟩
      have := run_evMin (P := P) ts type e1 hx w
      have ha : (((Op.call { callee := .builtin .min, args := args, argTypes := ts }).operands.toList.map ρ).toArray) = args.map ρ := by
        apply Array.ext'
        simp [Op.operands, Call.operands]
      rw [ha] at this
      simp only [execOp, resolve, Sem.run_bind, Sem.run_pure, Result.andThen_ok, invoke, builtin, this]
    · cases h
  · -- max
    rename_i _ args ts
    split at h
    · rename_i k n e1
      simp only [Option.some.injEq, Prod.mk.injEq] at h
      obtain ⟨rfl, rfl, rfl⟩ := h
      refine ⟨.int k n, _, _, .inl ?_, rfl, After.none hm⟩
      have := run_evMax (P := P) ts type e1 hx w
      have ha : (((Op.call { callee := .builtin .max, args := args, argTypes := ts }).operands.toList.map ρ).toArray) = args.map ρ := by
        apply Array.ext'
        simp [Op.operands, Call.operands]
      rw [ha] at this
      simp only [execOp, resolve, Sem.run_bind, Sem.run_pure, Result.andThen_ok, invoke, builtin, this]
    · cases h
  · -- append
    rename_i args ts s x
    split at h
    · rename_i t t' ets
      split at h
      · rename_i e
        subst e
        obtain ⟨v, u, hv, hs, hx'⟩ := all2 rfl hx
        have ha : args.map ρ = #[v, u] := by
          apply Array.ext'
          simpa [Op.operands, Call.operands] using hv
        have hts : ts = #[t, t] := by apply Array.ext'; simpa using ets
        obtain ⟨r', env', w', h1, h2, h3⟩ := run_evAppend (ty := type) h ho hm hg hn hs hx'
        refine ⟨r', env', w', .inl ?_, h2, h3⟩
        simp only [execOp, resolve, Sem.run_bind, Sem.run_pure, Result.andThen_ok, invoke, builtin, ha, hts, h1]
      · cases h
    · cases h
  · cases h
end
end E
end Go.Proofs.Ytlmeemilikladaa

/- A symbolic run of Go code: code, loops, functions. No condition. -/
import Derived.Test.YtpldacdgifekmaaEH
namespace Go.Proofs.Ytpldacdgifekmaa
set_option linter.unusedVariables false
set_option linter.unusedSimpArgs false
namespace E
open Go.RowKit

/-! one state says more than another -/
def leAt (m : Nat) : At → At → List Prop
  | _, .any => []
  | .val (.int k a), .val (.int k' b) => if k = k' then [a = b] else [False]
  | .val (.bool a), .val (.bool b) => [a = b]
  | .bit a, .val (.bool b) => [a = b]
  | .val (.bool a), .bit b => [a = b]
  | .bit a, .bit b => [a = b]
  | .val (.string a), .val (.string b) => [a = b]
  | .val a, .val b => [a = b]
  | .ptr h j, .ptr h' j' => if h = h' ∧ h' < m then [j = j'] else [False]
  | .eptr h wd i j, .eptr h' wd' i' j' => if h = h' ∧ wd = wd' ∧ h' < m then [i = i', j = j'] else [False]
  | .own h, .own h' => if h = h' ∧ h' < m then [] else [False]
  | _, _ => [False]
def leAts (m : Nat) : List At → List At → List Prop
  | [], [] => []
  | x :: xs, y :: ys => leAt m x y ++ leAts m xs ys
  | _, _ => [False]
def leNV (m : Nat) : NV → NV → List Prop
  | .one a, .one b => leAt m a b
  | .agg a, .agg b => leAts m a b
  | _, _ => [False]
def leNVs (m : Nat) : List NV → List NV → List Prop
  | [], [] => []
  | x :: xs, y :: ys => leNV m x y ++ leNVs m xs ys
  | _, _ => [False]
def leSV (m : Nat) : SV → SV → List Prop
  | _, .any => []
  | .nv a, .nv b => leNV m a b
  | .tup a, .tup b => leNVs m a b
  | _, _ => [False]
def leTm (m : Nat) : List SV → List SV → List Prop
  | [], [] => []
  | x :: xs, y :: ys => leSV m x y ++ leTm m xs ys
  | _, _ => [False]
def leSeg (m : Nat) : Seg → Seg → List Prop
  | _, .gone => []
  | .box t a, .box t' b => if t = t' then leAts m a b else [False]
  | .ro wd n g, .ro wd' n' g' => if wd = wd' then [n = n', ∀ i, i < n → AllT (leAts m (g i) (g' i))] else [False]
  | .row e wd n g, .row e' wd' n' g' => if e = e' ∧ wd = wd' then [n = n', ∀ i, i < n → AllT (leAts m (g i) (g' i))] else [False]
  | _, _ => [False]
def leMem (m : Nat) : List Seg → List Seg → List Prop
  | _, [] => []
  | x :: xs, y :: ys => leSeg m x y ++ leMem m xs ys
  | [], _ :: _ => [False]
def leSt (x y : St) : List Prop := leTm y.mem.length x.tm y.tm ++ leMem y.mem.length x.mem y.mem

def Env.cut (env : Env) (m : Nat) : Env := fun h => if h < m then env h else none

section
variable {env : Env} {m : Nat}
theorem Env.cut_lt {h : Nat} (k : h < m) : env.cut m h = env h := by simp [Env.cut, k]

theorem leAt_sound {x y : At} {v : Value} (h : AllT (leAt m x y)) (k : x.rel env v) : y.rel (env.cut m) v := by
  unfold leAt at h
  split at h
  · trivial
  · split at h
    · rename_i e
      simp only [AllT, and_true] at h
      subst e; subst h; exact k
    · exact h.1.elim
  · simp only [AllT, and_true] at h
    subst h; exact k
  · simp only [AllT, and_true] at h
    subst h; exact k
  · simp only [AllT, and_true] at h
    subst h; exact k
  · simp only [AllT, and_true] at h
    subst h; exact k
  · simp only [AllT, and_true] at h
    subst h; exact k
  · simp only [AllT, and_true] at h
    subst h; exact k
  · split at h
    · rename_i e
      obtain ⟨rfl, hl⟩ := e
      simp only [AllT, and_true] at h
      subst h
      obtain ⟨u, a, e1, e2, e3⟩ := k
      exact ⟨u, a, by rw [Env.cut_lt hl]; exact e1, e2, e3⟩
    · exact h.1.elim
  · split at h
    · rename_i e
      obtain ⟨rfl, rfl, hl⟩ := e
      simp only [AllT, and_true] at h
      obtain ⟨rfl, rfl⟩ := h
      obtain ⟨u, a, e1, e2, e3⟩ := k
      exact ⟨u, a, by rw [Env.cut_lt hl]; exact e1, e2, e3⟩
    · exact h.1.elim
  · split at h
    · rename_i e
      obtain ⟨rfl, hl⟩ := e
      exact ⟨by rw [Env.cut_lt hl]; exact k.1, k.2⟩
    · exact h.1.elim
  · exact h.1.elim
theorem leAts_sound : ∀ {l r : List At} {vs : List Value}, AllT (leAts m l r) → AllRel env l vs → AllRel (env.cut m) r vs
  | [], [], [], _, _ => trivial
  | x :: xs, y :: ys, v :: vs, h, k => by
    obtain ⟨h1, h2⟩ := AllT.append.1 h
    exact ⟨leAt_sound h1 k.1, leAts_sound h2 k.2⟩
  | [], y :: ys, _, h, _ => h.1.elim
  | x :: xs, [], _, h, _ => h.1.elim
theorem leNV_sound {x y : NV} {v : Value} (h : AllT (leNV m x y)) (k : x.rel env v) : y.rel (env.cut m) v := by
  cases x <;> cases y
  · exact leAt_sound h k
  · exact h.1.elim
  · exact h.1.elim
  · obtain ⟨cs, rfl, k⟩ := k
    exact ⟨cs, rfl, leAts_sound h k⟩
theorem leNVs_sound : ∀ {l r : List NV} {vs : List Value}, AllT (leNVs m l r) → AllNV env l vs → AllNV (env.cut m) r vs
  | [], [], [], _, _ => trivial
  | x :: xs, y :: ys, v :: vs, h, k => by
    obtain ⟨h1, h2⟩ := AllT.append.1 h
    exact ⟨leNV_sound h1 k.1, leNVs_sound h2 k.2⟩
  | [], y :: ys, _, h, _ => h.1.elim
  | x :: xs, [], _, h, _ => h.1.elim
theorem leSV_sound {x y : SV} {v : Value} (h : AllT (leSV m x y)) (k : x.rel env v) : y.rel (env.cut m) v := by
  unfold leSV at h
  split at h
  · trivial
  · exact leNV_sound h k
  · obtain ⟨cs, rfl, k⟩ := k
    exact ⟨cs, rfl, leNVs_sound h k⟩
  · exact h.1.elim
theorem leTm_sound : ∀ {l r : List SV} {vs : List Value}, AllT (leTm m l r) → AllSV env l vs → AllSV (env.cut m) r vs
  | [], [], [], _, _ => trivial
  | x :: xs, y :: ys, v :: vs, h, k => by
    obtain ⟨h1, h2⟩ := AllT.append.1 h
    exact ⟨leSV_sound h1 k.1, leTm_sound h2 k.2⟩
  | [], y :: ys, _, h, _ => h.1.elim
  | x :: xs, [], _, h, _ => h.1.elim
theorem leMem_get : ∀ {l r : List Seg}, AllT (leMem m l r) → ∀ (h : Nat) (s : Seg), r[h]? = some s → ∃ t, l[h]? = some t ∧ AllT (leSeg m t s)
  | _, [], _, h, s, e => by simp at e
  | x :: xs, y :: ys, k, 0, s, e => by
    obtain ⟨h1, h2⟩ := AllT.append.1 k
    simp at e; subst e
    exact ⟨x, by simp, h1⟩
  | x :: xs, y :: ys, k, h + 1, s, e => by
    obtain ⟨h1, h2⟩ := AllT.append.1 k
    simp at e
    obtain ⟨t, e1, e2⟩ := leMem_get h2 h s e
    exact ⟨t, by simpa using e1, e2⟩
  | [], y :: ys, k, _, _, _ => k.1.elim
theorem leMem_length : ∀ {l r : List Seg}, AllT (leMem m l r) → r.length ≤ l.length
  | _, [], _ => by simp
  | x :: xs, y :: ys, k => by
    have := leMem_length (AllT.append.1 k).2
    simpa using this
  | [], y :: ys, k => k.1.elim
theorem leElems {wd n : Nat} {g g' : Nat → List At} {cs : List Value} (h : ∀ i, i < n → AllT (leAts m (g i) (g' i))) (k : Elems env wd n g cs) : Elems (env.cut m) wd n g' cs :=
  ⟨k.1, fun i hi => leAts_sound (h i hi) (k.2.1 i hi), k.2.2⟩
theorem leSeg_sound {s t : Seg} {w : World} {h : Nat} (hs : AllT (leSeg m s t)) (hl : h < m) (k : SegOk env w h s) : SegOk (env.cut m) w h t := by
  unfold leSeg at hs
  split at hs
  · trivial
  · split at hs
    · rename_i e
      subst e
      obtain ⟨b, cs, h1, h2, h3⟩ := k
      exact ⟨b, cs, by rw [Env.cut_lt hl]; exact h1, h2, leAts_sound hs h3⟩
    · exact hs.1.elim
  · split at hs
    · rename_i e
      subst e
      simp only [AllT, and_true] at hs
      obtain ⟨rfl, hs⟩ := hs
      obtain ⟨ao, cap, cs, h1, h2, h3, h4, h5, h6⟩ := k
      exact ⟨ao, cap, cs, by rw [Env.cut_lt hl]; exact h1, h2, h3, h4, leElems hs h5, h6⟩
    · exact hs.1.elim
  · split at hs
    · rename_i e
      obtain ⟨rfl, rfl⟩ := e
      simp only [AllT, and_true] at hs
      obtain ⟨rfl, hs⟩ := hs
      obtain ⟨v, cs, h1, h2, h3⟩ := k
      exact ⟨v, cs, by rw [Env.cut_lt hl]; exact h1, h2, leElems hs h3⟩
    · exact hs.1.elim
  · exact hs.1.elim
theorem leSeg_excl {s t : Seg} (hs : AllT (leSeg m s t)) (h : t.excl = true) : s.excl = true := by
  unfold leSeg at hs
  split at hs <;> first | rfl | (cases h; done) | exact hs.1.elim
theorem leSeg_live {s t : Seg} (hs : AllT (leSeg m s t)) (h : t.live) : s.live := by
  unfold leSeg at hs
  split at hs
  · exact h.elim
  · trivial
  · split at hs
    · rename_i e
      subst e
      simp only [AllT, and_true] at hs
      obtain ⟨rfl, _⟩ := hs
      exact h
    · exact hs.1.elim
  · trivial
  · exact hs.1.elim

theorem leSt_sound {cx : Cx} {x y : St} {a : Act} {w : World} (h : AllT (leSt x y)) (hm0 : cx.m0 ≤ y.mem.length) (k : Ok cx env x a w) : Ok cx (env.cut y.mem.length) y a w := by
  obtain ⟨h1, h2⟩ := AllT.append.1 h
  have hget := leMem_get h2
  have blk_cut : ∀ c, c < y.mem.length → blk (env.cut y.mem.length) c = blk env c := fun c hc => by simp [blk, Env.cut_lt hc]
  refine ⟨k.defers, leTm_sound h1 k.tm, ⟨?_, ?_, ?_, ?_, k.mem.os, k.mem.tape, k.mem.output, k.mem.grow, k.mem.frame⟩, hm0, fun c hc => by rw [Env.cut_lt (Nat.lt_of_lt_of_le hc hm0)]; exact k.fix c hc⟩
  · intro c s hc
    obtain ⟨t, e1, e2⟩ := hget c s hc
    exact leSeg_sound e2 (List.getElem?_eq_some_iff.1 hc).1 (k.mem.ok c t e1)
  · intro c hc
    simp [Env.cut, Nat.not_lt.2 hc]
  · intro c d s t b hc hd hne hx hl hb
    obtain ⟨s', e1, e2⟩ := hget c s hc
    obtain ⟨t', e3, e4⟩ := hget d t hd
    rw [blk_cut c (List.getElem?_eq_some_iff.1 hc).1] at hb
    rw [blk_cut d (List.getElem?_eq_some_iff.1 hd).1]
    exact k.mem.sep c d s' t' b e1 e3 hne (leSeg_excl e2 hx) (leSeg_live e4 hl) hb
  · intro c s b hc hx hb
    obtain ⟨s', e1, e2⟩ := hget c s hc
    rw [blk_cut c (List.getElem?_eq_some_iff.1 hc).1] at hb
    exact k.mem.own c s' b e1 (leSeg_excl e2 hx) hb
end

/-! code -/
inductive Ex where
  | normal
  | exit (id : Nat)
  | ret
def Ex.to : Ex → Exit
  | .normal => .normal
  | .exit id => .exit id
  | .ret => .ret

/-- What is told of a loop: the state ahead of it, how it ends, and the state behind it. -/
structure LoopSpec where
  pre : St
  ex : Ex
  post : St
/-- Code that begins in a state ends so, in another one. -/
def CodeOk (P : Program) (m0 : Nat) (c : Code) (pre : St) (ex : Ex) (post : St) : Prop :=
  ∀ (cx : Cx) (env : Env) (a : Act) (w : World), cx.m0 = m0 → Ok cx env pre a w →
    c.wp P (fun e a' w' => e = ex.to ∧ ∃ env', Ok cx env' post a' w') a w

structure Orc where
  bits : List Bool
  loops : List LoopSpec

/-- Runs code. -/
def exec (P : Program) (Γ : List (FuncId × Sp)) (m0 : Nat) : Code → St → Orc → Option (Ex × St × List Prop × Orc)
  | .skip, st, orc => some (.normal, st, [], orc)
  | .region _ ops draw, st, orc => if draw then (if P.follows .mixedOrders then match drawOps P Γ ops.toList st orc.bits with
      | some (st, obl, bits) => some (.normal, st, obl, ⟨bits, orc.loops⟩)
      | none => none
    else none) else match runOps P Γ ops ops.toList st orc.bits with
    | some (st, obl, bits) => some (.normal, st, obl, ⟨bits, orc.loops⟩)
    | none => none
  | .seq x y, st, orc => match exec P Γ m0 x st orc with
    | some (.normal, st, obl, orc) => match exec P Γ m0 y st orc with
      | some (e, st, obl', orc) => some (e, st, obl ++ obl', orc)
      | none => none
    | r => r
  | .cond c x y, st, orc => match decide? st.tm orc.bits c with
    | some (b, tm, obl, bits) => match (if b then exec P Γ m0 x ⟨tm, st.mem⟩ ⟨bits, orc.loops⟩ else exec P Γ m0 y ⟨tm, st.mem⟩ ⟨bits, orc.loops⟩) with
      | some (e, st, obl', orc) => some (e, st, obl ++ obl', orc)
      | none => none
    | none => none
  | .block id c, st, orc => match exec P Γ m0 c st orc with
    | some (.exit id', st, obl, orc) => some (if id' = id then .normal else .exit id', st, obl, orc)
    | r => r
  | .exit id, st, orc => some (.exit id, st, [], orc)
  | .ret, st, orc => some (.ret, st, [], orc)
  | .label _, st, orc => some (.normal, st, [], orc)
  | .loop body, st, orc => match orc.loops with
    | s :: loops => some (s.ex, s.post, leSt st s.pre ++ [m0 ≤ s.pre.mem.length, CodeOk P m0 (.loop body) s.pre s.ex s.post], ⟨orc.bits, loops⟩)
    | [] => none
  | _, _, _ => none

section
variable {P : Program} {Γ : List (FuncId × Sp)}

theorem Env.cut_le {env : Env} {m : Nat} (h : ∀ k, m ≤ k → env k = none) : env.le (env.cut m) := by
  intro k v hk
  by_cases hl : k < m
  · rw [Env.cut_lt hl]; exact hk
  · rw [h k (by omega)] at hk; cases hk

/-- What a run leaves, seen from the state that it began in: handles of that state stay. -/
theorem exec_sound (hΓ : CtxOk P Γ) {m0 : Nat} {cx : Cx} (hm0 : cx.m0 = m0) : ∀ (c : Code) {st st' : St} {orc orc' : Orc} {e : Ex} {obl : List Prop} {a : Act} {w : World} {env : Env}, exec P Γ m0 c st orc = some (e, st', obl, orc') → AllT obl → Ok cx env st a w →
    c.wp P (fun e' a' w' => e' = e.to ∧ ∃ env', Ok cx env' st' a' w') a w := by
  intro c
  induction c with
  | skip =>
    intro st st' orc orc' e obl a w env h ho hk
    simp only [exec, Option.some.injEq, Prod.mk.injEq] at h
    obtain ⟨rfl, rfl, rfl, rfl⟩ := h
    exact wp_skip ⟨rfl, env, hk⟩
  | region id ops draw =>
    intro st st' orc orc' e obl a w env h ho hk
    simp only [exec] at h
    split at h
    · rename_i hd
      subst hd
      split at h
      · rename_i hmo
        split at h
        · rename_i st1 obl1 bits h1
          simp only [Option.some.injEq, Prod.mk.injEq] at h
          obtain ⟨rfl, rfl, rfl, rfl⟩ := h
          have := drawOps_sound (id := id) (Q := fun e' a' w' => e' = Ex.normal.to ∧ ∃ env', Ok cx env' st1 a' w') hΓ hmo h1 ho hk (fun env' a' w' hk' => ⟨rfl, env', hk'⟩)
          rwa [Array.toArray_toList] at this
        · cases h
      · cases h
    · rename_i hd
      split at h
      · rename_i st1 obl1 bits h1
        simp only [Option.some.injEq, Prod.mk.injEq] at h
        obtain ⟨rfl, rfl, rfl, rfl⟩ := h
        have hd' : draw = false := by simpa using hd
        subst hd'
        exact wp_region_list (runOps_sound hΓ ops.toList h1 ho hk (fun env' a' w' _ hk' => ⟨rfl, env', hk'⟩))
      · cases h
  | seq x y ihx ihy =>
    intro st st' orc orc' e obl a w env h ho hk
    simp only [exec] at h
    split at h
    · rename_i st1 obl1 orc1 h1
      split at h
      · rename_i e2 st2 obl2 orc2 h2
        simp only [Option.some.injEq, Prod.mk.injEq] at h
        obtain ⟨rfl, rfl, rfl, rfl⟩ := h
        obtain ⟨o1, o2⟩ := AllT.append.1 ho
        refine wp_seq (wp_mono (ihx h1 o1 hk) ?_)
        rintro e' a' w' ⟨rfl, env', hk'⟩
        exact ihy h2 o2 hk'
      · cases h
    · rename_i hn
      refine wp_seq (wp_mono (ihx h ho hk) ?_)
      rintro e' a' w' ⟨rfl, env', hk'⟩
      cases e with
      | normal => exact (hn _ _ _ h).elim
      | exit id => exact ⟨rfl, env', hk'⟩
      | ret => exact ⟨rfl, env', hk'⟩
  | cond c x y ihx ihy =>
    intro st st' orc orc' e obl a w env h ho hk
    simp only [exec] at h
    split at h
    · rename_i b tm obl0 bits hdec
      split at h
      · rename_i e1 st1 obl1 orc1 h1
        simp only [Option.some.injEq, Prod.mk.injEq] at h
        obtain ⟨rfl, rfl, rfl, rfl⟩ := h
        obtain ⟨o1, o2⟩ := AllT.append.1 ho
        obtain ⟨hb, htm⟩ := decide?_sound hdec o1 hk.tm
        refine wp_cond hb ?_
        cases b with
        | true => exact ihx h1 o2 ⟨hk.defers, htm, hk.mem, hk.long, hk.fix⟩
        | false => exact ihy h1 o2 ⟨hk.defers, htm, hk.mem, hk.long, hk.fix⟩
      · cases h
    · cases h
  | block id c ih =>
    intro st st' orc orc' e obl a w env h ho hk
    simp only [exec] at h
    split at h
    · rename_i id' st1 obl1 orc1 h1
      simp only [Option.some.injEq, Prod.mk.injEq] at h
      obtain ⟨rfl, rfl, rfl, rfl⟩ := h
      refine wp_block (wp_mono (ih h1 ho hk) ?_)
      rintro e' a' w' ⟨rfl, env', hk'⟩
      by_cases hid : id' = id
      · simp only [Exit.inBlock, Ex.to, if_pos hid]
        exact ⟨trivial, env', hk'⟩
      · simp only [Exit.inBlock, Ex.to, if_neg hid]
        exact ⟨trivial, env', hk'⟩
    · rename_i hn
      refine wp_block (wp_mono (ih h ho hk) ?_)
      rintro e' a' w' ⟨rfl, env', hk'⟩
      cases e with
      | normal => exact ⟨rfl, env', hk'⟩
      | exit id => exact (hn _ _ _ _ h).elim
      | ret => exact ⟨rfl, env', hk'⟩
  | exit id =>
    intro st st' orc orc' e obl a w env h ho hk
    simp only [exec, Option.some.injEq, Prod.mk.injEq] at h
    obtain ⟨rfl, rfl, rfl, rfl⟩ := h
    exact wp_exit ⟨rfl, env, hk⟩
  | ret =>
    intro st st' orc orc' e obl a w env h ho hk
    simp only [exec, Option.some.injEq, Prod.mk.injEq] at h
    obtain ⟨rfl, rfl, rfl, rfl⟩ := h
    exact wp_ret ⟨rfl, env, hk⟩
  | label l =>
    intro st st' orc orc' e obl a w env h ho hk
    simp only [exec, Option.some.injEq, Prod.mk.injEq] at h
    obtain ⟨rfl, rfl, rfl, rfl⟩ := h
    exact wp_label ⟨rfl, env, hk⟩
  | loop body ih =>
    intro st st' orc orc' e obl a w env h ho hk
    simp only [exec] at h
    split at h
    · rename_i s loops hs
      simp only [Option.some.injEq, Prod.mk.injEq] at h
      obtain ⟨rfl, rfl, rfl, rfl⟩ := h
      obtain ⟨o1, o2⟩ := AllT.append.1 ho
      obtain ⟨o3, o4, _⟩ := o2
      refine wp_mono (o4 cx _ a w hm0 (leSt_sound o1 (by rw [hm0]; exact o3) hk)) ?_
      rintro e' a' w' ⟨rfl, env', hk'⟩
      exact ⟨rfl, env', hk'⟩
    · cases h
  | _ => intro st st' orc orc' e obl a w env h; simp [exec] at h
end
end E
end Go.Proofs.Ytpldacdgifekmaa

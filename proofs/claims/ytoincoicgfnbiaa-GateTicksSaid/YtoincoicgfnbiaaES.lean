/- A region that draws its order, the last two operations of which await all others: any order of the others, then these two. No condition. -/
import Derived.Test.YtoincoicgfnbiaaER
namespace Go.Proofs.Ytoincoicgfnbiaa
set_option linter.unusedVariables false
set_option linter.unusedSimpArgs false
namespace E
open Go.RowKit
def awaitsB (o : Oper) (j : Nat) : Bool := o.after.any fun e => Region.binds .any e && e.on == j
theorem awaitsB_spec {o : Oper} {j : Nat} (h : awaitsB o j = true) : ∃ e ∈ o.after, Region.binds .any e = true ∧ e.on = j := by
  unfold awaitsB at h
  obtain ⟨e, he, hb⟩ := Array.any_eq_true'.1 h
  simp only [Bool.and_eq_true, beq_iff_eq] at hb
  exact ⟨e, he, hb⟩
/-- Each operation is awaited by a later one, or by oc. -/
def chainOk (l : List Oper) (oc : Oper) : Bool := (List.range l.length).all fun j => awaitsB oc j || (List.range l.length).any fun i => decide (j < i) && match l[i]? with
  | some o => awaitsB o j
  | none => false
def tailOk (l : List Oper) (oc ou : Oper) : Bool := edgesB l 0 && l.all callMeB && l.all (fun o => o.guard.isNone) && chainOk l oc && awaitsB ou l.length && edgesB (l ++ [oc, ou]) 0
theorem chain_all {l : List Oper} {oc : Oper} (h : chainOk l oc = true) (D : Nat → Bool) (hD : ∀ i o, l[i]? = some o → D i = true → ∀ e ∈ o.after, Region.binds .any e = true → D e.on = true)
    (hc : ∀ e ∈ oc.after, Region.binds .any e = true → D e.on = true) : ∀ k j, j < l.length → l.length ≤ j + k → D j = true
  | 0, j, h1, h2 => by omega
  | k + 1, j, h1, h2 => by
    have := List.all_eq_true.1 h j (List.mem_range.2 h1)
    rw [Bool.or_eq_true] at this
    rcases this with q | q
    · obtain ⟨e, he, hb, rfl⟩ := awaitsB_spec q
      exact hc e he hb
    · obtain ⟨i, hi, q⟩ := List.any_eq_true.1 q
      rw [Bool.and_eq_true, decide_eq_true_eq] at q
      split at q
      · rename_i o ho
        obtain ⟨e, he, hb, rfl⟩ := awaitsB_spec q.2
        exact hD i o ho (chain_all h D hD hc k i (List.mem_range.1 hi) (by omega)) e he hb
      · cases q.2
section
variable {P : Program} {Q Q' : Exit → Act → World → Prop}
theorem any_defers {md : Region.Mode} {ops : Array Oper} (hQ : Tame Q') : ∀ (fuel : Nat) (listed : Array Bool) (a : Act) (w : World), wpAny P md ops Q' fuel listed a w → a.defers = []
  | 0, _, a, w, h => hQ.defers _ _ _ h.2
  | fuel + 1, listed, a, w, h => by
    cases hr : Region.ready md ops listed with
    | nil => exact hQ.defers _ _ _ (h.1 hr)
    | cons i is =>
      have := h.2 i (by rw [hr]; simp)
      unfold wpOp at this
      split at this
      · exact any_defers hQ fuel _ a w this
      · split at this
        · rcases this with k | ⟨_, x, y, k⟩
          · exact op_defers hQ (fun a w => any_defers hQ fuel _ a w) k
          · exact (hQ.out _ _ k).elim
        · have k := any_defers hQ fuel _ _ w this
          rwa [put_defers] at k
theorem getD_app2 {A : Array Bool} {j : Nat} {d : Bool} (h : j < A.size) : (A ++ #[false, false]).getD j d = A.getD j d := by
  rw [Array.getD_eq_getD_getElem?, Array.getD_eq_getD_getElem?, Array.getElem?_append_left h]
theorem getD_app2_0 {A : Array Bool} {d : Bool} : (A ++ #[false, false]).getD A.size d = false := by
  rw [Array.getD_eq_getD_getElem?, Array.getElem?_append_right (Nat.le_refl _), Nat.sub_self]; rfl
theorem getD_app2_1 {A : Array Bool} {d : Bool} : (A ++ #[false, false]).getD (A.size + 1) d = false := by
  rw [Array.getD_eq_getD_getElem?, Array.getElem?_append_right (by omega), show A.size + 1 - A.size = 1 by omega]; rfl
theorem getD_size {A : Array Bool} {j : Nat} {d : Bool} (h : A.size ≤ j) : A.getD j d = d := by
  rw [Array.getD_eq_getD_getElem?, Array.getElem?_eq_none h]; rfl
theorem getD_tf {A : Array Bool} {j : Nat} (h : j < A.size) : A.getD j true = A.getD j false := by
  rw [Array.getD_eq_getD_getElem?, Array.getD_eq_getD_getElem?, Array.getElem?_eq_getElem h]; rfl
theorem getD_set {A : Array Bool} {i j : Nat} {d : Bool} (hi : i < A.size) : (A.setIfInBounds i true).getD j d = if j = i then true else A.getD j d := by
  rw [Array.getD_eq_getD_getElem?, Array.getD_eq_getD_getElem?]
  by_cases e : j = i
  · subst e; rw [Array.getElem?_setIfInBounds_self_of_lt hi, if_pos rfl]; rfl
  · rw [Array.getElem?_setIfInBounds_ne (Ne.symm e), if_neg e]
theorem first_false (p : Nat → Bool) : ∀ n, (∃ j, j < n ∧ p j = false) ∨ ∀ j, j < n → p j = true
  | 0 => .inr fun j h => by omega
  | n + 1 => by
    rcases first_false p n with ⟨j, h1, h2⟩ | h
    · exact .inl ⟨j, by omega, h2⟩
    · cases q : p n
      · exact .inl ⟨n, by omega, q⟩
      · refine .inr fun j hj => ?_
        by_cases e : j = n
        · rw [e]; exact q
        · exact h j (by omega)
theorem least_false (p : Nat → Bool) : ∀ {n}, (∃ j, j < n ∧ p j = false) → ∃ j, j < n ∧ p j = false ∧ ∀ k, k < j → p k = true
  | 0, ⟨j, h, _⟩ => by omega
  | n + 1, ⟨j, h1, h2⟩ => by
    rcases first_false p n with h | h
    · obtain ⟨j, a, b, c⟩ := least_false p h
      exact ⟨j, by omega, b, c⟩
    · have : j = n := by
        by_cases e : j = n
        · exact e
        · rw [h j (by omega)] at h2; cases h2
      subst this
      exact ⟨j, by omega, h2, h⟩
theorem un_nil {listed : Array Bool} : ∀ {n : Nat}, (∀ j, j < n → listed.getD j true = true) → un listed n = 0
  | 0, _ => rfl
  | n + 1, h => by
    unfold un
    rw [un_nil (n := n) (fun j hj => h j (by omega)), h n (by omega)]; rfl
theorem any_tail {l : List Oper} {oc ou : Oper} (r : Option Nat) (m : Nat) (hok : tailOk l oc ou = true) (hT : Tame Q')
    (tail : ∀ a w, Q' .normal a w → wpOpIn (Fw r) m P (l ++ [oc, ou]).toArray Q l.length (wpOpIn (Fw r) m P (l ++ [oc, ou]).toArray Q (l.length + 1) (Q .normal)) a w) :
    ∀ (fuel : Nat) (listed : Array Bool) (a : Act) (w : World), listed.size = l.length → (∀ i o, l[i]? = some o → listed.getD i false = true → ∀ e ∈ o.after, Region.binds .any e = true → listed.getD e.on false = true) →
      un listed l.length = fuel → wpAny P .any l.toArray Q' fuel listed a w → wpAnyIn (Fw r) m P .any (l ++ [oc, ou]).toArray Q (fuel + 2) (listed ++ #[false, false]) a w := by
  simp only [tailOk, Bool.and_eq_true] at hok
  obtain ⟨⟨⟨⟨⟨hed, hcm⟩, hgd⟩, hch⟩, hau⟩, hed2⟩ := hok
  have opsL : ∀ i, i < l.length → (l ++ [oc, ou]).toArray[i]? = l[i]? := fun i hi => by rw [List.getElem?_toArray, List.getElem?_append_left hi]
  have opsC : (l ++ [oc, ou]).toArray[l.length]? = some oc := by rw [List.getElem?_toArray, List.getElem?_append_right (Nat.le_refl _), Nat.sub_self]; rfl
  have opsU : (l ++ [oc, ou]).toArray[l.length + 1]? = some ou := by rw [List.getElem?_toArray, List.getElem?_append_right (by omega), show l.length + 1 - l.length = 1 by omega]; rfl
  have opsN : ∀ i, l.length + 2 ≤ i → (l ++ [oc, ou]).toArray[i]? = none := fun i hi => by rw [List.getElem?_toArray, List.getElem?_eq_none (by simp; omega)]
  have down : ∀ i o, l[i]? = some o → ∀ e ∈ o.after, Region.binds .any e = true → e.on < i := fun i o ho e he hb => by
    have := edgesB_spec hed i o ho e he hb; omega
  have downC : ∀ e ∈ oc.after, Region.binds .any e = true → e.on < l.length := fun e he hb => by
    have := edgesB_spec hed2 l.length oc (by rw [List.getElem?_append_right (Nat.le_refl _), Nat.sub_self]; rfl) e he hb; omega
  have downU : ∀ e ∈ ou.after, Region.binds .any e = true → e.on < l.length + 1 := fun e he hb => by
    have := edgesB_spec hed2 (l.length + 1) ou (by rw [List.getElem?_append_right (by omega), show l.length + 1 - l.length = 1 by omega]; rfl) e he hb; omega
  have place : ∀ i o, (l ++ [oc, ou]).toArray[i]? = some o → i < l.length ∧ l[i]? = some o ∨ i = l.length ∧ o = oc ∨ i = l.length + 1 ∧ o = ou := by
    intro i o ho
    rcases Nat.lt_trichotomy i l.length with q | q | q
    · exact .inl ⟨q, by rw [← opsL i q]; exact ho⟩
    · subst q; rw [opsC] at ho; cases ho; exact .inr (.inl ⟨rfl, rfl⟩)
    · by_cases q2 : i = l.length + 1
      · subst q2; rw [opsU] at ho; cases ho; exact .inr (.inr ⟨rfl, rfl⟩)
      · rw [opsN i (by omega)] at ho; cases ho
  intro fuel
  induction fuel with
  | zero =>
    intro listed a w hs hcl hu h
    have hall := un_zero hu
    have hq : Q' .normal a w := h.2
    have hsz : (listed ++ #[false, false]).size = l.length + 2 := by rw [Array.size_append, hs]; rfl
    have g0 : ∀ j, j < l.length → ∀ d, (listed ++ #[false, false]).getD j d = true := fun j hj d => by
      rw [getD_app2 (by omega)]
      cases d
      · rw [← getD_tf (by omega)]; exact hall j hj
      · exact hall j hj
    have gC : ∀ d, (listed ++ #[false, false]).getD l.length d = false := fun d => by rw [← hs]; exact getD_app2_0
    have gU : ∀ d, (listed ++ #[false, false]).getD (l.length + 1) d = false := fun d => by rw [← hs]; exact getD_app2_1
    generalize listed ++ #[false, false] = L at *
    have rd : ∀ i ∈ Region.ready .any (l ++ [oc, ou]).toArray L, i = l.length := by
      intro i hi
      obtain ⟨h1, o, ho, he⟩ := mem_ready.1 hi
      rcases place i o ho with ⟨q, _⟩ | ⟨q, _⟩ | ⟨q, rfl⟩
      · rw [g0 i q] at h1; cases h1
      · exact q
      · obtain ⟨e, e1, e2, e3⟩ := awaitsB_spec hau
        have := he e e1 e2
        rw [e3, gC] at this; cases this
    have rdC : l.length ∈ Region.ready .any (l ++ [oc, ou]).toArray L := mem_ready.2 ⟨gC _, oc, opsC, fun e he hb => g0 _ (downC e he hb) _⟩
    refine ⟨fun hr => (by rw [hr] at rdC; cases rdC), fun i hi => ?_⟩
    rw [rd i hi]
    refine wpOpIn_mono (fun a w q => ?_) (tail a w hq)
    have s0 : ∀ j d, (L.setIfInBounds l.length true).getD j d = if j = l.length then true else L.getD j d := fun j d => getD_set (by omega)
    have hsz2 : (L.setIfInBounds l.length true).size = l.length + 2 := by simp [hsz]
    generalize L.setIfInBounds l.length true = L2 at *
    have rdU : l.length + 1 ∈ Region.ready .any (l ++ [oc, ou]).toArray L2 := mem_ready.2 ⟨by rw [s0, if_neg (by omega)]; exact gU _, ou, opsU, fun e he hb => by
      have := downU e he hb
      rw [s0]
      split
      · rfl
      · exact g0 _ (by omega) _⟩
    refine ⟨fun hr => (by rw [hr] at rdU; cases rdU), fun i hi => ?_⟩
    have ei : i = l.length + 1 := by
      obtain ⟨h1, o, ho, he⟩ := mem_ready.1 hi
      rw [s0] at h1
      rcases place i o ho with ⟨q, _⟩ | ⟨q, _⟩ | ⟨q, _⟩
      · rw [if_neg (by omega), g0 i q] at h1; cases h1
      · rw [if_pos q] at h1; cases h1
      · exact q
    rw [ei]
    refine wpOpIn_mono (fun a w q => ⟨?_, q⟩) q
    rw [List.eq_nil_iff_forall_not_mem]
    intro i hi
    obtain ⟨h1, o, ho, he⟩ := mem_ready.1 hi
    rw [getD_set (by omega), s0] at h1
    rcases place i o ho with ⟨q, _⟩ | ⟨q, _⟩ | ⟨q, _⟩
    · rw [if_neg (by omega), if_neg (by omega), g0 i q] at h1; cases h1
    · rw [if_neg (by omega), if_pos q] at h1; cases h1
    · rw [if_pos q] at h1; cases h1
  | succ fuel ih =>
    intro listed a w hs hcl hu h
    have hne : ∃ j, j < l.length ∧ listed.getD j true = false := by
      rcases first_false (fun j => listed.getD j true) l.length with q | q
      · exact q
      · exfalso
        have : un listed l.length = 0 := un_nil q
        omega
    have rd : ∀ i ∈ Region.ready .any (l ++ [oc, ou]).toArray (listed ++ #[false, false]), i < l.length ∧ i ∈ Region.ready .any l.toArray listed := by
      intro i hi
      obtain ⟨h1, o, ho, he⟩ := mem_ready.1 hi
      rcases place i o ho with ⟨q, hl⟩ | ⟨q, rfl⟩ | ⟨q, rfl⟩
      · refine ⟨q, mem_ready.2 ⟨by rw [← getD_app2 (by omega)]; exact h1, o, by rw [List.getElem?_toArray]; exact hl, fun e he' hb => ?_⟩⟩
        have hlt := down i o hl e he' hb
        rw [← getD_app2 (by omega)]
        exact he e he' hb
      · exfalso
        obtain ⟨j, hj, hf⟩ := hne
        have := chain_all hch (fun j => listed.getD j false) hcl (fun e he' hb => by
          have hlt := downC e he' hb
          show listed.getD e.on false = true
          rw [← getD_app2 (by omega)]
          exact he e he' hb) l.length j hj (by omega)
        have this : listed.getD j false = true := this
        rw [← getD_tf (by omega), hf] at this
        cases this
      · exfalso
        obtain ⟨e, e1, e2, e3⟩ := awaitsB_spec hau
        have := he e e1 e2
        rw [e3, ← hs, getD_app2_0] at this; cases this
    refine ⟨fun hr => ?_, fun i hi => ?_⟩
    · exfalso
      obtain ⟨j, hj, hf, hm⟩ := least_false (fun j => listed.getD j true) hne
      have : j ∈ Region.ready .any (l ++ [oc, ou]).toArray (listed ++ #[false, false]) := by
        refine mem_ready.2 ⟨by rw [getD_app2 (by omega)]; exact hf, l[j], by rw [opsL j hj]; exact List.getElem?_eq_getElem hj, fun e he hb => ?_⟩
        have hlt := down j l[j] (List.getElem?_eq_getElem hj) e he hb
        rw [getD_app2 (by omega), ← getD_tf (by omega)]
        exact hm e.on hlt
      rw [hr] at this; cases this
    · obtain ⟨hil, hir⟩ := rd i hi
      have hop := h.2 i hir
      obtain ⟨h1, o, ho, he⟩ := mem_ready.1 hir
      rw [List.getElem?_toArray] at ho
      have hg : o.guard = none := by
        have := List.all_eq_true.1 hgd o (List.mem_of_getElem? ho)
        simpa using this
      have hcb := List.all_eq_true.1 hcm o (List.mem_of_getElem? ho)
      have hw : ∀ f, Region.wanted o f = true := fun f => by simp [Region.wanted, hg]
      unfold wpOp at hop
      rw [List.getElem?_toArray, ho] at hop
      simp only [hw, if_true] at hop
      unfold wpOpIn
      rw [opsL i hil, ho]
      simp only [hw, if_true]
      rcases hop with k | ⟨_, x, y, k⟩
      · have hset : (listed ++ #[false, false]).setIfInBounds i true = listed.setIfInBounds i true ++ #[false, false] := by
          rw [Array.setIfInBounds_append_left (by omega)]
        rw [hset]
        have := op_lift (K' := wpAnyIn (Fw r) m P .any (l ++ [oc, ou]).toArray Q (fuel + 2) (listed.setIfInBounds i true ++ #[false, false])) (Q' := Q) r a.defers m (callMeB_spec hcb) hT (fun a w => any_defers hT fuel _ a w) (fun a' w' q => ?_) k
        · exact this
        · have hd := any_defers hT fuel _ a' w' q
          have hd0 := op_defers hT (fun a w => any_defers hT fuel _ a w) k
          have e0 : ({ a' with defers := a.defers } : Act) = a' := by rw [hd0]; cases a'; simp only at hd; subst hd; rfl
          rw [e0]
          refine ih (listed.setIfInBounds i true) a' w' (by simp [hs]) ?_ ?_ q
          · intro i' o' ho' hl' e he' hb
            rw [getD_set (by omega)] at hl' ⊢
            split
            · rfl
            split at hl'
            · rename_i q1 q2
              subst q2
              rw [ho] at ho'; cases ho'
              exact he e he' hb
            · exact hcl i' o' ho' hl' e he' hb
          · have := un_set (n := l.length) h1 hil
            omega
      · exact (hT.out _ _ k).elim
end
/-- A piece of code: where it stands. -/
def subC : List Bool → Code → Code
  | [], c => c
  | b :: p, .seq x y => subC p (if b then y else x)
  | _ :: p, .block _ c => subC p c
  | _ :: p, .loop c => subC p c
  | b :: p, .rangeFunc _ _ x y => subC p (if b then y else x)
  | _, c => c
def bodyOf (fn : Func) : Code := match fn.body with
  | some c => c
  | none => .skip
def headR (k : Nat) : Code → Code
  | .region i ops d => .region i (ops.toList.take k).toArray d
  | c => c
def opsOf : Code → List Oper
  | .region _ ops _ => ops.toList
  | _ => []
/-- A region that draws its order, up to its last two operations. -/
def TailOk (P : Program) (m0 id : Nat) (l : List Oper) (oc ou : Oper) (pre post : St) : Prop :=
  ∀ (m : Nat) (cx : Cx) (env : Env) (a : Act) (w : World) (Q : Exit → Act → World → Prop), cx.m0 = m0 → Ok cx env pre a w →
    (∀ env' a' w', Ok cx env' post a' w' → wpOpIn (Fw none) m P (l ++ [oc, ou]).toArray Q l.length (wpOpIn (Fw none) m P (l ++ [oc, ou]).toArray Q (l.length + 1) (Q .normal)) a' w') →
    (Code.region id (l ++ [oc, ou]).toArray true).wpIn (Fw none) m P Q a w
theorem tail_run {P : Program} {Γ : List (FuncId × Sp)} (hΓ : CtxOk P Γ) {m0 id : Nat} {l : List Oper} {oc ou : Oper} (hmo : P.follows .mixedOrders = true) (hok : tailOk l oc ou = true) {st post : St} {orc : Orc} {obl : List Prop}
    (h : codeRun P Γ m0 (.region id l.toArray true) st orc post = some (.normal, obl)) (ho : AllT obl) (hm : m0 ≤ post.mem.length) : TailOk P m0 id l oc ou st post := by
  unfold codeRun at h
  split at h
  · rename_i e' st' o _ hx
    simp only [Option.some.injEq, Prod.mk.injEq] at h
    obtain ⟨rfl, rfl⟩ := h
    obtain ⟨h1, h2⟩ := AllT.append.1 ho
    simp only [exec, execC, if_true, hmo] at hx
    split at hx
    · rename_i st1 obl1 bits hd
      simp only [Option.some.injEq, Prod.mk.injEq, true_and] at hx
      obtain ⟨rfl, rfl, rfl⟩ := hx
      intro m cx env a w Q hm0 hk tail
      refine wpIn_region_any hmo ?_
      have hany := drawOps_any (Q := fun e a' w' => e = Ex.normal.to ∧ ∃ env', Ok cx env' post a' w') hΓ hd h1 hk (fun env' a' w' hk' => ⟨rfl, _, leSt_sound (by rw [hm0]; exact h2) (by rw [hm0]; exact hm) hk'⟩)
      simp only [List.size_toArray] at hany
      have := any_tail (Q := Q) none m hok (tame_ok (e := .normal)) (fun a w q => by obtain ⟨_, env', k⟩ := q; exact tail env' a w k) l.length (Array.replicate l.length false) a _ (by simp) (fun i o ho' hl' => by
        rw [Array.getD_eq_getD_getElem?, Array.getElem?_replicate] at hl'
        split at hl' <;> simp at hl') (un_none (Nat.le_refl _)) hany
      have e : Array.replicate l.length false ++ #[false, false] = Array.replicate (l ++ [oc, ou]).toArray.size false := by
        apply Array.ext'
        simp [List.replicate_succ']
      rw [e] at this
      have e2 : (l ++ [oc, ou]).toArray.size = l.length + 2 := by simp
      rw [e2] at this ⊢
      exact this
    · cases hx
  · cases h
/-- A call of yield. -/
theorem op_yield {P : Program} {oc : Oper} {f : Operand} {xs : Array Operand} {ats : Array TypeId} (hop : oc.op = .call { callee := .value f, args := xs, argTypes := ats }) {a : Act} {W : World} {l m : Nat} {vals : Array Value}
    (hf : a.eval f = .func (.yield l) #[] #[]) (has : xs.map a.eval = vals) {R : Ending → World → Prop} (hY : YieldAt Fence.wide (m - 1) P l vals W R) {K : Act → World → Prop} {Q : Exit → Act → World → Prop}
    (hK : ∀ e W', R e W' → ∃ v, e = .returned v ∧ K (a.put oc.dst v) W') : oc.wpIn (Fw none) m P a W K Q := by
  refine ⟨fun _ _ => trivial, ?_⟩
  obtain ⟨fn, tmps, assign, body, hy, hR⟩ := hY
  have e : (Oper.semAt (Fw none).round a.eval oc).run P W = .ok (.round l fn tmps assign body) W := by
    rw [show (Fw none).round = none from rfl, Oper.semAt_none]
    unfold execOp
    rw [hop]
    simp only [resolve, hf, has, Deferred.ofValue, Sem.run_bind, Sem.run_pure, Result.andThen, invoke]
    simpa using hy
  rw [e, Oper.uponIn_round]
  refine ⟨fun q => (by cases q), ?_⟩
  refine RoundIn.mono hR ?_
  intro e W' hr
  obtain ⟨v, rfl, hk⟩ := hK e W' hr
  exact hk
end E
end Go.Proofs.Ytoincoicgfnbiaa

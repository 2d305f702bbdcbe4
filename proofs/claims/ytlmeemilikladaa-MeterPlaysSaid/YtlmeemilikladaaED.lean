/- A symbolic run of Go code: regions that draw their order. No condition. -/
import Derived.Test.YtlmeemilikladaaE7
import Derived.StillTail
namespace Go.Proofs.Ytlmeemilikladaa
set_option linter.unusedVariables false
set_option linter.unusedSimpArgs false
namespace E
open Go.RowKit

/-! more memory, the same answer -/
theorem look_mono {m m' : List Seg} (h : MemLe m m') {x : At} {r : List At × Nat × List Prop} (e : look m x = some r) : look m' x = some r := by
  unfold look at e ⊢
  cases x with
  | ptr hd j =>
    simp only at e ⊢
    split at e
    · rename_i t l hs
      rcases h _ _ hs with k | k
      · cases k
      · rw [k]; exact e
    · cases e
  | eptr hd wd i j =>
    simp only at e ⊢
    split at e
    · rename_i wd' len g hs
      rcases h _ _ hs with k | k
      · cases k
      · rw [k]; exact e
    · rename_i e' wd' n g hs
      rcases h _ _ hs with k | k
      · cases k
      · rw [k]; exact e
    · cases e
  | _ => cases e
theorem evLoad_mono {P : Program} {t : TypeId} {m m' : List Seg} (h : MemLe m m') {x : At} {r : NV × List Prop} (e : evLoad P t m x = some r) : evLoad P t m' x = some r := by
  unfold evLoad at e ⊢
  cases hl : look m x with
  | none => simp [hl] at e
  | some q => rw [look_mono h hl]; rw [hl] at e; exact e
theorem evStore_mono {P : Program} {t : TypeId} {m m' : List Seg} (h : MemLe m m') {x : At} {y : NV} {r : Nat × Seg × List Prop} (e : evStore P t m x y = some r) : evStore P t m' x y = some r := by
  unfold evStore at e ⊢
  split at e
  · rename_i hc
    rw [if_pos hc]
    cases x with
    | ptr hd j =>
      simp only at e ⊢
      split at e
      · rename_i t0 l hs
        rcases h _ _ hs with k | k
        · cases k
        · rw [k]; exact e
      · cases e
    | eptr hd wd i j =>
      simp only at e ⊢
      split at e
      · rename_i e' wd' n g hs
        rcases h _ _ hs with k | k
        · cases k
        · rw [k]; exact e
      · cases e
    | _ => cases e
  · cases e
theorem evIndexAddr_mono {P : Program} {t : TypeId} {m m' : List Seg} (h : MemLe m m') {x : At} {i : Int} {r : At × List Prop} (e : evIndexAddr P t m x i = some r) : evIndexAddr P t m' x i = some r := by
  unfold evIndexAddr at e ⊢
  split at e
  · exact e
  · exact e
  · rename_i e' hd hu
    try simp only
    split at e
    · rename_i wd' len g hs
      rcases h _ _ hs with k | k
      · cases k
      · rw [k]; exact e
    · rename_i e'' wd' n g hs
      rcases h _ _ hs with k | k
      · cases k
      · rw [k]; exact e
    · cases e
  · cases e
theorem evLen_mono {P : Program} {t : TypeId} {m m' : List Seg} (h : MemLe m m') {x : NV} {r : Int} (e : evLen P t m x = some r) : evLen P t m' x = some r := by
  unfold evLen at e ⊢
  split at e
  · exact e
  · exact e
  · try simp only
    split at e
    · rename_i hu hs
      rcases h _ _ hs with k | k
      · cases k
      · rw [k, hu]; exact e
    · rename_i hu hs
      rcases h _ _ hs with k | k
      · cases k
      · rw [k, hu]; exact e
    · cases e
  · exact e
  · cases e
theorem srcOf_mono {wd : Nat} {m m' : List Seg} (h : MemLe m m') {x : At} {r : Nat × (Nat → List At)} (e : srcOf m wd x = some r) : srcOf m' wd x = some r := by
  unfold srcOf at e ⊢
  split at e
  · try simp only
    split at e
    · rename_i hs
      rcases h _ _ hs with k | k
      · cases k
      · rw [k]; exact e
    · rename_i hs
      rcases h _ _ hs with k | k
      · cases k
      · rw [k]; exact e
    · cases e
  · exact e
  · cases e
theorem evAppend_mono {P : Program} {t : TypeId} {m m' : List Seg} {nh : Nat} (h : MemLe m m') {s x : At} {r : SV × Eff × List Prop} (e : evAppend P t m s x nh = some r) : evAppend P t m' s x nh = some r := by
  unfold evAppend at e ⊢
  split at e
  · try simp only
    split at e
    · try simp only
      split at e
      · rename_i hc
        rw [if_pos hc]
        split at e
        · rename_i q hs
          rw [srcOf_mono h hs]
          try simp only
          split at e
          · try simp only
            split at e
            · rename_i hs
              rcases h _ _ hs with k | k
              · cases k
              · rw [k]; exact e
            · cases e
          · exact e
          · cases e
        · cases e
      · cases e
    · cases e
  · cases e

theorem evalCore_mono {P : Program} {op : Op} {xs : List SV} {m m' : List Seg} {nh : Nat} (h : MemLe m m') {r : SV × Eff × List Prop} (e : evalCore P op xs m nh = some r) : evalCore P op xs m' nh = some r := by
  unfold evalCore at e ⊢
  split at e
  all_goals try exact e
  · -- load
    try simp only
    split at e
    · rename_i hl
      rw [evLoad_mono h hl]; exact e
    · cases e
  · -- store
    try simp only
    split at e
    · rename_i hl
      rw [evStore_mono h hl]; exact e
    · cases e
  · -- indexAddr
    try simp only
    split at e
    · rename_i hi
      try rw [hi]
      try simp only
      split at e
      · rename_i hl
        rw [evIndexAddr_mono h hl]; exact e
      · cases e
    · cases e
  · -- len
    try simp only
    split at e
    · rename_i ht
      try rw [ht]
      try simp only
      split at e
      · rename_i hl
        rw [evLen_mono h hl]; exact e
      · cases e
    · cases e
  · -- append
    try simp only
    split at e
    · rename_i ht
      try rw [ht]
      try simp only
      split at e
      · rename_i hc
        rw [if_pos hc]
        exact evAppend_mono h e
      · cases e
    · cases e

/-! effects -/
structure Inf where
  v : SV
  eff : Eff
  nh : Nat
def Inf.touch (x : Inf) : List Nat :=
  match x.eff with
  | .none => []
  | .new _ => [x.nh]
  | .set h _ => [h]
  | .app h _ => [h, x.nh]
def Inf.app (x : Inf) (m : List Seg) : List Seg := x.eff.apply x.nh m

theorem Inf.app_length (x : Inf) (m : List Seg) : (x.app m).length = m.length := by
  unfold Inf.app; cases x.eff <;> simp [Eff.apply]
theorem Inf.app_other (x : Inf) (m : List Seg) {h : Nat} (k : h ∉ x.touch) : (x.app m)[h]? = m[h]? := by
  unfold Inf.touch at k
  unfold Inf.app
  cases he : x.eff with
  | none => rfl
  | new s => rw [he] at k; simp at k; simp only [Eff.apply]; rw [List.getElem?_set_ne (Ne.symm k)]
  | set c s => rw [he] at k; simp at k; simp only [Eff.apply]; rw [List.getElem?_set_ne (Ne.symm k)]
  | app c s =>
    rw [he] at k
    simp at k
    simp only [Eff.apply]
    rw [List.getElem?_set_ne (Ne.symm k.2), List.getElem?_set_ne (Ne.symm k.1)]
theorem Inf.app_touched (x : Inf) {m m' : List Seg} (hl : m.length = m'.length) {h : Nat} (k : h ∈ x.touch) : (x.app m)[h]? = (x.app m')[h]? := by
  unfold Inf.touch at k
  unfold Inf.app
  cases he : x.eff with
  | none => rw [he] at k; cases k
  | new s => rw [he] at k; simp at k; subst k; simp [Eff.apply, List.getElem?_set, hl]
  | set c s => rw [he] at k; simp at k; subst k; simp [Eff.apply, List.getElem?_set, hl]
  | app c s =>
    rw [he] at k
    simp at k
    simp only [Eff.apply, List.getElem?_set, List.length_set, hl]
    by_cases e1 : x.nh = h
    · simp [e1]
    · rw [if_neg e1, if_neg e1]
      rcases k with k | k
      · subst k; simp
      · exact absurd k.symm e1

theorem Inf.makes_touch {x : Inf} (h : x.eff.makes = true) : x.nh ∈ x.touch := by
  unfold Inf.touch
  cases he : x.eff with
  | none => rw [he] at h; cases h
  | new s => simp
  | set c s => rw [he] at h; cases h
  | app c s => simp

/-- What the first n operations leave, of those in D. -/
def foldE (I : Nat → Inf) (mem0 : List Seg) (D : Nat → Bool) : Nat → List Seg
  | 0 => mem0
  | n + 1 => if D n then (I n).app (foldE I mem0 D n) else foldE I mem0 D n
theorem foldE_length (I : Nat → Inf) (mem0 : List Seg) (D : Nat → Bool) : ∀ n, (foldE I mem0 D n).length = mem0.length
  | 0 => rfl
  | n + 1 => by
    unfold foldE
    split
    · rw [Inf.app_length, foldE_length]
    · exact foldE_length I mem0 D n
theorem foldE_agree {I : Nat → Inf} {mem0 : List Seg} {D D' : Nat → Bool} {h : Nat} : ∀ {n : Nat}, (∀ j, j < n → h ∈ (I j).touch → D j = D' j) → (foldE I mem0 D n)[h]? = (foldE I mem0 D' n)[h]?
  | 0, _ => rfl
  | n + 1, k => by
    have ih := foldE_agree (I := I) (mem0 := mem0) (D := D) (D' := D') (n := n) (fun j hj => k j (by omega))
    unfold foldE
    by_cases ht : h ∈ (I n).touch
    · rw [k n (by omega) ht]
      cases D' n
      · exact ih
      · exact Inf.app_touched _ (by rw [foldE_length, foldE_length]) ht
    · have e1 : ∀ (D : Nat → Bool), (if D n then (I n).app (foldE I mem0 D n) else foldE I mem0 D n)[h]? = (foldE I mem0 D n)[h]? := by
        intro D
        split
        · exact Inf.app_other _ _ ht
        · rfl
      rw [e1 D, e1 D']
      exact ih
theorem foldE_none {I : Nat → Inf} {mem0 : List Seg} {D : Nat → Bool} : ∀ {n : Nat}, (∀ j, j < n → D j = false) → foldE I mem0 D n = mem0
  | 0, _ => rfl
  | n + 1, k => by
    unfold foldE
    rw [k n (by omega)]
    exact foldE_none (fun j hj => k j (by omega))
/-- Cut off behind i. -/
theorem foldE_upto {I : Nat → Inf} {mem0 : List Seg} {D : Nat → Bool} {i : Nat} : ∀ {n : Nat}, i < n → D i = true → foldE I mem0 (fun j => D j && decide (j ≤ i)) n = (I i).app (foldE I mem0 (fun j => D j && decide (j ≤ i)) i)
  | 0, h, _ => by omega
  | n + 1, h, hd => by
    by_cases e : n = i
    · subst e
      conv => lhs; unfold foldE
      simp [hd]
    · conv => lhs; unfold foldE
      have : ¬ n ≤ i := by omega
      simp only [this, decide_false, Bool.and_false, Bool.false_eq_true, if_false]
      exact foldE_upto (by omega) hd

theorem foldE_add {I : Nat → Inf} {mem0 : List Seg} {D : Nat → Bool} {i n : Nat} (hi : i < n) (hD : D i = false) (hlate : ∀ j h, j < n → i < j → D j = true → h ∈ (I i).touch → h ∉ (I j).touch) :
    foldE I mem0 (fun j => D j || decide (j = i)) n = (I i).app (foldE I mem0 D n) := by
  apply List.ext_getElem?
  intro h
  by_cases ht : h ∈ (I i).touch
  · have e1 : (foldE I mem0 (fun j => D j || decide (j = i)) n)[h]? = (foldE I mem0 (fun j => (D j || decide (j = i)) && decide (j ≤ i)) n)[h]? := by
      refine foldE_agree (fun j hj hjt => ?_)
      by_cases hle : j ≤ i
      · simp [hle]
      · have hne : j ≠ i := by omega
        simp only [hle, decide_false, Bool.and_false, hne, Bool.or_false]
        cases hdj : D j with
        | false => rfl
        | true => exact absurd hjt (hlate j h hj (by omega) hdj ht)
    rw [e1, foldE_upto hi (by simp)]
    exact Inf.app_touched _ (by rw [foldE_length, foldE_length]) ht
  · rw [Inf.app_other _ _ ht]
    refine foldE_agree (fun j hj hjt => ?_)
    have : j ≠ i := fun e => by subst e; exact ht hjt
    simp [this]

/-! any order -/
def un (listed : Array Bool) : Nat → Nat
  | 0 => 0
  | n + 1 => un listed n + if listed.getD n true then 0 else 1
theorem un_set {listed : Array Bool} {i : Nat} (hl : listed.getD i true = false) : ∀ {n : Nat}, i < n → un (listed.setIfInBounds i true) n + 1 = un listed n
  | 0, h => by omega
  | n + 1, h => by
    have hi : i < listed.size := by
      rcases Nat.lt_or_ge i listed.size with k | k
      · exact k
      · rw [Array.getD_eq_getD_getElem?, Array.getElem?_eq_none k] at hl; cases hl
    have hother : ∀ m, m ≠ i → (listed.setIfInBounds i true).getD m true = listed.getD m true := fun m hm => by
      rw [Array.getD_eq_getD_getElem?, Array.getD_eq_getD_getElem?, Array.getElem?_setIfInBounds_ne (Ne.symm hm)]
    unfold un
    by_cases e : n = i
    · subst e
      have hsame : (listed.setIfInBounds n true).getD n true = true := by
        rw [Array.getD_eq_getD_getElem?, Array.getElem?_setIfInBounds_self_of_lt hi]; rfl
      have hrest : ∀ k, k ≤ n → un (listed.setIfInBounds n true) k = un listed k := by
        intro k
        induction k with
        | zero => intro _; rfl
        | succ k ih =>
          intro hk
          unfold un
          rw [ih (by omega), hother k (by omega)]
      rw [hsame, hrest n (Nat.le_refl _), hl]
      simp
    · rw [hother n e]
      have := un_set (n := n) hl (by omega)
      omega
theorem un_zero {listed : Array Bool} : ∀ {n : Nat}, un listed n = 0 → ∀ i, i < n → listed.getD i true = true
  | 0, _, i, h => by omega
  | n + 1, h, i, hi => by
    unfold un at h
    by_cases e : i = n
    · subst e
      cases q : listed.getD i true
      · rw [q] at h; simp at h
      · rfl
    · exact un_zero (n := n) (by omega) i (by omega)

section
variable {P : Program} {ops : Array Oper} {Q : Exit → Act → World → Prop} {cx : Cx}

/-- Where a region stands, with the operations D behind it. -/
structure RS (cx : Cx) (ops : Array Oper) (I : Nat → Inf) (mem0 : List Seg) (tm0 : List SV) (TB : Nat → SV) (r : Nat) (D : Nat → Bool) (env : Env) (a : Act) (w : World) : Prop where
  defers : a.defers = []
  size : a.tmps.size = tm0.length
  slots : ∀ t, (∀ j o, ops[j]? = some o → o.dst = some t → D j = true) → (TB t).rel env (a.tmps.getD t undef)
  mem : MemOk env (foldE I mem0 D ops.size) cx.w0 w cx.S
  fresh : ∀ j, j < ops.size → D j = false → (I j).eff.makes = true → env (I j).nh = none
  spare : env r = none
  closed : ∀ j o, ops[j]? = some o → D j = true → ∀ e ∈ o.after, Region.binds .any e = true → D e.on = true
  fix : ∀ h, h < cx.m0 → env h = none ∨ env h = cx.fix h
  slots0 : ∀ t, (∀ j o, ops[j]? = some o → o.dst = some t → D j = false) → (tm0.getD t .any).rel env (a.tmps.getD t undef)

/-- One operation, wherever it comes. -/
def GoodOp (P : Program) (cx : Cx) (ops : Array Oper) (I : Nat → Inf) (mem0 : List Seg) (tm0 : List SV) (TB : Nat → SV) (r : Nat) (bef : Nat → Nat → Bool) (i : Nat) (dst : Option Tmp) : Prop :=
  ∀ (env : Env) (a : Act) (w : World) (mem : List Seg) (K : Act → World → Prop) (Q : Exit → Act → World → Prop), a.defers = [] →
    (∀ t, (∀ j o, ops[j]? = some o → o.dst = some t → bef i j = true) → (TB t).rel env (a.tmps.getD t undef)) → (∀ t, (∀ j o, ops[j]? = some o → o.dst = some t → bef j i = true) → (tm0.getD t .any).rel env (a.tmps.getD t undef)) → mem.length = mem0.length →
    (∀ h, (∀ j, j < ops.size → j ≠ i → h ∈ (I j).touch → bef i j = true ∨ bef j i = true) → mem[h]? = (foldE I mem0 (fun j => decide (j < i)) ops.size)[h]?) →
    MemOk env mem cx.w0 w cx.S → ((I i).eff.makes = true → mem[(I i).nh]? = some .gone ∧ env (I i).nh = none) → mem[r]? = some .gone → env r = none →
    (∀ env' u w', env.le env' → (∀ h, ((I i).eff.makes = true → h ≠ (I i).nh) → env' h = env h) → (I i).v.rel env' u → MemOk env' ((I i).app mem) cx.w0 w' cx.S → K (a.put dst u) w') → wpOp P ops Q i K a w

set_option maxHeartbeats 1000000 in
theorem draw_any {I : Nat → Inf} {mem0 : List Seg} {tm0 : List SV} {TB : Nat → SV} {r : Nat} {bef : Nat → Nat → Bool}
    (hgood : ∀ i o, ops[i]? = some o → GoodOp P cx ops I mem0 tm0 TB r bef i o.dst)
    (hdst : ∀ (i j : Nat) (o o' : Oper) (t : Nat), ops[i]? = some o → ops[j]? = some o' → o.dst = some t → o'.dst = some t → i = j)
    (hTB : ∀ i o t, ops[i]? = some o → o.dst = some t → t < tm0.length → TB t = (I i).v) (hTBout : ∀ t, tm0.length ≤ t → TB t = .any)
    (hedge : ∀ i o, ops[i]? = some o → ∀ e ∈ o.after, Region.binds .any e = true → e.on < i)
    (hbef : ∀ (D : Nat → Bool) i j o, (∀ k o', ops[k]? = some o' → D k = true → ∀ e ∈ o'.after, Region.binds .any e = true → D e.on = true) → ops[i]? = some o → (∀ e ∈ o.after, Region.binds .any e = true → D e.on = true) → bef i j = true → D j = true)
    (hlt : ∀ i j, bef i j = true → j < i)
    (htouch : ∀ i j h, i < j → j < ops.size → h ∈ (I i).touch → h ∈ (I j).touch → bef j i = true)
    (hfresh : ∀ i j, i < ops.size → j < ops.size → i ≠ j → (I j).eff.makes = true → (I i).eff.makes = true → (I i).nh ≠ (I j).nh)
    (hmk : ∀ i j, i < j → j < ops.size → (I j).eff.makes = true → (I j).nh ∉ (I i).touch)
    (hnh : ∀ i, i < ops.size → (I i).eff.makes = true → mem0[(I i).nh]? = some .gone ∧ cx.m0 ≤ (I i).nh ∧ (I i).nh ≠ r)
    (hr : mem0[r]? = some .gone) (hrt : ∀ i, i < ops.size → r ∉ (I i).touch)
    (hQ : ∀ env a w, RS cx ops I mem0 tm0 TB r (fun _ => true) env a w → Q .normal a w) :
    ∀ (fuel : Nat) (listed : Array Bool) (env : Env) (a : Act) (w : World), un listed ops.size = fuel → RS cx ops I mem0 tm0 TB r (fun j => listed.getD j true) env a w → wpAny P .any ops Q fuel listed a w := by
  have ready_spec : ∀ (listed : Array Bool) i, i ∈ Region.ready .any ops listed ↔ listed.getD i true = false ∧ ∃ o, ops[i]? = some o ∧ ∀ e ∈ o.after, Region.binds .any e = true → listed.getD e.on false = true := fun listed i => mem_ready
  have allD : ∀ (listed : Array Bool) env a w, (∀ i, i < ops.size → listed.getD i true = true) → RS cx ops I mem0 tm0 TB r (fun j => listed.getD j true) env a w → RS cx ops I mem0 tm0 TB r (fun _ => true) env a w := by
    intro listed env a w hall h
    refine ⟨h.defers, h.size, fun t ht => h.slots t (fun j o hj hd => hall j (Array.getElem?_eq_some_iff.1 hj).1), ?_, (fun j hj hD => by cases hD), h.spare, fun _ _ _ _ _ _ _ => rfl, h.fix, fun t ht => h.slots0 t (fun j o hj hd => absurd (ht j o hj hd) (by simp))⟩
    have : foldE I mem0 (fun _ => true) ops.size = foldE I mem0 (fun j => listed.getD j true) ops.size := by
      apply List.ext_getElem?
      intro c
      exact foldE_agree (fun j hj _ => (hall j hj).symm)
    rw [this]; exact h.mem
  intro fuel
  induction fuel with
  | zero =>
    intro listed env a w hun h
    have hall := un_zero hun
    refine ⟨?_, hQ env a w (allD listed env a w hall h)⟩
    cases hrd : Region.ready .any ops listed with
    | nil => rfl
    | cons i l =>
      obtain ⟨h1, o, h2, _⟩ := (ready_spec listed i).1 (by rw [hrd]; simp)
      rw [hall i (Array.getElem?_eq_some_iff.1 h2).1] at h1
      cases h1
  | succ fuel ih =>
    intro listed env a w hun h
    refine ⟨fun hnil => ?_, fun i hi => ?_⟩
    · -- nothing is ready: all are listed
      have hall : ∀ n, ∀ i, i < n → i < ops.size → listed.getD i true = true := by
        intro n
        induction n with
        | zero => intro i hi; omega
        | succ n ihn =>
          intro i hi hs
          by_cases e : i < n
          · exact ihn i e hs
          · cases q : listed.getD i true with
            | true => rfl
            | false =>
              exfalso
              have hmem : i ∈ Region.ready .any ops listed := by
                refine (ready_spec listed i).2 ⟨q, ops[i], Array.getElem?_eq_getElem hs, fun e' he hb => ?_⟩
                have hlt' := hedge i _ (Array.getElem?_eq_getElem hs) e' he hb
                have := ihn e'.on (by omega) (by omega)
                rw [Array.getD_eq_getD_getElem?] at this ⊢
                cases hq : listed[e'.on]? with
                | none =>
                  rw [Array.getElem?_eq_none_iff] at hq
                  rw [Array.getD_eq_getD_getElem?, Array.getElem?_eq_none (by omega)] at q
                  cases q
                | some b => rw [hq] at this; exact this
              rw [hnil] at hmem
              cases hmem
      exact hQ env a w (allD listed env a w (fun i hi => hall ops.size i hi hi) h)
    · obtain ⟨hun', o, ho, hall⟩ := (ready_spec listed i).1 hi
      have his : i < ops.size := (Array.getElem?_eq_some_iff.1 ho).1
      have hallD : ∀ e ∈ o.after, Region.binds .any e = true → listed.getD e.on true = true := by
        intro e he hb
        have := hall e he hb
        rw [Array.getD_eq_getD_getElem?] at this ⊢
        cases hq : listed[e.on]? with
        | none => rw [hq] at this; cases this
        | some b => rw [hq] at this; exact this
      have hDbef : ∀ j, bef i j = true → listed.getD j true = true := fun j hb => hbef _ i j o h.closed ho hallD hb
      have hDaft : ∀ j, j < ops.size → bef j i = true → listed.getD j true = false := by
        intro j hj hb
        cases q : listed.getD j true with
        | false => rfl
        | true =>
          exfalso
          have := hbef _ j i (ops[j]) h.closed (Array.getElem?_eq_getElem hj) (fun e he hbi => h.closed j _ (Array.getElem?_eq_getElem hj) q e he hbi) hb
          rw [hun'] at this
          cases this
      refine hgood i o ho env a w (foldE I mem0 (fun j => listed.getD j true) ops.size) _ _ h.defers (fun t ht => h.slots t (fun j o' hj hd => hDbef j (ht j o' hj hd))) (fun t ht => h.slots0 t (fun j o' hj hd => hDaft j (Array.getElem?_eq_some_iff.1 hj).1 (ht j o' hj hd))) (foldE_length _ _ _ _) ?_ h.mem ?_ ?_ h.spare ?_
      · intro c hc
        refine foldE_agree (fun j hj hjt => ?_)
        by_cases e : j = i
        · subst e; rw [hun']; simp
        · rcases hc j hj e hjt with hb | hb
          · rw [hDbef j hb]; have := hlt i j hb; simp [this]
          · rw [hDaft j hj hb]; have := hlt j i hb
            have : ¬ j < i := by omega
            simp [this]
      · intro hmks
        refine ⟨?_, h.fresh i his hun' hmks⟩
        have e : (foldE I mem0 (fun j => listed.getD j true) ops.size)[(I i).nh]? = (foldE I mem0 (fun _ => false) ops.size)[(I i).nh]? := by
          refine foldE_agree (fun j hj hjt => ?_)
          by_cases e : j = i
          · subst e; exact hun'
          · rcases Nat.lt_or_gt_of_ne e with q | q
            · exact absurd hjt (hmk j i q his hmks)
            · have ht : (I i).nh ∈ (I i).touch := Inf.makes_touch hmks
              exact hDaft j hj (htouch i j _ q hj ht hjt)
        rw [e, foldE_none (fun _ _ => rfl)]
        exact (hnh i his hmks).1
      · have e : (foldE I mem0 (fun j => listed.getD j true) ops.size)[r]? = (foldE I mem0 (fun _ => false) ops.size)[r]? := foldE_agree (fun j hj hjt => absurd hjt (hrt j hj))
        rw [e, foldE_none (fun _ _ => rfl)]
        exact hr
      · intro env' u w' hle hoth hv hm
        refine ih (listed.setIfInBounds i true) env' (a.put o.dst u) w' (by have := un_set hun' his; omega) ?_
        have hlisted : i < listed.size := by
          rcases Nat.lt_or_ge i listed.size with k | k
          · exact k
          · rw [Array.getD_eq_getD_getElem?, Array.getElem?_eq_none k] at hun'; cases hun'
        have hget : ∀ j, (listed.setIfInBounds i true).getD j true = (listed.getD j true || decide (j = i)) := by
          intro j
          by_cases e : j = i
          · subst e
            rw [Array.getD_eq_getD_getElem?, Array.getElem?_setIfInBounds_self_of_lt hlisted]
            simp
          · rw [Array.getD_eq_getD_getElem?, Array.getD_eq_getD_getElem?, Array.getElem?_setIfInBounds_ne (Ne.symm e)]
            simp [e]
        refine ⟨by cases o.dst <;> exact h.defers, ?_, ?_, ?_, ?_, ?_, ?_, ?_, ?_⟩
        · cases o.dst with
          | none => exact h.size
          | some d => show (a.tmps.setIfInBounds d u).size = _; rw [Array.size_setIfInBounds]; exact h.size
        · intro t ht
          by_cases htd : o.dst = some t
          · by_cases hts : t < tm0.length
            · rw [hTB i o t ho htd hts, htd]
              show SV.rel env' _ ((a.tmps.setIfInBounds t u).getD t undef)
              rw [Array.getD_eq_getD_getElem?, Array.getElem?_setIfInBounds_self_of_lt (by rw [h.size]; exact hts)]
              exact hv
            · rw [hTBout t (by omega)]; trivial
          · have e : (a.put o.dst u).tmps.getD t undef = a.tmps.getD t undef := by
              cases hd : o.dst with
              | none => rfl
              | some d =>
                show (a.tmps.setIfInBounds d u).getD t undef = _
                rw [Array.getD_eq_getD_getElem?, Array.getD_eq_getD_getElem?, Array.getElem?_setIfInBounds_ne (fun e => htd (by rw [hd, e]))]
            rw [e]
            refine SV.rel_le hle (h.slots t (fun j o' hj hd => ?_))
            have := ht j o' hj hd
            rw [hget] at this
            have hne : j ≠ i := fun e => by subst e; rw [ho] at hj; cases hj; exact htd hd
            rcases Bool.or_eq_true_iff.1 this with q | q
            · exact q
            · exact absurd (of_decide_eq_true q) hne
        · have e : foldE I mem0 (fun j => (listed.setIfInBounds i true).getD j true) ops.size = (I i).app (foldE I mem0 (fun j => listed.getD j true) ops.size) := by
            rw [show (fun j => (listed.setIfInBounds i true).getD j true) = (fun j => listed.getD j true || decide (j = i)) from funext hget]
            refine foldE_add his hun' (fun j c hj hij hDj hti htj => ?_)
            have := hDaft j hj (htouch i j c hij hj hti htj)
            rw [this] at hDj
            cases hDj
          rw [e]; exact hm
        · intro j hj hD hmks
          rw [hget] at hD
          simp only [Bool.or_eq_false_iff, decide_eq_false_iff_not] at hD
          rw [hoth _ (fun hmi => hfresh j i hj his hD.2 hmi hmks)]
          exact h.fresh j hj hD.1 hmks
        · rw [hoth _ (fun hmi => Ne.symm (hnh i his hmi).2.2)]
          exact h.spare
        · intro j o' hj hD e he hb
          rw [hget] at hD ⊢
          rcases Bool.or_eq_true_iff.1 hD with q | q
          · rw [h.closed j o' hj q e he hb]; rfl
          · simp only [decide_eq_true_eq] at q
            subst q
            rw [ho] at hj
            cases hj
            rw [hallD e he hb]; rfl
        · intro c hc
          rw [hoth c (fun hmi => by have := (hnh i his hmi).2.1; omega)]
          exact h.fix c hc
        · intro t ht
          have htd : o.dst ≠ some t := fun hd => by
            have := ht i o ho hd
            rw [hget] at this
            simp at this
          have e : (a.put o.dst u).tmps.getD t undef = a.tmps.getD t undef := by
            cases hd : o.dst with
            | none => rfl
            | some d =>
              show (a.tmps.setIfInBounds d u).getD t undef = _
              rw [Array.getD_eq_getD_getElem?, Array.getD_eq_getD_getElem?, Array.getElem?_setIfInBounds_ne (fun e => htd (by rw [hd, e]))]
          rw [e]
          refine SV.rel_le hle (h.slots0 t (fun j o' hj hd => ?_))
          have := ht j o' hj hd
          rw [hget] at this
          simp only [Bool.or_eq_false_iff] at this
          exact this.1
end
end E
end Go.Proofs.Ytlmeemilikladaa

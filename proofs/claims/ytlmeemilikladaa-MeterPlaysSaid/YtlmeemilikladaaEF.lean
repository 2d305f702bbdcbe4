/- A symbolic run of Go code: regions that draw their order, run in the text's order. No condition. -/
import Derived.Test.YtlmeemilikladaaED
namespace Go.Proofs.Ytlmeemilikladaa
set_option linter.unusedVariables false
set_option linter.unusedSimpArgs false
namespace E
open Go.RowKit

/-! which operation comes before which -/
def maskOf (acc : List Nat) (o : Oper) : Nat := o.after.toList.foldl (fun s e => if Region.binds .any e then s ||| 2 ^ e.on ||| acc.getD e.on 0 else s) 0
def befsAux : List Oper → List Nat → List Nat
  | [], acc => acc
  | o :: os, acc => befsAux os (acc ++ [maskOf acc o])
def befs (ops : List Oper) : List Nat := befsAux ops []
def bef (masks : List Nat) (i j : Nat) : Bool := (masks.getD i 0).testBit j

theorem foldl_mask (acc : List Nat) : ∀ (l : List Edge) (s j : Nat), (l.foldl (fun s e => if Region.binds .any e then s ||| 2 ^ e.on ||| acc.getD e.on 0 else s) s).testBit j = true →
    s.testBit j = true ∨ ∃ e ∈ l, Region.binds .any e = true ∧ (e.on = j ∨ (acc.getD e.on 0).testBit j = true)
  | [], s, j, h => .inl h
  | e :: l, s, j, h => by
    simp only [List.foldl_cons] at h
    rcases foldl_mask acc l _ j h with k | ⟨e', he, hb, hj⟩
    · split at k
      · rename_i hb
        rw [Nat.testBit_or, Nat.testBit_or, Bool.or_eq_true, Bool.or_eq_true] at k
        rcases k with (k | k) | k
        · exact .inl k
        · rw [Nat.testBit_two_pow] at k
          exact .inr ⟨e, by simp, hb, .inl (of_decide_eq_true k)⟩
        · exact .inr ⟨e, by simp, hb, .inr k⟩
      · exact .inl k
    · exact .inr ⟨e', List.mem_cons_of_mem _ he, hb, hj⟩
theorem befsAux_get : ∀ (l : List Oper) (acc : List Nat), (∀ i, i < acc.length → (befsAux l acc).getD i 0 = acc.getD i 0) ∧
    (∀ k o, l[k]? = some o → ∃ acc', (befsAux l acc).getD (acc.length + k) 0 = maskOf acc' o ∧ acc'.length = acc.length + k ∧ ∀ i, i < acc'.length → acc'.getD i 0 = (befsAux l acc).getD i 0)
  | [], acc => ⟨fun i _ => rfl, fun k o h => by simp at h⟩
  | x :: l, acc => by
    obtain ⟨h1, h2⟩ := befsAux_get l (acc ++ [maskOf acc x])
    have hold : ∀ i, i < acc.length → (befsAux l (acc ++ [maskOf acc x])).getD i 0 = acc.getD i 0 := fun i hi => by
      rw [h1 i (by simp; omega)]
      rw [List.getD_eq_getElem?_getD, List.getElem?_append_left hi, ← List.getD_eq_getElem?_getD]
    refine ⟨hold, fun k o hk => ?_⟩
    cases k with
    | zero =>
      simp at hk
      subst hk
      refine ⟨acc, ?_, rfl, fun i hi => (hold i hi).symm⟩
      show (befsAux l (acc ++ [maskOf acc x])).getD (acc.length + 0) 0 = _
      rw [h1 _ (by simp)]
      rw [List.getD_eq_getElem?_getD]
      simp
    | succ k =>
      simp at hk
      obtain ⟨acc', e1, e2, e3⟩ := h2 k o hk
      refine ⟨acc', ?_, ?_, e3⟩
      · show (befsAux l (acc ++ [maskOf acc x])).getD (acc.length + (k + 1)) 0 = _
        rw [← e1]; congr 1; simp; omega
      · rw [e2]; simp; omega
theorem bef_spec {l : List Oper} {i j : Nat} {o : Oper} (ho : l[i]? = some o) (h : bef (befs l) i j = true) : ∃ e ∈ o.after, Region.binds .any e = true ∧ (e.on = j ∨ (e.on < i ∧ bef (befs l) e.on j = true)) := by
  obtain ⟨acc', e1, e2, e3⟩ := (befsAux_get l []).2 i o ho
  unfold bef befs at h
  simp only [List.length_nil, Nat.zero_add] at e1 e2
  rw [e1] at h
  rcases foldl_mask _ _ _ _ h with k | ⟨e, he, hb, k⟩
  · simp at k
  · refine ⟨e, by simpa using he, hb, ?_⟩
    rcases k with k | k
    · exact .inl k
    · have hlt : e.on < acc'.length := by
        rcases Nat.lt_or_ge e.on acc'.length with q | q
        · exact q
        · rw [List.getD_eq_getElem?_getD, List.getElem?_eq_none q] at k; simp at k
      refine .inr ⟨by omega, ?_⟩
      unfold bef befs
      rw [← e3 _ hlt]
      exact k
theorem bef_down {ops : Array Oper} (D : Nat → Bool) (hc : ∀ k o', ops[k]? = some o' → D k = true → ∀ e ∈ o'.after, Region.binds .any e = true → D e.on = true) :
    ∀ (i : Nat) (o : Oper) (j : Nat), ops[i]? = some o → (∀ e ∈ o.after, Region.binds .any e = true → D e.on = true) → bef (befs ops.toList) i j = true → D j = true := by
  intro i
  induction i using Nat.strongRecOn with
  | _ i ih =>
    intro o j ho hp h
    obtain ⟨e, he, hb, k⟩ := bef_spec (l := ops.toList) (by simpa using ho) h
    have hD := hp e he hb
    rcases k with k | ⟨hlt, k⟩
    · rw [← k]; exact hD
    · have his : i < ops.size := (Array.getElem?_eq_some_iff.1 ho).1
      have ho' : ops[e.on]? = some (ops[e.on]'(by omega)) := Array.getElem?_eq_getElem (by omega)
      exact ih e.on hlt _ j ho' (hc e.on _ ho' hD) k

/-! the run -/
def visAux (m t : Nat) : List (Option Tmp) → Nat → Bool
  | [], _ => true
  | some d :: ds, j => (if d = t then m.testBit j else true) && visAux m t ds (j + 1)
  | none :: ds, j => visAux m t ds (j + 1)
theorem visAux_spec {m t : Nat} : ∀ {ds : List (Option Tmp)} {j : Nat}, visAux m t ds j = true → ∀ k, ds[k]? = some (some t) → m.testBit (j + k) = true
  | [], j, h, k, e => by simp at e
  | some d :: ds, j, h, 0, e => by
    simp only [visAux, Bool.and_eq_true] at h
    simp at e
    subst e
    simpa using h.1
  | none :: ds, j, h, 0, e => by simp at e
  | some d :: ds, j, h, k + 1, e => by
    simp only [visAux, Bool.and_eq_true] at h
    simp at e
    have := visAux_spec h.2 k e
    rwa [show j + 1 + k = j + (k + 1) by omega] at this
  | none :: ds, j, h, k + 1, e => by
    simp only [visAux] at h
    simp at e
    have := visAux_spec h k e
    rwa [show j + 1 + k = j + (k + 1) by omega] at this
/-- What is written to a slot is so behind operation i. -/
def visAft (masks : List Nat) (i t : Nat) : List (Option Tmp) → Nat → Bool
  | [], _ => true
  | some d :: ds, j => (if d = t then bef masks j i else true) && visAft masks i t ds (j + 1)
  | none :: ds, j => visAft masks i t ds (j + 1)
theorem visAft_spec {masks : List Nat} {i t : Nat} : ∀ {ds : List (Option Tmp)} {j : Nat}, visAft masks i t ds j = true → ∀ k, ds[k]? = some (some t) → bef masks (j + k) i = true
  | [], j, h, k, e => by simp at e
  | some d :: ds, j, h, 0, e => by
    simp only [visAft, Bool.and_eq_true] at h
    simp at e
    subst e
    simpa using h.1
  | none :: ds, j, h, 0, e => by simp at e
  | some d :: ds, j, h, k + 1, e => by
    simp only [visAft, Bool.and_eq_true] at h
    simp at e
    have := visAft_spec h.2 k e
    rwa [show j + 1 + k = j + (k + 1) by omega] at this
  | none :: ds, j, h, k + 1, e => by
    simp only [visAft] at h
    simp at e
    have := visAft_spec h k e
    rwa [show j + 1 + k = j + (k + 1) by omega] at this
def visB (masks : List Nat) (dsts : List (Option Tmp)) (i : Nat) : Operand → Bool
  | .tmp t => visAux (masks.getD i 0) t dsts 0 || visAft masks i t dsts 0
  | _ => true

def goneAll (mem : List Seg) : List Nat → List Seg
  | [] => mem
  | h :: hs => goneAll (mem.set h .gone) hs
def maskMem (masks : List Nat) (i : Nat) : List (List Nat) → Nat → List Seg → List Seg
  | [], _, mem => mem
  | hs :: W, j, mem => maskMem masks i W (j + 1) (if j = i || bef masks i j || bef masks j i then mem else goneAll mem hs)

theorem goneAll_get : ∀ (hs : List Nat) (mem : List Seg) (h : Nat) (s : Seg), (goneAll mem hs)[h]? = some s → s = Seg.gone ∨ (h ∉ hs ∧ mem[h]? = some s)
  | [], mem, h, s, e => .inr ⟨by simp, e⟩
  | x :: hs, mem, h, s, e => by
    rcases goneAll_get hs _ h s e with k | ⟨k1, k2⟩
    · exact .inl k
    · by_cases q : x = h
      · subst q
        rw [List.getElem?_set] at k2
        simp at k2
        exact .inl k2.2.symm
      · rw [List.getElem?_set_ne q] at k2
        exact .inr ⟨by simp; exact ⟨fun e => q e.symm, k1⟩, k2⟩
theorem maskMem_get (masks : List Nat) (i : Nat) : ∀ (W : List (List Nat)) (j : Nat) (mem : List Seg) (h : Nat) (s : Seg), (maskMem masks i W j mem)[h]? = some s →
    s = Seg.gone ∨ (mem[h]? = some s ∧ ∀ k hs, W[k]? = some hs → h ∈ hs → j + k = i ∨ bef masks i (j + k) = true ∨ bef masks (j + k) i = true)
  | [], j, mem, h, s, e => .inr ⟨e, fun k hs e => by simp at e⟩
  | x :: W, j, mem, h, s, e => by
    unfold maskMem at e
    rcases maskMem_get masks i W (j + 1) _ h s e with k | ⟨k1, k2⟩
    · exact .inl k
    · have tail : ∀ k hs, W[k]? = some hs → h ∈ hs → j + (k + 1) = i ∨ bef masks i (j + (k + 1)) = true ∨ bef masks (j + (k + 1)) i = true := fun k hs hk hh => by
        have := k2 k hs hk hh
        rwa [show j + 1 + k = j + (k + 1) by omega] at this
      split at k1
      · rename_i hc
        refine .inr ⟨k1, fun k hs hk hh => ?_⟩
        cases k with
        | zero => simpa [or_assoc] using hc
        | succ k => exact tail k hs (by simpa using hk) hh
      · rcases goneAll_get _ _ _ _ k1 with q | ⟨q1, q2⟩
        · exact .inl q
        · refine .inr ⟨q2, fun k hs hk hh => ?_⟩
          cases k with
          | zero => simp at hk; subst hk; exact absurd hh q1
          | succ k => exact tail k hs (by simpa using hk) hh

structure DR where
  inf : Inf
  tm : List SV
  obl : List Prop
  orc : List Bool

def mk? : Op → Bool
  | .box .. | .alloc .. | .buildSlice .. | .makeSlice .. => true
  | .call { callee := .builtin .append, args := _, argTypes := _ } => true
  | _ => false

def sel (b : Bool) (x y : Operand) : Operand := bif b then x else y
/-- One operation of a region, that runs. -/
def drawOp (P : Program) (Γ : List (FuncId × Sp)) (vis : Operand → Bool) (op : Op) (mem : List Seg) (nh : Nat) (tm : List SV) (orc : List Bool) : Option DR :=
  match op with
  | .pick c x y => if vis c then match decide? tm orc c with
    | some (b, tm, obl, orc) => if vis (sel b x y) then match get tm (sel b x y) with
      | .nv r => some ⟨⟨.nv r, .none, nh⟩, tm, obl, orc⟩
      | _ => none
      else none
    | none => none
    else none
  | .call { callee := .value (.func f), args, argTypes := _ } => if args.toList.all vis then match Γ.lookup f with
    | some (.rd g) => match g (args.toList.map fun x => norm (get tm x)) mem with
      | some (r, obl) => some ⟨⟨r, .none, nh⟩, tm, obl, orc⟩
      | none => none
    | _ => none
    else none
  | op => if op.operands.toList.all vis then match evalCore P op (op.operands.toList.map (get tm)) mem nh with
    | some (r, eff, obl) => if eff.makes = mk? op then some ⟨⟨r, eff, nh⟩, tm, obl, orc⟩ else none
    | none => none
    else none

def drawStep (P : Program) (Γ : List (FuncId × Sp)) (ops : Array Oper) (vis : Operand → Bool) (o : Oper) (mem : List Seg) (nh : Nat) (tm : List SV) (orc : List Bool) : Option DR :=
  match o.guard with
  | none => drawOp P Γ vis o.op mem nh tm orc
  | some (j, want) => match (ops[j]?).bind (·.dst) with
    | some d => if vis (.tmp d) then if isUndef (tm.getD d .any) then some ⟨⟨.tup [], .none, nh⟩, tm, [], orc⟩ else match decide? tm orc (.tmp d) with
      | some (c, tm, obl0, orc) => if c == want then match drawOp P Γ vis o.op mem nh tm orc with
          | some r => some ⟨r.inf, r.tm, obl0 ++ r.obl, r.orc⟩
          | none => none
        else some ⟨⟨.tup [], .none, nh⟩, tm, obl0, orc⟩
      | none => none
      else none
    | none => none

def drawGo (P : Program) (Γ : List (FuncId × Sp)) (ops : Array Oper) (masks : List Nat) (dsts : List (Option Tmp)) (W : List (List Nat)) (r : Nat) : List Oper → Nat → Nat → List SV → List Seg → List Bool → Option (List Inf × List SV × List Seg × List Prop × List Bool)
  | [], _, _, tm, mem, orc => some ([], tm, mem, [], orc)
  | o :: os, i, nh, tm, mem, orc =>
    match drawStep P Γ ops (visB masks dsts i) o (maskMem masks i W 0 mem) (if mk? o.op then nh else r) tm orc with
    | some d => match drawGo P Γ ops masks dsts W r os (i + 1) (if mk? o.op then nh + 1 else nh) (put d.tm o.dst d.inf.v) (d.inf.app mem) d.orc with
      | some (infs, tm, mem, obl, orc) => some (d.inf :: infs, tm, mem, d.obl ++ obl, orc)
      | none => none
    | none => none

def edgesB : List Oper → Nat → Bool
  | [], _ => true
  | o :: os, i => o.after.toList.all (fun e => !Region.binds .any e || decide (e.on < i)) && edgesB os (i + 1)
def pairB (masks : List Nat) (n : Nat) (dsts : List (Option Tmp)) (infs : List Inf) : Bool :=
  (List.range n).all fun i => (List.range n).all fun j =>
    if i < j then
      match infs[i]?, infs[j]?, dsts[i]?, dsts[j]? with
      | some x, some y, some d, some d' =>
        (match d, d' with | some a, some b => decide (a ≠ b) | _, _ => true) &&
        (if x.touch.all (fun h => !y.touch.contains h) then true else bef masks j i) &&
        (!y.eff.makes || (!x.touch.contains y.nh && (!x.eff.makes || decide (x.nh ≠ y.nh))))
      | _, _, _, _ => false
    else true
def oneB (base r : Nat) (mem0 : List Seg) (infs : List Inf) : Bool :=
  infs.all fun x => (!x.eff.makes || (decide (base ≤ x.nh) && decide (x.nh ≠ r) && decide (x.nh < mem0.length))) && !x.touch.contains r

/-- A region that draws its order. -/
def drawOps (P : Program) (Γ : List (FuncId × Sp)) (ops : List Oper) (st : St) (orc : List Bool) : Option (St × List Prop × List Bool) :=
  let masks := befs ops
  let dsts := ops.map (·.dst)
  let base := st.mem.length
  let K := (ops.filter fun o => mk? o.op).length
  let mem0 := st.mem ++ List.replicate (K + 1) .gone
  match drawGo P Γ ops.toArray masks dsts [] (base + K) ops 0 base st.tm mem0 orc with
  | some (infs0, _, _, _, _) =>
    match drawGo P Γ ops.toArray masks dsts (infs0.map Inf.touch) (base + K) ops 0 base st.tm mem0 orc with
    | some (infs, tm, mem, obl, orc) =>
      if infs.map Inf.touch = infs0.map Inf.touch ∧ edgesB ops 0 ∧ pairB masks ops.length dsts infs ∧ oneB base (base + K) mem0 infs then some (⟨tm, mem.take (base + K)⟩, obl, orc) else none
    | none => none
  | none => none
end E
end Go.Proofs.Ytlmeemilikladaa

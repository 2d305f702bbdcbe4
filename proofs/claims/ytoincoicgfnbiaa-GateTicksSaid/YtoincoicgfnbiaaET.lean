/- A range over a function, in a symbolic run: the loop by what its rounds leave in memory, and the function's end behind it. No condition. -/
import Derived.Test.YtoincoicgfnbiaaES
import Derived.LoopNIn
namespace Go.Proofs.Ytoincoicgfnbiaa
set_option linter.unusedVariables false
set_option linter.unusedSimpArgs false
namespace E
open Go.RowKit
theorem MemOk.join {env env' : Env} {mem mem' : List Seg} {w0 w w' : World} {S S' : Nat → Prop} (h : MemOk env mem w0 w S) (k : MemOk env' mem' w w' S') (hS : ∀ b, S' b → ownS env mem b ∨ w0.heap.size ≤ b) : MemOk env' mem' w0 w' S where
  ok := k.ok
  top := k.top
  sep := k.sep
  own := fun c s b hc hx hb => by
    rcases k.own c s b hc hx hb with q | q
    · exact .inl (Nat.le_trans h.grow q)
    · rcases hS b q with ⟨i, x, i1, i2, i3⟩ | q
      · exact h.own i x b i1 i2 i3
      · exact .inl q
  os := k.os.trans h.os
  tape := k.tape.trans h.tape
  output := k.output.trans h.output
  grow := Nat.le_trans h.grow k.grow
  frame := fun b hb hSb => by
    rw [k.frame b (Nat.lt_of_lt_of_le hb h.grow) (fun q => by
      rcases hS b q with ⟨i, x, i1, i2, i3⟩ | q
      · rcases h.own i x b i1 i2 i3 with q | q
        · omega
        · exact hSb q
      · omega)]
    exact h.frame b hb hSb
/-- What a state holds hangs on handles below m. -/
def A0.lt (m : Nat) : A0 → Bool
  | .val _ => true
  | .ptr h _ => decide (h < m)
  | .own h => decide (h < m)
def At.lt (m : Nat) : At → Bool
  | .val _ | .bit _ | .any => true
  | .ptr h _ => decide (h < m)
  | .eptr h _ _ _ => decide (h < m)
  | .own h => decide (h < m)
  | .sub h _ _ _ => decide (h < m)
  | .clo _ caps => caps.all (A0.lt m)
  | .optr h => decide (h < m)
  | .chn h => decide (h < m)
def Seg.lt (m : Nat) : Seg → Prop
  | .box _ cells | .robox _ cells => cells.all (At.lt m) = true
  | .ro _ n g | .row _ _ n g => ∀ i, i < n → (g i).all (At.lt m) = true
  | .chan .. | .gone => True
section
variable {env env' : Env} {m : Nat} (hle : ∀ j v, j < m → env' j = some v → env j = some v)
include hle
theorem A0.rel_lt {a : A0} {v : Value} (h : a.lt m = true) (k : a.rel env' v) : a.rel env v := by
  cases a with
  | val x => exact k
  | ptr c j => obtain ⟨u, ad, h1, h2⟩ := k; exact ⟨u, ad, hle _ _ (of_decide_eq_true h) h1, h2⟩
  | own c => exact ⟨hle _ _ (of_decide_eq_true h) k.1, k.2⟩
theorem A0s.rel_lt : ∀ {l : List A0} {vs : List Value}, l.all (A0.lt m) = true → A0s.rel env' l vs → A0s.rel env l vs
  | [], [], _, _ => trivial
  | a :: l, v :: vs, h, k => by
    rw [List.all_cons, Bool.and_eq_true] at h
    exact ⟨A0.rel_lt hle h.1 k.1, A0s.rel_lt h.2 k.2⟩
  | [], _ :: _, _, k => k.elim
  | _ :: _, [], _, k => k.elim
theorem At.rel_lt {a : At} {v : Value} (h : a.lt m = true) (k : a.rel env' v) : a.rel env v := by
  cases a with
  | val x => exact k
  | bit x => exact k
  | any => trivial
  | ptr c j => obtain ⟨u, ad, h1, h2⟩ := k; exact ⟨u, ad, hle _ _ (of_decide_eq_true h) h1, h2⟩
  | eptr c wd i j => obtain ⟨u, ad, h1, h2⟩ := k; exact ⟨u, ad, hle _ _ (of_decide_eq_true h) h1, h2⟩
  | own c => exact ⟨hle _ _ (of_decide_eq_true h) k.1, k.2⟩
  | sub c wd off n => obtain ⟨ao, len, cap, bo, c', h1, h2⟩ := k; exact ⟨ao, len, cap, bo, c', hle _ _ (of_decide_eq_true h) h1, h2⟩
  | clo f caps => obtain ⟨cs, rfl, h2⟩ := k; exact ⟨cs, rfl, A0s.rel_lt hle h h2⟩
  | optr c =>
    rcases k with k | ⟨u, ad, h1, h2⟩
    · exact .inl k
    · exact .inr ⟨u, ad, hle _ _ (of_decide_eq_true h) h1, h2⟩
  | chn c => obtain ⟨b, h1, h2⟩ := k; exact ⟨b, hle _ _ (of_decide_eq_true h) h1, h2⟩
theorem AllRel.lt : ∀ {l : List At} {vs : List Value}, l.all (At.lt m) = true → AllRel env' l vs → AllRel env l vs
  | [], [], _, _ => trivial
  | a :: l, v :: vs, h, k => by
    rw [List.all_cons, Bool.and_eq_true] at h
    exact ⟨At.rel_lt hle h.1 k.1, AllRel.lt h.2 k.2⟩
  | [], _ :: _, _, k => k.elim
  | _ :: _, [], _, k => k.elim
theorem segOk_lt {w : World} {c : Nat} (hc : c < m) {s : Seg} (h : s.lt m) (k : SegOk env' w c s) : SegOk env w c s := by
  cases s with
  | box t cells => obtain ⟨b, cs, h1, h2, h3⟩ := k; exact ⟨b, cs, hle _ _ hc h1, h2, AllRel.lt hle h h3⟩
  | robox t cells => obtain ⟨b, cs, h1, h2, h3⟩ := k; exact ⟨b, cs, hle _ _ hc h1, h2, AllRel.lt hle h h3⟩
  | ro wd len g => obtain ⟨ao, cap, cs, h1, h2, h3, h4, h5, h6⟩ := k; exact ⟨ao, cap, cs, hle _ _ hc h1, h2, h3, h4, ⟨h5.1, fun i hi => AllRel.lt hle (h i hi) (h5.2.1 i hi), h5.2.2⟩, h6⟩
  | row e wd n g => obtain ⟨v, cs, h1, h2, h3⟩ := k; exact ⟨v, cs, hle _ _ hc h1, h2, ⟨h3.1, fun i hi => AllRel.lt hle (h i hi) (h3.2.1 i hi), h3.2.2⟩⟩
  | chan cap buf cl => obtain ⟨b, s, r, h1, h2⟩ := k; exact ⟨b, s, r, hle _ _ hc h1, h2⟩
  | gone => trivial
end
theorem MemOk.refix {env env' : Env} {mem more : List Seg} {w0 w : World} {S : Nat → Prop} (h : MemOk env' (mem ++ more) w0 w S) (hf : ∀ j, j < mem.length → env' j = none ∨ env' j = env j) (ht : ∀ j, mem.length ≤ j → env j = none)
    (hl : ∀ s, s ∈ mem → s.lt mem.length) : MemOk env mem w0 w S := by
  have get : ∀ j s, mem[j]? = some s → (mem ++ more)[j]? = some s := fun j s hj => by
    rw [List.getElem?_append_left (List.getElem?_eq_some_iff.1 hj).1]; exact hj
  have heq : ∀ j s, mem[j]? = some s → s ≠ .gone → env' j = env j := fun j s hj hg => by
    obtain ⟨v, hv⟩ := (h.ok j s (get j s hj)).some hg
    rcases hf j (List.getElem?_eq_some_iff.1 hj).1 with q | q
    · rw [hv] at q; cases q
    · exact q
  have hb : ∀ j s, mem[j]? = some s → s ≠ .gone → blk env' j = blk env j := fun j s hj hg => by
    simp only [blk]; rw [heq j s hj hg]
  have hle : ∀ j v, j < mem.length → env' j = some v → env j = some v := fun j v hj hv => by
    rcases hf j hj with e | e
    · rw [hv] at e; cases e
    · rw [← e]; exact hv
  refine ⟨fun j s hj => ?_, ht, fun j k s t b hj hk hne hx hl' hbj => ?_, fun j s b hj hx hbj => ?_, h.os, h.tape, h.output, h.grow, h.frame⟩
  · exact segOk_lt hle (List.getElem?_eq_some_iff.1 hj).1 (hl s (List.mem_of_getElem? hj)) (h.ok j s (get j s hj))
  · rw [← hb k t hk (live_ng hl')]
    exact h.sep j k s t b (get j s hj) (get k t hk) hne hx hl' (by rw [hb j s hj (excl_ng hx)]; exact hbj)
  · exact h.own j s b (get j s hj) hx (by rw [hb j s hj (excl_ng hx)]; exact hbj)
/-- No channel. -/
def Seg.still : Seg → Bool
  | .chan .. => false
  | _ => true
theorem segOk_cells {env : Env} {w : World} {c b : Nat} {s : Seg} (k : SegOk env w c s) (hl : s.live) (hs : s.still = true) (hb : blk env c = some b) : ∃ o, w.heap[b]? = some o ∧ o.isCells = true := by
  cases s with
  | box t cells =>
    obtain ⟨b', cs, h1, h2, h3⟩ := k
    simp [blk, h1, baseOf] at hb
    subst hb
    exact ⟨_, h2, rfl⟩
  | robox t cells =>
    obtain ⟨b', cs, h1, h2, h3⟩ := k
    simp [blk, h1, baseOf] at hb
    subst hb
    exact ⟨_, h2, rfl⟩
  | ro wd len g =>
    obtain ⟨ao, cap, cs, h1, h2, h3, h4, h5, h6⟩ := k
    have hl : 0 < len * wd := hl
    obtain ⟨a, rfl, hc⟩ := h6 0 (cs[0]'(by rw [h5.1]; exact hl)) (by simp)
    simp [blk, h1, baseOf] at hb
    subst hb
    have e : (a.add 0).block = a.block := by unfold Addr.add; split <;> rfl
    unfold World.cell? at hc
    rw [e] at hc
    cases q : w.heap[a.block]? with
    | none => rw [q] at hc; simp at hc
    | some o =>
      refine ⟨o, rfl, ?_⟩
      rw [q] at hc
      cases o <;> simp_all [Obj.isCells]
  | row e wd n g =>
    obtain ⟨v, cs, h1, h2, h3⟩ := k
    simp only [blk, h1, Option.bind_some] at hb
    rcases h2.2 with ⟨rfl, _⟩ | ⟨g', cap, cur, rfl, q1, q2, q3⟩
    · simp [baseOf] at hb
    · simp [baseOf] at hb
      subst hb
      exact ⟨_, q2, rfl⟩
  | chan cap buf cl => cases hs
  | gone => exact hl.elim
theorem still_mem {mem : List Seg} (h : mem.all Seg.still = true) {j : Nat} {s : Seg} (hj : mem[j]? = some s) : s.still = true := List.all_eq_true.1 h s (List.mem_of_getElem? hj)
theorem MemOk.turn {env : Env} {mem : List Seg} {w0 w w' : World} {S : Nat → Prop} {row : Option Nat} (h : MemOk env mem w0 w S) (hs : mem.all Seg.still = true) (hg : w.grownBy w' row)
    (hr : ∀ r, row = some r → w0.heap.size ≤ r ∧ ∃ o : Obj, w.heap[r]? = some o ∧ o.isCells = false) : MemOk env mem w0 w' S where
  ok := fun j s hj => (h.ok j s hj).heap (fun b hb hl hlt => hg.block b hlt (fun e => by
    obtain ⟨o, o1, o2⟩ := segOk_cells (h.ok j s hj) hl (still_mem hs hj) hb
    obtain ⟨_, o', o3, o4⟩ := hr b e.symm
    rw [o1] at o3; cases o3; rw [o2] at o4; cases o4))
  top := h.top
  sep := h.sep
  own := h.own
  os := hg.os.trans h.os
  tape := hg.tape.trans h.tape
  output := hg.output.trans h.output
  grow := Nat.le_trans h.grow hg.size
  frame := fun b hb hS => (hg.block b (Nat.lt_of_lt_of_le hb h.grow) (fun e => by have := (hr b e.symm).1; omega)).trans (h.frame b hb hS)
theorem ownS_cells {env : Env} {mem : List Seg} {w0 w : World} {S : Nat → Prop} (h : MemOk env mem w0 w S) (hs : mem.all Seg.still = true) {b : Nat} (hb : ownS env mem b) : ∃ o, w.heap[b]? = some o ∧ o.isCells = true := by
  obtain ⟨j, s, h1, h2, h3⟩ := hb
  exact segOk_cells (h.ok j s h1) (excl_live h2) (still_mem hs h1) h3
theorem cvals_eq {env : Env} : ∀ {vs us : List Value}, AllRel env (vs.map .val) us → us = vs
  | [], [], _ => rfl
  | v :: vs, u :: us, h => by
    obtain ⟨h1, h2⟩ := h
    rw [show u = v from h1, cvals_eq h2]
  | [], _ :: _, h => h.elim
  | _ :: _, [], h => h.elim
theorem cvals_rel {env : Env} : ∀ {vs : List Value}, AllRel env (vs.map .val) vs
  | [] => trivial
  | v :: vs => ⟨rfl, cvals_rel⟩
/-- A box that lies there gets a handle. -/
theorem MemOk.addBox {env : Env} {mem : List Seg} {w0 w : World} {S : Nat → Prop} (h : MemOk env mem w0 w S) {B : Nat} {T : TypeId} {vs : List Value} (hb : w.heap[B]? = some (.cells vs.toArray T (0, 0)))
    (hf : ∀ j b, blk env j = some b → b ≠ B) : MemOk (env.put mem.length (.pointer (some ⟨B, 0, none⟩))) (mem ++ [.box T (vs.map .val)]) w w (ownS (env.put mem.length (.pointer (some ⟨B, 0, none⟩))) (mem ++ [.box T (vs.map .val)])) := by
  have hnone := h.top mem.length (Nat.le_refl _)
  have hle : env.le (env.put mem.length (.pointer (some ⟨B, 0, none⟩))) := Env.le_put hnone
  have get : ∀ m t, (mem ++ [.box T (vs.map .val)])[m]? = some t → mem[m]? = some t ∧ m < mem.length ∨ (m = mem.length ∧ t = .box T (vs.map .val)) := by
    intro m t hm
    by_cases hlt : m < mem.length
    · rw [List.getElem?_append_left hlt] at hm; exact .inl ⟨hm, hlt⟩
    · have : m < (mem ++ [Seg.box T (vs.map .val)]).length := (List.getElem?_eq_some_iff.1 hm).1
      simp at this
      have e : m = mem.length := by omega
      subst e
      simp at hm
      exact .inr ⟨rfl, hm.symm⟩
  have hold : ∀ m, m < mem.length → blk (env.put mem.length (.pointer (some ⟨B, 0, none⟩))) m = blk env m := fun m hm => by
    simp only [blk, Env.put, if_neg (Nat.ne_of_lt hm)]
  have hnew : blk (env.put mem.length (.pointer (some ⟨B, 0, none⟩))) mem.length = some B := by simp [blk, Env.put, baseOf]
  refine ⟨fun m t hm => ?_, fun m hm => ?_, fun c d s t b hc hd hne hx hl hbc => ?_, fun c s b hc hx hbc => .inr ⟨c, s, hc, hx, hbc⟩, rfl, rfl, rfl, Nat.le_refl _, fun _ _ _ => rfl⟩
  · rcases get m t hm with ⟨q, _⟩ | ⟨rfl, rfl⟩
    · exact (h.ok m t q).le hle
    · exact ⟨B, vs.toArray, by simp [Env.put], hb, cvals_rel⟩
  · have : m ≠ mem.length := fun e => by subst e; simp at hm; omega
    simp only [Env.put, if_neg this]
    exact h.top m (by simp at hm; omega)
  · rcases get c s hc with ⟨q, ql⟩ | ⟨rfl, rfl⟩ <;> rcases get d t hd with ⟨q', ql'⟩ | ⟨rfl, rfl⟩
    · rw [hold c ql] at hbc
      rw [hold d ql']
      exact h.sep c d s t b q q' hne hx hl hbc
    · rw [hold c ql] at hbc
      rw [hnew]
      intro e
      exact hf c b hbc (Option.some.inj e).symm
    · rw [hnew] at hbc
      rw [hold d ql']
      intro e
      exact hf d b e (Option.some.inj hbc).symm
    · exact (hne rfl).elim
def Ex.code : Ex → Code
  | .normal => .skip
  | .exit id => .exit id
  | .ret => .ret
/-- The statement, by what its rounds leave in memory (M: behind what has come); X: how a round may leave it. -/
theorem rf_wp {P : Program} {n : Nat} {α : Type} {g : Operand} {p : Tmp} {assign body : Code} {Q : Exit → Act → World → Prop} {cx : Cx} {env : Env} {tm : List SV} {mem0 : List Seg} {a : Act} {w : World}
    (hk : Ok cx env ⟨tm, mem0⟩ a w) (h1 : 1 ≤ n) {gf : Nat} {lb : Array Value} (hg : a.eval g = .func (.func gf) #[] lb) (eg : ∀ args w, (callFunc gf args).run P w = .ok (.enter gf args) w)
    {enc : α → Value} {xs : α → SV} (hxs : ∀ x env, (xs x).rel env (enc x))
    {Kp : World → World → Prop} {S Sp : List α → Prop} {N : Nat} (hseq : SeqStopsK (Fw none) (n - 1) P gf lb (fun x => #[enc x]) Kp S Sp N w)
    (hKt : ∀ {A B C : World}, Kp A B → Kp B C → Kp A C) (hKb : ∀ (W : World) (l : Nat) (o o' : Obj), w.heap.size ≤ l → W.heap[l]? = some o → o.isCells = false → o.isWalk = false → Kp W (W.putObj l o'))
    (M : List α → List Seg) (hM0 : M [] = mem0) (hMl : ∀ l, (M l).length = mem0.length) (hMs : ∀ l, (M l).all Seg.still = true) (hMt : ∀ l s, s ∈ M l → s.lt (M l).length) (hlive : ∀ (j : Nat) s, mem0[j]? = some s → s.live)
    (G : List α → Prop) (hG0 : G []) (hKM : ∀ W W' l, MemOk env (M l) cx.w0 W' cx.S → Kp W W')
    {T : TypeId} {cB : α → List Value} {tB : α → List SV}
    (has : ∀ pre x, CodeOkL P mem0.length assign ⟨tm.set p (xs x), M pre⟩ .normal ⟨tB x, M pre ++ [.box T ((cB x).map .val)]⟩)
    (X : Ex → List α → List Seg → Prop) (hXs : ∀ e l m', X e l m' → m'.length = mem0.length ∧ m'.all Seg.still = true ∧ ∀ s, s ∈ m' → s.lt m'.length) {tE : List SV}
    (hbo : ∀ pre x, pre.length < N → G pre → (G (pre ++ [x]) ∧ CodeOkL P mem0.length body ⟨tB x, M pre ++ [.box T ((cB x).map .val)]⟩ .normal ⟨tE, M (pre ++ [x])⟩) ∨
      ∃ e m', e ≠ .normal ∧ X e (pre ++ [x]) m' ∧ CodeOkL P mem0.length body ⟨tB x, M pre ++ [.box T ((cB x).map .val)]⟩ e ⟨tE, m'⟩)
    (hdone : ∀ D xs W, w.heap.size ≤ D → S xs → G xs → Ok cx env ⟨tm, M xs⟩ a W → W.heap[D]? = some (.deferred (some [])) → Q .normal { a with defers := { target := .collected D, args := #[] } :: a.defers } W)
    (hstop : ∀ D e pre m' W, w.heap.size ≤ D → Sp pre → X e pre m' → Ok cx env ⟨tm, m'⟩ a W → W.heap[D]? = some (.deferred (some [])) → Q e.to { a with defers := { target := .collected D, args := #[] } :: a.defers } W) :
    (Code.rangeFunc g #[p] assign body).wpIn (Fw none) n P Q a w := by
  have htop : ∀ j, mem0.length ≤ j → env j = none := hk.mem.top
  have hblk : ∀ j b, blk env j = some b → b < w.heap.size := fun j b hb => by
    rcases Nat.lt_or_ge j mem0.length with q | q
    · exact (hk.mem.ok j mem0[j] (List.getElem?_eq_getElem q)).lt (hlive j _ (List.getElem?_eq_getElem q)) hb
    · simp [blk, htop j q] at hb
  have hw0 : cx.w0.heap.size ≤ w.heap.size := hk.mem.grow
  have okAt : ∀ l W, l.length = mem0.length → MemOk env l cx.w0 W cx.S → Ok cx env ⟨tm, l⟩ a W := fun l W hl hm => ⟨hk.defers, hk.tm, hm, by have := hk.long; simp only at this ⊢; omega, hk.fix⟩
  have hturn : ∀ {l : List Seg}, l.all Seg.still = true → ∀ {W W' : World} {row : Option Nat}, MemOk env l cx.w0 W cx.S → W.grownBy W' row → (∀ r, row = some r → w.heap.size ≤ r ∧ ∃ o : Obj, W.heap[r]? = some o ∧ o.isCells = false) → MemOk env l cx.w0 W' cx.S := by
    intro l hs W W' row hm hgr hr
    exact MemOk.turn hm hs hgr (fun r e => ⟨by have := (hr r e).1; omega, (hr r e).2⟩)
  refine wpIn_rangeFunc_ownH (F := Fw none) rfl h1 hg trivial eg hseq (fun h k => hKt h k) hKb (Below.refl _ _) (fun _ => rfl)
    (I := fun pre W => w.heap.size ≤ W.heap.size ∧ MemOk env (M pre) cx.w0 W cx.S ∧ G pre)
    (Ix := fun c pre W => ∃ e m', c = e.code ∧ X e pre m' ∧ MemOk env m' cx.w0 W cx.S)
    (hI := fun pre W W' row hs hgr hr => ⟨Nat.le_trans hs.1 hgr.size, hturn (hMs pre) hs.2.1 hgr hr, hs.2.2⟩)
    (hIx := by rintro c pre W W' row ⟨e, m', q1, q2, q3⟩ hgr hr; exact ⟨e, m', q1, q2, hturn (hXs _ _ _ q2).2.1 q3 hgr hr⟩)
    (h0 := ⟨Nat.le_refl _, by rw [hM0]; exact hk.mem, hG0⟩)
    (Ax := fun x a' W => a'.defers = [] ∧ ∃ Bx, w.heap.size ≤ Bx ∧ W.heap[Bx]? = some (.cells (cB x).toArray T (0, 0)) ∧ AllSV (env.put mem0.length (.pointer (some ⟨Bx, 0, none⟩))) (tB x) a'.tmps.toList)
    (hAx := by rintro x a' _ W W' row ⟨q1, Bx, q2, q3, q4⟩ hgr hr; exact ⟨q1, Bx, q2, (hgr.block Bx (Array.getElem?_eq_some_iff.1 q3).1 (fun e => by obtain ⟨_, o, ho, hc⟩ := hr Bx e.symm; rw [q3] at ho; cases ho; cases hc)).trans q3, q4⟩)
    ?_ ?_ ?_ ?_
  · -- THE LOOP VARIABLE IS LAID
    intro l pre x W K hI hK
    have hk1 : Ok ⟨W, ownS env (M pre), mem0.length, env⟩ env ⟨tm.set p (xs x), M pre⟩ { tmps := ((#[p] : Array Tmp).zip #[enc x]).foldl (fun t (p, v) => t.setIfInBounds p v) a.tmps, defers := [] } W := by
      refine ⟨rfl, ?_, hI.2.1.narrow, by simp only [hMl]; exact Nat.le_refl _, fun _ _ => .inr rfl⟩
      have e : (((#[p] : Array Tmp).zip #[enc x]).foldl (fun t (p, v) => t.setIfInBounds p v) a.tmps).toList = a.tmps.toList.set p (enc x) := by
        simp
      show AllSV env (tm.set p (xs x)) (((#[p] : Array Tmp).zip #[enc x]).foldl (fun t (p, v) => t.setIfInBounds p v) a.tmps).toList
      rw [e]
      exact AllSV.set p hk.tm (hxs x env)
    refine wpIn_mono (has pre x (some l) [] (n - 1 - 1) _ env _ W rfl hk1) ?_
    rintro e a' W' ⟨hd, rfl, env', hk'⟩
    have hfix : ∀ j, j < (M pre).length → env' j = none ∨ env' j = env j := fun j hj => hk'.fix j (by rw [hMl] at hj; exact hj)
    have hmb : MemOk env' (M pre ++ [.box T ((cB x).map .val)]) W W' (ownS env (M pre)) := hk'.mem
    obtain ⟨Bx, cs, e1, e2, e3⟩ := hmb.ok mem0.length (.box T ((cB x).map .val)) (by rw [List.getElem?_append_right (by rw [hMl]; exact Nat.le_refl _), hMl, Nat.sub_self]; rfl)
    have hcs := cvals_eq e3
    have hbx : blk env' mem0.length = some Bx := by simp [blk, e1, baseOf]
    have hnew : W.heap.size ≤ Bx := by
      rcases hmb.own mem0.length _ Bx (by rw [List.getElem?_append_right (by rw [hMl]; exact Nat.le_refl _), hMl, Nat.sub_self]; rfl) rfl hbx with q | ⟨j, s, j1, j2, j3⟩
      · exact q
      · exfalso
        have hj := (List.getElem?_eq_some_iff.1 j1).1
        have j1' : (M pre ++ [.box T ((cB x).map .val)])[j]? = some s := by rw [List.getElem?_append_left hj]; exact j1
        obtain ⟨u, hu⟩ := (hmb.ok j s j1').some (excl_ng j2)
        have hbj : blk env' j = some Bx := by
          rcases hfix j hj with q | q
          · rw [hu] at q; cases q
          · simp only [blk] at j3 ⊢; rw [q]; exact j3
        exact hmb.sep j mem0.length s (.box T ((cB x).map .val)) Bx j1' (by rw [List.getElem?_append_right (by rw [hMl]; exact Nat.le_refl _), hMl, Nat.sub_self]; rfl) (by rw [hMl] at hj; omega) j2 trivial hbj hbx
    have hm' : MemOk env (M pre) W W' (ownS env (M pre)) := MemOk.refix hmb hfix (fun j hj => htop j (by rw [hMl] at hj; exact hj)) (hMt pre)
    have hj' : MemOk env (M pre) cx.w0 W' cx.S := hI.2.1.join hm' (fun b hb => .inl hb)
    refine hK a' W' ⟨hmb.grow, fun k o hB hko ho => ?_⟩ (hKM W W' pre hj') ⟨Nat.le_trans hI.1 hmb.grow, hj', hI.2.2⟩ ⟨hd, Bx, Nat.le_trans hI.1 hnew, ?_, ?_⟩
    · refine (hmb.frame k (Array.getElem?_eq_some_iff.1 hko).1 (fun q => ?_)).trans hko
      obtain ⟨o', q1, q2⟩ := ownS_cells hI.2.1 (hMs pre) q
      rw [hko] at q1; cases q1; rw [ho] at q2; cases q2
    · rw [← hcs]; simpa using e2
    · refine AllSV.le ?_ hk'.tm
      intro j v hv
      by_cases q : j = mem0.length
      · subst q; rw [e1] at hv; simpa [Env.put] using hv
      · simp only [Env.put, if_neg q]
        rcases Nat.lt_or_ge j mem0.length with q' | q'
        · rcases hfix j (by rw [hMl]; exact q') with q2 | q2
          · rw [hv] at q2; cases q2
          · rw [← q2]; exact hv
        · have := hmb.top j (by simp [hMl]; omega)
          rw [hv] at this; cases this
  · -- A ROUND
    intro l pre x a' W hl hr hI hA hlen
    obtain ⟨hd0, Bx, hB, hbx, htm⟩ := hA
    have hadd := hI.2.1.addBox hbx (fun j b hb => by have := hblk j b hb; omega)
    have hML := hMl pre
    rw [hML] at hadd
    have hk1 : Ok ⟨W, ownS (env.put mem0.length (.pointer (some ⟨Bx, 0, none⟩))) (M pre ++ [.box T ((cB x).map .val)]), mem0.length, env.put mem0.length (.pointer (some ⟨Bx, 0, none⟩))⟩ (env.put mem0.length (.pointer (some ⟨Bx, 0, none⟩))) ⟨tB x, M pre ++ [.box T ((cB x).map .val)]⟩ a' W :=
      ⟨hd0, htm, hadd, by simp [hML], fun _ _ => .inr rfl⟩
    have hst : (M pre ++ [Seg.box T ((cB x).map .val)]).all Seg.still = true := by rw [List.all_append, hMs]; rfl
    have hS : ∀ b, ownS (env.put mem0.length (.pointer (some ⟨Bx, 0, none⟩))) (M pre ++ [.box T ((cB x).map .val)]) b → ownS env (M pre) b ∨ cx.w0.heap.size ≤ b := by
      rintro b ⟨j, s, j1, j2, j3⟩
      by_cases hj : j < mem0.length
      · rw [List.getElem?_append_left (by omega)] at j1
        exact .inl ⟨j, s, j1, j2, by simpa only [blk, Env.put, if_neg (Nat.ne_of_lt hj)] using j3⟩
      · have hj2 := (List.getElem?_eq_some_iff.1 j1).1
        have : j = mem0.length := by simp [hML] at hj2; omega
        subst this
        have : b = Bx := by simp [blk, Env.put, baseOf] at j3; exact j3.symm
        exact .inr (by omega)
    have after : ∀ (m' : List Seg) (env'' : Env) (a'' : Act) (W'' : World), m'.length = mem0.length → (∀ s, s ∈ m' → s.lt m'.length) → Ok ⟨W, ownS (env.put mem0.length (.pointer (some ⟨Bx, 0, none⟩))) (M pre ++ [.box T ((cB x).map .val)]), mem0.length, env.put mem0.length (.pointer (some ⟨Bx, 0, none⟩))⟩ env'' ⟨tE, m'⟩ a'' W'' →
        KeepsFrom w.heap.size W W'' ∧ w.heap.size ≤ W''.heap.size ∧ MemOk env m' cx.w0 W'' cx.S := by
      intro m' env'' a'' W'' hl' ht' hk''
      have hmb := hk''.mem
      refine ⟨⟨hmb.grow, fun k o hB hko ho => (hmb.frame k (Array.getElem?_eq_some_iff.1 hko).1 (fun q => ?_)).trans hko⟩, Nat.le_trans hI.1 hmb.grow, ?_⟩
      · obtain ⟨o', q1, q2⟩ := ownS_cells hadd hst q
        rw [hko] at q1; cases q1; rw [ho] at q2; cases q2
      · have h2 : MemOk env m' W W'' _ := MemOk.refix (more := []) (by rw [List.append_nil]; exact hmb) (fun j hj => by
          have := hk''.fix j (by rw [hl'] at hj; exact hj)
          simpa only [Env.put, if_neg (show j ≠ mem0.length by omega)] using this) (fun j hj => htop j (by omega)) ht'
        exact hI.2.1.join h2 hS
    have e0 : ({ a' with defers := [] } : Act) = a' := by cases a'; simp only at hd0; subst hd0; rfl
    rcases hbo pre x hlen hI.2.2 with ⟨hg, hc⟩ | ⟨e, m', hne, hX, hc⟩
    · have := hc (some l) [] (n - 1 - 1) _ _ a' W rfl hk1
      rw [e0] at this
      refine wpIn_mono this ?_
      rintro e a'' W'' ⟨_, rfl, env'', hk''⟩
      obtain ⟨q1, q2, q3⟩ := after _ _ _ _ (hMl _) (hMt _) hk''
      exact ⟨q1, hKM _ _ _ q3, q2, q3, hg⟩
    · have := hc (some l) [] (n - 1 - 1) _ _ a' W rfl hk1
      rw [e0] at this
      refine wpIn_mono this ?_
      rintro e' a'' W'' ⟨_, rfl, env'', hk''⟩
      obtain ⟨x1, x2, x3⟩ := hXs _ _ _ hX
      obtain ⟨q1, q2, q3⟩ := after _ _ _ _ x1 x3 hk''
      cases e with
      | normal => exact (hne rfl).elim
      | exit id => exact ⟨q1, .exit id, m', rfl, hX, q3⟩
      | ret => exact ⟨q1, .ret, m', rfl, hX, q3⟩
  · intro D xs' W hD hS hI hKD
    exact hdone D xs' W hD hS hI.2.2 (okAt _ W (hMl _) hI.2.1) hKD
  · rintro D c pre W hD hSp ⟨e, m', rfl, hX, hm⟩ hKD
    have := hstop D e pre m' W hD hSp hX (okAt _ W (hXs _ _ _ hX).1 hm) hKD
    cases e with
    | normal => exact wpIn_skip this
    | exit id => exact wpIn_exit this
    | ret => exact wpIn_ret this
theorem with_self {a : Act} {d : List Deferred} (h : a.defers = d) : ({ a with defers := d } : Act) = a := by cases a; simp only at h; subst h; rfl
/-- A piece of code, then the rest. -/
theorem pre_ok {P : Program} {n : Nat} {c rest : Code} {Q : Exit → Act → World → Prop} {cx : Cx} {env : Env} {st post : St} {a : Act} {w : World} (hc : CodeOkL P cx.m0 c st .normal post) (hk : Ok cx env st a w)
    (next : ∀ env' a' w', Ok cx env' post a' w' → rest.wpIn (Fw none) n P Q a' w') : (Code.seq c rest).wpIn (Fw none) n P Q a w := by
  have := hc none [] n cx env a w rfl hk
  rw [with_self hk.defers] at this
  refine wpIn_seq (wpIn_mono this ?_)
  rintro e a' w' ⟨hd, rfl, env', hk'⟩
  rw [with_self hd] at hk'
  exact next env' a' w' hk'
/-- Code behind a range over a function: the block for deferred calls stays. -/
theorem tail_ok {P : Program} {n : Nat} {c : Code} {e : Ex} {cx : Cx} {env : Env} {tm : List SV} {memX : List Seg} {post : St} {a : Act} {w : World} {ds : List Deferred} {D : Nat} (hc : CodeOkL P cx.m0 c ⟨tm, memX⟩ e post) (hk : Ok cx env ⟨tm, memX⟩ a w) (hs : memX.all Seg.still = true)
    (hD : w.heap[D]? = some (.deferred (some []))) : c.wpIn (Fw none) n P (fun e' a' w' => a'.defers = ds ∧ e' = e.to ∧ w'.heap[D]? = some (.deferred (some [])) ∧ ∃ env2, Ok cx env2 post { a' with defers := [] } w') { a with defers := ds } w := by
  have hk1 : Ok ⟨w, ownS env memX, cx.m0, env⟩ env ⟨tm, memX⟩ a w := ⟨hk.defers, hk.tm, hk.mem.narrow, hk.long, fun _ _ => .inr rfl⟩
  refine wpIn_mono (hc none ds n ⟨w, ownS env memX, cx.m0, env⟩ env a w rfl hk1) ?_
  rintro e' a' w' ⟨hd, rfl, env2, hk2⟩
  refine ⟨hd, rfl, (hk2.mem.frame D (Array.getElem?_eq_some_iff.1 hD).1 (fun q => ?_)).trans hD, env2, hk2.defers, hk2.tm, hk.mem.join hk2.mem (fun b hb => .inl hb), hk2.long, fun h hh => ?_⟩
  · obtain ⟨o, q1, q2⟩ := ownS_cells hk.mem hs q
    rw [hD] at q1; cases q1; cases q2
  · rcases hk2.fix h hh with q | q
    · exact .inl q
    · rcases hk.fix h hh with q' | q'
      · exact .inl (q.trans q')
      · exact .inr (q.trans q')
/-- A function's end, behind such a loop. -/
theorem rf_end {P : Program} {n : Nat} {fn : Func} {env env2 : Env} {mem : List Seg} {w0 : World} {S : Nat → Prop} {st : St} {r : SV} {o : List Prop} {a : Act} {w : World} {D : Nat} {tg : Bool} (hres : evResults P st fn.results.toList = some (r, o)) (ho : AllT o) (htop : ∀ h, mem.length ≤ h → env h = none)
    (hs : st.mem.all Seg.still = true) (hk : Ok ⟨w0, S, mem.length, env⟩ env2 st { a with defers := [] } w) (hD : w.heap[D]? = some (.deferred (some []))) (hw : w0.heap.size ≤ D) (hd : a.defers = [{ target := .collected D, args := #[] }]) :
    LeavesInM (Fw none) n P fn a.tmps (fun e w' => ∃ v env', e = .returned v ∧ env.le env' ∧ (∀ h, h < mem.length → env' h = env h) ∧ mem.length ≤ st.mem.length ∧ r.rel env' v ∧ MemOk env' st.mem w0 w' S) a.defers .returning w := by
  rw [hd]
  refine ⟨by simp, .inl ⟨D, _, rfl, run_takeDeferred hD, ?_⟩⟩
  have hm : MemOk env2 st.mem w0 (w.putObj D (.deferred none)) S := hk.mem.turn hs (grownBy_putObj' w D _) (fun r e => by cases e; exact ⟨hw, _, hD, rfl⟩)
  have hk2 : Ok ⟨w0, S, mem.length, env⟩ env2 st { a with defers := [] } (w.putObj D (.deferred none)) := ⟨rfl, hk.tm, hm, hk.long, hk.fix⟩
  obtain ⟨v, h1, u, env'', h2 | ⟨h, h3, h4⟩⟩ := fn_end (f := 0) hres ho hk2
  · exact ⟨v, h1, u, env'', h2⟩
  · exact (h4 (htop h h3)).elim
/-- The same, with less told of what is left. -/
theorem rf_end2 {P : Program} {n : Nat} {fn : Func} {env env2 : Env} {mem mem' : List Seg} {w0 : World} {S : Nat → Prop} {st : St} {r1 r : SV} {o : List Prop} {a : Act} {w : World} {D : Nat} (hres : evResults P st fn.results.toList = some (r1, o)) (ho : AllT o) (htop : ∀ h, mem.length ≤ h → env h = none)
    (hs : st.mem.all Seg.still = true) (hk : Ok ⟨w0, S, mem.length, env⟩ env2 st { a with defers := [] } w) (hD : w.heap[D]? = some (.deferred (some []))) (hw : w0.heap.size ≤ D) (hd : a.defers = [{ target := .collected D, args := #[] }])
    (hle : AllT (leSt mem.length ⟨[r1], st.mem⟩ ⟨[r], mem'⟩)) (hlen : mem.length ≤ mem'.length) :
    LeavesInM (Fw none) n P fn a.tmps (fun e w' => ∃ v env', e = .returned v ∧ env.le env' ∧ (∀ h, h < mem.length → env' h = env h) ∧ mem.length ≤ mem'.length ∧ r.rel env' v ∧ MemOk env' mem' w0 w' S) a.defers .returning w := by
  rw [hd]
  refine ⟨by simp, .inl ⟨D, _, rfl, run_takeDeferred hD, ?_⟩⟩
  have hm : MemOk env2 st.mem w0 (w.putObj D (.deferred none)) S := hk.mem.turn hs (grownBy_putObj' w D _) (fun r e => by cases e; exact ⟨hw, _, hD, rfl⟩)
  have hk2 : Ok ⟨w0, S, mem.length, env⟩ env2 st { a with defers := [] } (w.putObj D (.deferred none)) := ⟨rfl, hk.tm, hm, hk.long, hk.fix⟩
  obtain ⟨v, h1, u, env'', h2 | ⟨h, h3, h4⟩⟩ := fn_end (f := 0) hres ho hk2
  · obtain ⟨he, q1, q2, q3, q4, q5⟩ := h2
    have hk3 : Ok ⟨w0, S, mem.length, env''⟩ env'' ⟨[r1], st.mem⟩ { tmps := #[u], defers := [] } (w.putObj D (.deferred none)) := ⟨rfl, ⟨q4, trivial⟩, q5, q3, fun _ _ => .inr rfl⟩
    have hk4 := leSt_sound (cx := ⟨w0, S, mem.length, env''⟩) (y := ⟨[r], mem'⟩) hle hlen hk3
    have hfix := leSt_fix (y := ⟨[r], mem'⟩) hle hlen env''
    refine ⟨v, h1, u, _, he, ?_, fun c hc => (hfix c hc).trans (q2 c hc), hlen, hk4.tm.1, hk4.mem⟩
    intro c x hx
    have hc : c < mem.length := by
      rcases Nat.lt_or_ge c mem.length with q | q
      · exact q
      · rw [htop c q] at hx; cases hx
    rw [hfix c hc, q2 c hc]
    exact hx
  · exact (h4 (htop h h3)).elim
/-- Code of an iterator that only reads: one environment throughout. -/
def roMem (mem : List Seg) : Bool := mem.all fun s => match s with
  | .ro .. | .robox .. => true
  | _ => false
theorem roMem_spec {mem : List Seg} (h : roMem mem = true) {j : Nat} {s : Seg} (hj : mem[j]? = some s) : s.excl = false ∧ s ≠ .gone := by
  have := List.all_eq_true.1 h s (List.mem_of_getElem? hj)
  cases s <;> simp_all [Seg.excl]
theorem env_same {env env' : Env} {mem : List Seg} {w0 w : World} {S : Nat → Prop} (hr : roMem mem = true) (h : MemOk env' mem w0 w S) (hf : ∀ j, j < mem.length → env' j = none ∨ env' j = env j) (ht : ∀ j, mem.length ≤ j → env j = none) : env' = env := by
  funext j
  rcases Nat.lt_or_ge j mem.length with q | q
  · obtain ⟨v, hv⟩ := (h.ok j _ (List.getElem?_eq_getElem q)).some (roMem_spec hr (List.getElem?_eq_getElem q)).2
    rcases hf j q with q' | q'
    · rw [hv] at q'; cases q'
    · exact q'
  · rw [h.top j q, ht j q]
/-- An iterator's state. -/
def ItOk (env : Env) (mem : List Seg) (w : World) : Prop := ∀ (j : Nat) s, mem[j]? = some s → SegOk env w j s
def ItAt (env : Env) (tm : List SV) (mem : List Seg) (a : Act) (w : World) : Prop := Ok ⟨w, NoS, mem.length, env⟩ env ⟨tm, mem⟩ a w
theorem itAt {env : Env} {tm : List SV} {mem : List Seg} {a : Act} {w : World} (hr : roMem mem = true) (ht : ∀ j, mem.length ≤ j → env j = none) (hd : a.defers = []) (htm : AllSV env tm a.tmps.toList) (h : ItOk env mem w) : ItAt env tm mem a w :=
  ⟨hd, htm, ros_ok (fun j s hj => ⟨h j s hj, (roMem_spec hr hj).1⟩) ht, Nat.le_refl _, fun _ _ => .inr rfl⟩
theorem ItAt.of {env env' : Env} {tm tm' : List SV} {mem : List Seg} {a' : Act} {w w' : World} (hr : roMem mem = true) (ht : ∀ j, mem.length ≤ j → env j = none) (hk : Ok ⟨w, NoS, mem.length, env⟩ env' ⟨tm', mem⟩ a' w') : Ext w w' ∧ ItAt env tm' mem a' w' := by
  have e := env_same hr hk.mem hk.fix ht
  subst e
  exact ⟨hk.mem.ext, itAt hr ht hk.defers hk.tm hk.mem.ok⟩
theorem it_step {P : Program} {n : Nat} {c : Code} {e : Ex} {env : Env} {tm tm' : List SV} {mem : List Seg} {a : Act} {w : World} (hr : roMem mem = true) (ht : ∀ j, mem.length ≤ j → env j = none) (hc : CodeOkL P mem.length c ⟨tm, mem⟩ e ⟨tm', mem⟩) (hk : ItAt env tm mem a w) :
    c.wpIn (Fw none) n P (fun e' a' w' => e' = e.to ∧ Ext w w' ∧ ItAt env tm' mem a' w') a w := by
  have := hc none [] n _ env a w rfl hk
  rw [with_self hk.defers] at this
  refine wpIn_mono this ?_
  rintro e' a' w' ⟨hd, rfl, env', hk'⟩
  rw [with_self hd] at hk'
  exact ⟨rfl, ItAt.of (tm := tm) hr ht hk'⟩
theorem it_seq {P : Program} {n : Nat} {c rest : Code} {Q : Exit → Act → World → Prop} {env : Env} {tm tm' : List SV} {mem : List Seg} {a : Act} {w : World} (hr : roMem mem = true) (ht : ∀ j, mem.length ≤ j → env j = none) (hc : CodeOkL P mem.length c ⟨tm, mem⟩ .normal ⟨tm', mem⟩) (hk : ItAt env tm mem a w)
    (next : ∀ a' w', Ext w w' → ItAt env tm' mem a' w' → rest.wpIn (Fw none) n P Q a' w') : (Code.seq c rest).wpIn (Fw none) n P Q a w := by
  refine wpIn_seq (wpIn_mono (it_step hr ht hc hk) ?_)
  rintro e a' w' ⟨rfl, h1, h2⟩
  exact next a' w' h1 h2
theorem it_seqX {P : Program} {n : Nat} {c rest : Code} {Q : Exit → Act → World → Prop} {e : Ex} (he : e ≠ .normal) {env : Env} {tm tm' : List SV} {mem : List Seg} {a : Act} {w : World} (hr : roMem mem = true) (ht : ∀ j, mem.length ≤ j → env j = none) (hc : CodeOkL P mem.length c ⟨tm, mem⟩ e ⟨tm', mem⟩) (hk : ItAt env tm mem a w)
    (next : ∀ a' w', Ext w w' → ItAt env tm' mem a' w' → Q e.to a' w') : (Code.seq c rest).wpIn (Fw none) n P Q a w := by
  refine wpIn_seq (wpIn_mono (it_step hr ht hc hk) ?_)
  rintro e' a' w' ⟨rfl, h1, h2⟩
  have := next a' w' h1 h2
  cases e with
  | normal => exact (he rfl).elim
  | exit id => exact this
  | ret => exact this
theorem ext_grown {w w' : World} (h : Ext w w') : w.grownBy w' none := ⟨h.os, h.tape, h.output, h.size, fun k hk _ => h.block k hk⟩
theorem abides_ext {β : Type} {B : Nat} {J : β → World → Prop} (hJ : AbidesFrom B J) {x : β} {w w' : World} (h : J x w) (he : Ext w w') : J x w' := hJ x w w' none h (ext_grown he) (fun r e => by cases e)
theorem op_not {P : Program} {o : Oper} {t : TypeId} {s : Tmp} (hop : o.op = .unOp .not t (.tmp s)) {a : Act} {w : World} {m : Nat} {b : Bool} (hs : a.eval (.tmp s) = .bool b) {K : Act → World → Prop} {Q : Exit → Act → World → Prop} (hK : K (a.put o.dst (.bool !b)) w) : o.wpIn (Fw none) m P a w K Q := by
  refine ⟨fun _ _ => trivial, ?_⟩
  have e : (Oper.semAt (Fw none).round a.eval o).run P w = .ok (.value (.bool !b)) w := by
    rw [show (Fw none).round = none from rfl, Oper.semAt_none]
    unfold execOp
    rw [hop]
    simp only [hs]
    simp [Op.unary, Sem.run, go_sem, Result.andThen]
  rw [e, Oper.uponIn_value]
  exact hK
end E
end Go.Proofs.Ytoincoicgfnbiaa

/- A symbolic run of Go code: what the parts of a state say of a frame and of a world. No condition. -/
import Derived.Test.YtlmeemilikladaaB0
import Derived.ProofKit
namespace Go.Proofs.Ytlmeemilikladaa
set_option linter.unusedVariables false
set_option linter.unusedSimpArgs false
namespace E
open Go.RowKit

/-- One cell's content: a plain value; an address in a block (h: the block's handle); an address in a row of elements; a slice that a handle names; anything. -/
inductive At where
  | val (v : Value)
  | ptr (h j : Nat)
  | eptr (h wd i j : Nat)
  | own (h : Nat)
  | bit (b : Bool)
  | any
inductive NV where
  | one (a : At)
  | agg (l : List At)
inductive SV where
  | nv (x : NV)
  | tup (l : List NV)
  | any

abbrev Env := Nat → Option Value
def Env.le (e e' : Env) : Prop := ∀ h v, e h = some v → e' h = some v
def Env.put (e : Env) (h : Nat) (v : Value) : Env := fun k => if k = h then some v else e k

def baseOf : Value → Option Addr
  | .pointer a => a
  | .slice a _ _ => a
  | _ => none
def blk (env : Env) (h : Nat) : Option Nat := (env h).bind fun v => (baseOf v).map (·.block)

def At.rel (env : Env) : At → Value → Prop
  | .val v, x => x = v
  | .ptr h j, x => ∃ v a, env h = some v ∧ baseOf v = some a ∧ x = .pointer (some (a.add j))
  | .eptr h wd i j, x => ∃ v a, env h = some v ∧ baseOf v = some a ∧ x = .pointer (some (a.add (i * wd + j)))
  | .own h, x => env h = some x ∧ ∃ ao n c, x = .slice ao n c
  | .bit b, x => x = .bool b
  | .any, _ => True

def AllRel (env : Env) : List At → List Value → Prop
  | [], [] => True
  | a :: l, v :: vs => a.rel env v ∧ AllRel env l vs
  | _, _ => False

def NV.rel (env : Env) : NV → Value → Prop
  | .one a, x => a.rel env x
  | .agg l, x => ∃ cs : Array Value, x = .agg cs ∧ AllRel env l cs.toList

def AllNV (env : Env) : List NV → List Value → Prop
  | [], [] => True
  | a :: l, v :: vs => a.rel env v ∧ AllNV env l vs
  | _, _ => False

def SV.rel (env : Env) : SV → Value → Prop
  | .nv x, v => x.rel env v
  | .tup l, v => ∃ vs : Array Value, v = .tuple vs ∧ AllNV env l vs.toList
  | .any, _ => True

def AllSV (env : Env) : List SV → List Value → Prop
  | [], [] => True
  | a :: l, v :: vs => a.rel env v ∧ AllSV env l vs
  | _, _ => False

def AllT : List Prop → Prop
  | [] => True
  | p :: l => p ∧ AllT l
theorem AllT.append {l m : List Prop} : AllT (l ++ m) ↔ AllT l ∧ AllT m := by
  induction l with
  | nil => simp [AllT]
  | cons p l ih => simp [AllT, ih, and_assoc]

section rel
variable {env env' : Env}

theorem At.rel_le (h : env.le env') {a : At} {v : Value} (k : a.rel env v) : a.rel env' v := by
  cases a with
  | val u => exact k
  | ptr m j => obtain ⟨u, a, h1, h2, h3⟩ := k; exact ⟨u, a, h _ _ h1, h2, h3⟩
  | eptr m wd i j => obtain ⟨u, a, h1, h2, h3⟩ := k; exact ⟨u, a, h _ _ h1, h2, h3⟩
  | own m => exact ⟨h _ _ k.1, k.2⟩
  | bit b => exact k
  | any => trivial
theorem AllRel.le (h : env.le env') : ∀ {l : List At} {vs : List Value}, AllRel env l vs → AllRel env' l vs
  | [], [], _ => trivial
  | a :: l, v :: vs, k => ⟨At.rel_le h k.1, AllRel.le h k.2⟩
theorem NV.rel_le (h : env.le env') {x : NV} {v : Value} (k : x.rel env v) : x.rel env' v := by
  cases x with
  | one a => exact At.rel_le h k
  | agg l => obtain ⟨cs, h1, h2⟩ := k; exact ⟨cs, h1, h2.le h⟩
theorem AllNV.le (h : env.le env') : ∀ {l : List NV} {vs : List Value}, AllNV env l vs → AllNV env' l vs
  | [], [], _ => trivial
  | a :: l, v :: vs, k => ⟨NV.rel_le h k.1, AllNV.le h k.2⟩
theorem SV.rel_le (h : env.le env') {x : SV} {v : Value} (k : x.rel env v) : x.rel env' v := by
  cases x with
  | nv x => exact NV.rel_le h k
  | tup l => obtain ⟨cs, h1, h2⟩ := k; exact ⟨cs, h1, h2.le h⟩
  | any => trivial
theorem Env.le_refl (e : Env) : e.le e := fun _ _ h => h
theorem Env.le_trans {a b c : Env} (h : a.le b) (k : b.le c) : a.le c := fun x v hx => k x v (h x v hx)
theorem Env.le_put {h : Nat} {v : Value} (hn : env h = none) : env.le (env.put h v) := by
  intro k u hk
  unfold Env.put
  split
  · subst_vars; rw [hn] at hk; cases hk
  · exact hk
theorem Env.put_same (h : Nat) (v : Value) : env.put h v h = some v := by simp [Env.put]
theorem Env.put_other {h k : Nat} (v : Value) (hk : k ≠ h) : env.put h v k = env k := by simp [Env.put, hk]

theorem AllRel.length : ∀ {l : List At} {vs : List Value}, AllRel env l vs → l.length = vs.length
  | [], [], _ => rfl
  | a :: l, v :: vs, k => by simp [AllRel.length k.2]
theorem AllRel.get : ∀ {l : List At} {vs : List Value} {i : Nat} {a : At}, AllRel env l vs → l[i]? = some a → ∃ v, vs[i]? = some v ∧ a.rel env v
  | a :: l, v :: vs, 0, b, k, h => by
    simp at h; subst h; exact ⟨v, by simp, k.1⟩
  | a :: l, v :: vs, i + 1, b, k, h => by
    simp at h; obtain ⟨u, h1, h2⟩ := AllRel.get k.2 h; exact ⟨u, by simpa using h1, h2⟩
theorem AllRel.drop : ∀ {l : List At} {vs : List Value} (n : Nat), AllRel env l vs → AllRel env (l.drop n) (vs.drop n)
  | l, vs, 0, k => by simpa using k
  | [], [], n + 1, k => by simp [AllRel]
  | a :: l, v :: vs, n + 1, k => by simpa using AllRel.drop n k.2
theorem AllRel.take : ∀ {l : List At} {vs : List Value} (n : Nat), AllRel env l vs → AllRel env (l.take n) (vs.take n)
  | l, vs, 0, k => by simp [AllRel]
  | [], [], n + 1, k => by simp [AllRel]
  | a :: l, v :: vs, n + 1, k => by simpa [AllRel] using ⟨k.1, AllRel.take n k.2⟩
theorem AllRel.append : ∀ {l m : List At} {vs us : List Value}, AllRel env l vs → AllRel env m us → AllRel env (l ++ m) (vs ++ us)
  | [], m, [], us, h, k => by simpa using k
  | a :: l, m, v :: vs, us, h, k => by exact ⟨h.1, AllRel.append h.2 k⟩
theorem AllRel.vals : ∀ (vs : List Value), AllRel env (vs.map .val) vs
  | [] => trivial
  | v :: vs => ⟨rfl, AllRel.vals vs⟩
theorem AllSV.length : ∀ {l : List SV} {vs : List Value}, AllSV env l vs → l.length = vs.length
  | [], [], _ => rfl
  | a :: l, v :: vs, k => by simp [AllSV.length k.2]
theorem AllSV.get : ∀ {l : List SV} {vs : List Value} {i : Nat} {a : SV}, AllSV env l vs → l[i]? = some a → ∃ v, vs[i]? = some v ∧ a.rel env v
  | a :: l, v :: vs, 0, b, k, h => by
    simp at h; subst h; exact ⟨v, by simp, k.1⟩
  | a :: l, v :: vs, i + 1, b, k, h => by
    simp at h; obtain ⟨u, h1, h2⟩ := AllSV.get k.2 h; exact ⟨u, by simpa using h1, h2⟩
theorem AllSV.set : ∀ {l : List SV} {vs : List Value} (i : Nat) {a : SV} {v : Value}, AllSV env l vs → a.rel env v → AllSV env (l.set i a) (vs.set i v)
  | [], [], i, _, _, k, h => by simp [AllSV]
  | b :: l, u :: vs, 0, _, _, k, h => ⟨h, k.2⟩
  | b :: l, u :: vs, i + 1, _, _, k, h => ⟨k.1, AllSV.set i k.2 h⟩
theorem AllSV.le (h : env.le env') : ∀ {l : List SV} {vs : List Value}, AllSV env l vs → AllSV env' l vs
  | [], [], _ => trivial
  | a :: l, v :: vs, k => ⟨SV.rel_le h k.1, AllSV.le h k.2⟩
theorem AllSV.append : ∀ {l m : List SV} {vs us : List Value}, AllSV env l vs → AllSV env m us → AllSV env (l ++ m) (vs ++ us)
  | [], m, [], us, h, k => by simpa using k
  | a :: l, m, v :: vs, us, h, k => by exact ⟨h.1, AllSV.append h.2 k⟩
theorem AllSV.anys : ∀ (vs : List Value), AllSV env (List.replicate vs.length .any) vs
  | [] => trivial
  | v :: vs => ⟨trivial, AllSV.anys vs⟩
end rel

/-- What is known of a handle's memory. -/
inductive Seg where
  | box (t : TypeId) (cells : List At)
  | ro (wd len : Nat) (g : Nat → List At)
  | row (e : TypeId) (wd n : Nat) (g : Nat → List At)
  | gone

def Seg.excl : Seg → Bool
  | .box .. | .row .. => true
  | _ => false
def Seg.live : Seg → Prop
  | .box .. | .row .. => True
  | .ro wd len _ => 0 < len * wd
  | .gone => False

/-- n elements' cells stand, one behind the other, in a list. -/
def Elems (env : Env) (wd n : Nat) (g : Nat → List At) (cs : List Value) : Prop :=
  cs.length = n * wd ∧ (∀ i, i < n → AllRel env (g i) ((cs.drop (i * wd)).take wd)) ∧ ∀ v ∈ cs, v.oneCell' = true

def SegOk (env : Env) (w : World) (h : Nat) : Seg → Prop
  | .box t cells => ∃ b cs, env h = some (.pointer (some ⟨b, 0, none⟩)) ∧ w.heap[b]? = some (.cells cs t (0, 0)) ∧ AllRel env cells cs.toList
  | .ro wd len g => ∃ ao cap cs, env h = some (.slice ao len cap) ∧ len ≤ cap ∧ cap ≤ maxLen ∧ (ao = none → len = 0 ∧ cap = 0) ∧ Elems env wd len g cs ∧
      ∀ i v, cs[i]? = some v → ∃ a, ao = some a ∧ w.cell? (a.add i) = some v
  | .row e wd n g => ∃ v cs, env h = some v ∧ w.ownsRow 0 e wd v n cs ∧ Elems env wd n g cs
  | .gone => True

theorem Elems.le {env env' : Env} (h : env.le env') {wd n : Nat} {g : Nat → List At} {cs : List Value} (k : Elems env wd n g cs) : Elems env' wd n g cs :=
  ⟨k.1, fun i hi => (k.2.1 i hi).le h, k.2.2⟩
theorem SegOk.le {env env' : Env} (h : env.le env') {w : World} {m : Nat} {s : Seg} (k : SegOk env w m s) : SegOk env' w m s := by
  cases s with
  | box t cells => obtain ⟨b, cs, h1, h2, h3⟩ := k; exact ⟨b, cs, h _ _ h1, h2, h3.le h⟩
  | ro wd len g => obtain ⟨ao, cap, cs, h1, h2, h3, h4, h5, h6⟩ := k; exact ⟨ao, cap, cs, h _ _ h1, h2, h3, h4, h5.le h, h6⟩
  | row e wd n g => obtain ⟨v, cs, h1, h2, h3⟩ := k; exact ⟨v, cs, h _ _ h1, h2, h3.le h⟩
  | gone => trivial

theorem ownsRow_heap {w w' : World} {B : Nat} {e : TypeId} {wd n : Nat} {v : Value} {cs : List Value} (h : w.ownsRow B e wd v n cs)
    (hh : ∀ g, v.ownBlock = some g → g < w.heap.size → w'.heap[g]? = w.heap[g]?) : w'.ownsRow B e wd v n cs := by
  refine ⟨h.1, ?_⟩
  rcases h.2 with k | ⟨g, cap, cur, rfl, h1, h2, h3⟩
  · exact .inl k
  · exact .inr ⟨g, cap, cur, rfl, h1, by rw [hh g rfl (Array.getElem?_eq_some_iff.1 h2).1]; exact h2, h3⟩

/-- A handle's memory hangs on its own block alone. -/
theorem SegOk.heap {env : Env} {w w' : World} {m : Nat} {s : Seg} (k : SegOk env w m s)
    (hh : ∀ b, blk env m = some b → s.live → b < w.heap.size → w'.heap[b]? = w.heap[b]?) : SegOk env w' m s := by
  cases s with
  | box t cells =>
    obtain ⟨b, cs, h1, h2, h3⟩ := k
    exact ⟨b, cs, h1, by rw [hh b (by simp [blk, h1, baseOf]) trivial (Array.getElem?_eq_some_iff.1 h2).1]; exact h2, h3⟩
  | ro wd len g =>
    obtain ⟨ao, cap, cs, h1, h2, h3, h4, h5, h6⟩ := k
    refine ⟨ao, cap, cs, h1, h2, h3, h4, h5, fun i v hv => ?_⟩
    obtain ⟨a, rfl, hc⟩ := h6 i v hv
    refine ⟨a, rfl, ?_⟩
    have hlt := World.block_lt_of_cell? w _ hc
    have hb : (a.add i).block = a.block := by unfold Addr.add; split <;> rfl
    rw [hb] at hlt
    have := hh a.block (by simp [blk, h1, baseOf]) (by
      show 0 < len * wd
      have := (List.getElem?_eq_some_iff.1 hv).1
      have := h5.1
      omega) hlt
    rw [World.cell?_of_block (w := w) (by rw [hb]; exact this)]
    exact hc
  | row e wd n g =>
    obtain ⟨v, cs, h1, h2, h3⟩ := k
    exact ⟨v, cs, h1, ownsRow_heap h2 (fun b hb hlt => hh b (by
      cases v <;> simp_all [Value.ownBlock, blk, baseOf]
      rename_i ao _ _
      cases ao <;> simp_all [Value.ownBlock]) trivial hlt), h3⟩
  | gone => trivial

structure MemOk (env : Env) (mem : List Seg) (w0 w : World) (S : Nat → Prop) : Prop where
  ok : ∀ h s, mem[h]? = some s → SegOk env w h s
  top : ∀ h, mem.length ≤ h → env h = none
  sep : ∀ h k s t b, mem[h]? = some s → mem[k]? = some t → h ≠ k → s.excl = true → t.live → blk env h = some b → blk env k ≠ some b
  own : ∀ h s b, mem[h]? = some s → s.excl = true → blk env h = some b → w0.heap.size ≤ b ∨ S b
  os : w.os = w0.os
  tape : w.tape = w0.tape
  output : w.output = w0.output
  grow : w0.heap.size ≤ w.heap.size
  frame : ∀ b, b < w0.heap.size → ¬ S b → w.heap[b]? = w0.heap[b]?

def NoS : Nat → Prop := fun _ => False

theorem MemOk.ext {env : Env} {mem : List Seg} {w0 w : World} (h : MemOk env mem w0 w NoS) : Ext w0 w :=
  ⟨h.os, h.tape, h.output, h.grow, fun b hb => h.frame b hb (fun k => k)⟩

theorem own_base {w : World} {B : Nat} {e : TypeId} {wd n b : Nat} {v : Value} {cs : List Value} (h : w.ownsRow B e wd v n cs) (hb : (baseOf v).map (·.block) = some b) : v.ownBlock = some b := by
  rcases h.2 with ⟨rfl, _⟩ | ⟨g, cap, cur, rfl, _⟩
  · simp [baseOf] at hb
  · simpa [baseOf, Value.ownBlock] using hb

/-- A live handle's block is there. -/
theorem SegOk.lt {env : Env} {w : World} {m b : Nat} {s : Seg} (k : SegOk env w m s) (hl : s.live) (hb : blk env m = some b) : b < w.heap.size := by
  cases s with
  | box t cells =>
    obtain ⟨b', cs, h1, h2, h3⟩ := k
    simp [blk, h1, baseOf] at hb
    subst hb
    exact (Array.getElem?_eq_some_iff.1 h2).1
  | ro wd len g =>
    obtain ⟨ao, cap, cs, h1, h2, h3, h4, h5, h6⟩ := k
    have hl : 0 < len * wd := hl
    obtain ⟨a, rfl, hc⟩ := h6 0 (cs[0]'(by rw [h5.1]; exact hl)) (by simp)
    have hlt := World.block_lt_of_cell? w _ hc
    simp [blk, h1, baseOf] at hb
    subst hb
    simpa [Addr.add] using hlt
  | row e wd n g =>
    obtain ⟨v, cs, h1, h2, h3⟩ := k
    refine (h2.lt b ?_).2
    simp only [blk, h1, Option.bind_some] at hb
    exact own_base h2 hb
  | gone => exact hl.elim

theorem excl_live {s : Seg} (h : s.excl = true) : s.live := by
  cases s <;> simp_all [Seg.excl, Seg.live]

/-- What a callee leaves, that writes to no old block. -/
theorem MemOk.trans {env : Env} {mem : List Seg} {w0 w w' : World} {S : Nat → Prop} (h : MemOk env mem w0 w S) (k : Ext w w') : MemOk env mem w0 w' S where
  ok := fun m s hm => (h.ok m s hm).heap (fun b _ _ hlt => k.block b hlt)
  top := h.top
  sep := h.sep
  own := h.own
  os := k.os.trans h.os
  tape := k.tape.trans h.tape
  output := k.output.trans h.output
  grow := Nat.le_trans h.grow k.size
  frame := fun b hb hS => (k.block b (Nat.lt_of_lt_of_le hb h.grow)).trans (h.frame b hb hS)

theorem blk_put_same (env : Env) (h : Nat) (v : Value) : blk (env.put h v) h = (baseOf v).map (·.block) := by simp [blk, Env.put]
theorem blk_put_other (env : Env) {h k : Nat} (v : Value) (hk : k ≠ h) : blk (env.put h v) k = blk env k := by simp [blk, Env.put, hk]

/-- A new block with a handle of its own. -/
theorem MemOk.push {env : Env} {mem : List Seg} {w0 w : World} {S : Nat → Prop} (h : MemOk env mem w0 w S) (o : Obj) (v : Value) (s : Seg)
    (hv : (baseOf v).map (·.block) = some w.heap.size) (hs : SegOk (env.put mem.length v) (w.alloc o) mem.length s) :
    MemOk (env.put mem.length v) (mem ++ [s]) w0 (w.alloc o) S := by
  have hnone := h.top mem.length (Nat.le_refl _)
  have hle : env.le (env.put mem.length v) := Env.le_put hnone
  have hk : Ext w (w.alloc o) := (Ext.refl w).alloc o
  have old : ∀ m t, mem[m]? = some t → m ≠ mem.length := fun m t hm e => by
    have := (List.getElem?_eq_some_iff.1 hm).1; omega
  have get : ∀ m t, (mem ++ [s])[m]? = some t → mem[m]? = some t ∨ (m = mem.length ∧ t = s) := by
    intro m t hm
    by_cases hlt : m < mem.length
    · rw [List.getElem?_append_left hlt] at hm; exact .inl hm
    · have : m < (mem ++ [s]).length := (List.getElem?_eq_some_iff.1 hm).1
      simp at this
      have e : m = mem.length := by omega
      subst e
      simp at hm
      exact .inr ⟨rfl, hm.symm⟩
  refine ⟨?_, ?_, ?_, ?_, h.os, h.tape, h.output, Nat.le_trans h.grow (by simp), ?_⟩
  · intro m t hm
    rcases get m t hm with hm | ⟨rfl, rfl⟩
    · exact ((h.ok m t hm).heap (fun b _ _ hlt => hk.block b hlt)).le hle
    · exact hs
  · intro m hm
    simp at hm
    rw [Env.put_other _ (by omega)]
    exact h.top m (by omega)
  · intro m k a t b hm0 hk0 hne hx hl hb
    rcases get m a hm0 with hm | ⟨em, ea⟩ <;> rcases get k t hk0 with hk' | ⟨ek, et⟩
    · rw [blk_put_other _ _ (old m a hm)] at hb
      rw [blk_put_other _ _ (old k t hk')]
      exact h.sep m k a t b hm hk' hne hx hl hb
    · subst ek
      rw [blk_put_other _ _ (old m a hm)] at hb
      rw [blk_put_same, hv]
      have := (h.ok m a hm).lt (excl_live hx) hb
      intro e; simp at e; omega
    · subst em
      rw [blk_put_same, hv] at hb
      rw [blk_put_other _ _ (old k t hk')]
      intro e
      have := (h.ok k t hk').lt hl e
      simp at hb; omega
    · exact absurd (em.trans ek.symm) hne
  · intro m a b hm hx hb
    rcases get m a hm with hm | ⟨rfl, rfl⟩
    · rw [blk_put_other _ _ (old m a hm)] at hb
      exact h.own m a b hm hx hb
    · rw [blk_put_same, hv] at hb
      simp at hb
      have := h.grow
      exact .inl (by omega)
  · intro b hb hS
    rw [hk.block b (Nat.lt_of_lt_of_le hb h.grow)]
    exact h.frame b hb hS

theorem MemOk.pad {env : Env} {mem : List Seg} {w0 w : World} {S : Nat → Prop} (h : MemOk env mem w0 w S) : MemOk env (mem ++ [.gone]) w0 w S := by
  have get : ∀ (m : Nat) (t : Seg), (mem ++ [Seg.gone])[m]? = some t → mem[m]? = some t ∨ t = Seg.gone := by
    intro m t hm
    by_cases hlt : m < mem.length
    · rw [List.getElem?_append_left hlt] at hm; exact .inl hm
    · have : m < (mem ++ [Seg.gone]).length := (List.getElem?_eq_some_iff.1 hm).1
      simp at this
      have e : m = mem.length := by omega
      subst e
      simp at hm
      exact .inr hm.symm
  refine ⟨?_, ?_, ?_, ?_, h.os, h.tape, h.output, h.grow, h.frame⟩
  · intro m t hm
    rcases get m t hm with hm | rfl
    · exact h.ok m t hm
    · trivial
  · intro m hm; simp at hm; exact h.top m (by omega)
  · intro m k a t b hm0 hk0 hne hx hl hb
    rcases get m a hm0 with hm | rfl
    · rcases get k t hk0 with hk | rfl
      · exact h.sep m k a t b hm hk hne hx hl hb
      · exact hl.elim
    · cases hx
  · intro m a b hm hx hb
    rcases get m a hm with hm | rfl
    · exact h.own m a b hm hx hb
    · cases hx

/-- A handle that had nothing has a new block, or one that nobody else has (b0). -/
theorem MemOk.fill2 {env : Env} {mem : List Seg} {w0 w w' : World} {S : Nat → Prop} (h : MemOk env mem w0 w S) (nh : Nat) (v : Value) (s : Seg) (hg : mem[nh]? = some .gone) (hn : env nh = none) (b0 : Option Nat)
    (hos : w'.os = w.os) (htape : w'.tape = w.tape) (hout : w'.output = w.output) (hsize : w.heap.size ≤ w'.heap.size) (hold : ∀ k, k < w.heap.size → some k ≠ b0 → w'.heap[k]? = w.heap[k]?)
    (hfree : ∀ k t b, b0 = some b → mem[k]? = some t → t.live → blk env k ≠ some b) (hown : ∀ b, b0 = some b → w0.heap.size ≤ b ∨ S b)
    (hv : ∀ b, (baseOf v).map (·.block) = some b → b0 = some b ∨ w.heap.size ≤ b) (hs : SegOk (env.put nh v) w' nh s) :
    MemOk (env.put nh v) (mem.set nh s) w0 w' S := by
  have hle : env.le (env.put nh v) := Env.le_put hn
  have hlt : nh < mem.length := (List.getElem?_eq_some_iff.1 hg).1
  have get : ∀ k t, (mem.set nh s)[k]? = some t → (k = nh ∧ t = s) ∨ (k ≠ nh ∧ mem[k]? = some t) := by
    intro k t hk
    by_cases e : k = nh
    · subst e
      rw [List.getElem?_set_self hlt] at hk
      exact .inl ⟨rfl, (Option.some.inj hk).symm⟩
    · rw [List.getElem?_set_ne (Ne.symm e)] at hk
      exact .inr ⟨e, hk⟩
  refine ⟨?_, ?_, ?_, ?_, hos.trans h.os, htape.trans h.tape, hout.trans h.output, Nat.le_trans h.grow hsize, ?_⟩
  · intro m t hm
    rcases get m t hm with ⟨rfl, rfl⟩ | ⟨hne, hm⟩
    · exact hs
    · exact ((h.ok m t hm).heap (fun b hb hl hbl => hold b hbl (fun e => hfree m t b e.symm hm hl hb))).le hle
  · intro m hm
    simp at hm
    rw [Env.put_other _ (by omega)]
    exact h.top m hm
  · intro m k a t b hm0 hk0 hne hx hl hb
    rcases get m a hm0 with ⟨em, ea⟩ | ⟨hmn, hm⟩ <;> rcases get k t hk0 with ⟨ek, et⟩ | ⟨hkn, hk'⟩
    · exact absurd (em.trans ek.symm) hne
    · subst em
      rw [blk_put_same] at hb
      rw [blk_put_other _ _ hkn]
      intro e
      rcases hv b hb with h0 | h0
      · exact hfree k t b h0 hk' hl e
      · have := (h.ok k t hk').lt hl e
        omega
    · subst ek
      rw [blk_put_other _ _ hmn] at hb
      rw [blk_put_same]
      intro e
      rcases hv b e with h0 | h0
      · exact hfree m a b h0 hm (excl_live hx) hb
      · have := (h.ok m a hm).lt (excl_live hx) hb
        omega
    · rw [blk_put_other _ _ hmn] at hb
      rw [blk_put_other _ _ hkn]
      exact h.sep m k a t b hm hk' hne hx hl hb
  · intro m a b hm hx hb
    rcases get m a hm with ⟨rfl, rfl⟩ | ⟨hne, hm⟩
    · rw [blk_put_same] at hb
      rcases hv b hb with h0 | h0
      · exact hown b h0
      · have := h.grow
        exact .inl (by omega)
    · rw [blk_put_other _ _ hne] at hb
      exact h.own m a b hm hx hb
  · intro b hb hS
    rw [hold b (Nat.lt_of_lt_of_le hb h.grow) (fun e => by
      rcases hown b e.symm with k | k
      · omega
      · exact hS k)]
    exact h.frame b hb hS

/-- A new block under a handle that had nothing. -/
theorem MemOk.fill {env : Env} {mem : List Seg} {w0 w w' : World} {S : Nat → Prop} (h : MemOk env mem w0 w S) (nh : Nat) (v : Value) (s : Seg) (hg : mem[nh]? = some .gone) (hn : env nh = none)
    (hk : Ext w w') (hv : ∀ b, (baseOf v).map (·.block) = some b → w.heap.size ≤ b) (hs : SegOk (env.put nh v) w' nh s) :
    MemOk (env.put nh v) (mem.set nh s) w0 w' S :=
  h.fill2 nh v s hg hn none hk.os hk.tape hk.output hk.size (fun k hl _ => hk.block k hl) (fun _ _ _ e => by cases e) (fun _ e => by cases e) (fun b hb => .inr (hv b hb)) hs

/-- Of a handle nothing is known any more. -/
theorem MemOk.drop {env : Env} {mem : List Seg} {w0 w : World} {S : Nat → Prop} (h : MemOk env mem w0 w S) (m : Nat) : MemOk env (mem.set m .gone) w0 w S := by
  have get : ∀ (k : Nat) (t : Seg), (mem.set m .gone)[k]? = some t → t = Seg.gone ∨ (k ≠ m ∧ mem[k]? = some t) := by
    intro k t hk
    by_cases e : k = m
    · subst e
      by_cases hlt : k < mem.length
      · rw [List.getElem?_set_self hlt] at hk; exact .inl (Option.some.inj hk).symm
      · rw [List.getElem?_eq_none (by simp; omega)] at hk; cases hk
    · rw [List.getElem?_set_ne (Ne.symm e)] at hk
      exact .inr ⟨e, hk⟩
  refine ⟨?_, ?_, ?_, ?_, h.os, h.tape, h.output, h.grow, h.frame⟩
  · intro k t hk
    rcases get k t hk with rfl | ⟨_, hk⟩
    · trivial
    · exact h.ok k t hk
  · intro k hk; simp at hk; exact h.top k hk
  · intro k l a t b hk0 hl0 hne hx hl hb
    rcases get k a hk0 with rfl | ⟨_, hk⟩
    · cases hx
    · rcases get l t hl0 with rfl | ⟨_, hl'⟩
      · exact hl.elim
      · exact h.sep k l a t b hk hl' hne hx hl hb
  · intro k a b hk hx hb
    rcases get k a hk with rfl | ⟨_, hk⟩
    · cases hx
    · exact h.own k a b hk hx hb

/-- A handle's memory is another; the other blocks are as they were. -/
theorem MemOk.write {env : Env} {mem : List Seg} {w0 w w' : World} {S : Nat → Prop} (h : MemOk env mem w0 w S) (m : Nat) (s s' : Seg) (b : Nat) (hm : mem[m]? = some s) (hb : blk env m = some b) (hx : s.excl = true)
    (hos : w'.os = w.os) (htape : w'.tape = w.tape) (hout : w'.output = w.output) (hsize : w.heap.size ≤ w'.heap.size)
    (hold : ∀ k, k < w.heap.size → k ≠ b → w'.heap[k]? = w.heap[k]?) (hs : SegOk env w' m s') : MemOk env (mem.set m s') w0 w' S := by
  have get : ∀ k t, (mem.set m s')[k]? = some t → (k = m ∧ t = s') ∨ (k ≠ m ∧ mem[k]? = some t) := by
    intro k t hk
    by_cases e : k = m
    · subst e
      rw [List.getElem?_set_self (List.getElem?_eq_some_iff.1 hm).1] at hk
      exact .inl ⟨rfl, (Option.some.inj hk).symm⟩
    · rw [List.getElem?_set_ne (Ne.symm e)] at hk
      exact .inr ⟨e, hk⟩
  refine ⟨?_, ?_, ?_, ?_, hos.trans h.os, htape.trans h.tape, hout.trans h.output, Nat.le_trans h.grow hsize, ?_⟩
  · intro k t hk
    rcases get k t hk with ⟨rfl, rfl⟩ | ⟨hne, hk⟩
    · exact hs
    · refine (h.ok k t hk).heap (fun c hc hl hlt => hold c hlt ?_)
      intro e; subst e
      exact h.sep m k s t c hm hk (Ne.symm hne) hx hl hb hc
  · intro k hk; simp at hk; exact h.top k hk
  · intro k l a t c hk0 hl0 hne hxa hlt hc
    rcases get k a hk0 with ⟨ek, ea⟩ | ⟨hnk, hk⟩ <;> rcases get l t hl0 with ⟨el, et⟩ | ⟨hnl, hl⟩
    · exact absurd (ek.trans el.symm) hne
    · subst ek; exact h.sep k l s t c hm hl hne hx hlt hc
    · subst el; exact h.sep k l a s c hk hm hne hxa (excl_live hx) hc
    · exact h.sep k l a t c hk hl hne hxa hlt hc
  · intro k a c hk hxa hc
    rcases get k a hk with ⟨rfl, rfl⟩ | ⟨hnk, hk⟩
    · exact h.own k s c hm hx hc
    · exact h.own k a c hk hxa hc
  · intro c hc hS
    rw [hold c (Nat.lt_of_lt_of_le hc h.grow) (by
      intro e; subst e
      rcases h.own m s c hm hx hb with k | k
      · omega
      · exact hS k)]
    exact h.frame c hc hS
end E
end Go.Proofs.Ytlmeemilikladaa

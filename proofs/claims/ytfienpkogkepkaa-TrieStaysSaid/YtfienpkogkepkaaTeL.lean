/- trie: a tree of nodes as a thing of many parts; opened and shut. No condition. -/
import Derived.Test.YtfienpkogkepkaaTeJ
namespace Go.Proofs.Ytfienpkogkepkaa
set_option linter.unusedVariables false
set_option linter.unusedSimpArgs false
namespace E
open Go.RowKit
/-! another word for an address -/
def NV.map (σ : At → At) : NV → NV
  | .one a => .one (σ a)
  | .agg l => .agg (l.map σ)
def SV.map (σ : At → At) : SV → SV
  | .nv x => .nv (x.map σ)
  | .tup l => .tup (l.map (NV.map σ))
  | .any => .any
def Seg.map (σ : At → At) : Seg → Seg
  | .box t l => .box t (l.map σ)
  | .robox t l => .robox t (l.map σ)
  | s => s
def St.map (σ : At → At) (st : St) : St := ⟨st.tm.map (SV.map σ), st.mem.map (Seg.map σ)⟩
section
variable {env : Env} {σ : At → At} (hσ : ∀ x v, x.rel env v → (σ x).rel env v)
include hσ
theorem AllRel.map : ∀ {l : List At} {vs : List Value}, AllRel env l vs → AllRel env (l.map σ) vs
  | [], [], _ => trivial
  | x :: l, v :: vs, h => ⟨hσ x v h.1, AllRel.map h.2⟩
  | [], _ :: _, h => h.elim
  | _ :: _, [], h => h.elim
theorem NV.rel_map {x : NV} {v : Value} (h : x.rel env v) : (x.map σ).rel env v := by
  cases x with
  | one a => exact hσ a v h
  | agg l => obtain ⟨cs, e, k⟩ := h; exact ⟨cs, e, AllRel.map hσ k⟩
theorem AllNV.map : ∀ {l : List NV} {vs : List Value}, AllNV env l vs → AllNV env (l.map (NV.map σ)) vs
  | [], [], _ => trivial
  | x :: l, v :: vs, h => ⟨NV.rel_map hσ h.1, AllNV.map h.2⟩
  | [], _ :: _, h => h.elim
  | _ :: _, [], h => h.elim
theorem SV.rel_map {x : SV} {v : Value} (h : x.rel env v) : (x.map σ).rel env v := by
  cases x with
  | nv x => exact NV.rel_map hσ h
  | tup l => obtain ⟨cs, e, k⟩ := h; exact ⟨cs, e, AllNV.map hσ k⟩
  | any => trivial
theorem AllSV.map : ∀ {l : List SV} {vs : List Value}, AllSV env l vs → AllSV env (l.map (SV.map σ)) vs
  | [], [], _ => trivial
  | x :: l, v :: vs, h => ⟨SV.rel_map hσ h.1, AllSV.map h.2⟩
  | [], _ :: _, h => h.elim
  | _ :: _, [], h => h.elim
theorem segOk_map {w : World} {j : Nat} {s : Seg} (h : SegOk env w j s) : SegOk env w j (s.map σ) := by
  cases s with
  | box t l => obtain ⟨b, cs, h1, h2, h3⟩ := h; exact ⟨b, cs, h1, h2, AllRel.map hσ h3⟩
  | robox t l => obtain ⟨b, cs, h1, h2, h3⟩ := h; exact ⟨b, cs, h1, h2, AllRel.map hσ h3⟩
  | ro wd n g => exact h
  | row e wd n g => exact h
  | chan c b cl => exact h
  | abs A => exact h
  | roabs A => exact h
  | gone => exact h
theorem memOk_map {mem : List Seg} {w0 w : World} {S : Nat → Prop} (h : MemOk env mem w0 w S) : MemOk env (mem.map (Seg.map σ)) w0 w S := by
  have get : ∀ (j : Nat) s, (mem.map (Seg.map σ))[j]? = some s → ∃ t, mem[j]? = some t ∧ s = t.map σ := fun j s hj => by
    rw [List.getElem?_map, Option.map_eq_some_iff] at hj
    obtain ⟨t, h1, h2⟩ := hj
    exact ⟨t, h1, h2.symm⟩
  have ex : ∀ s : Seg, (s.map σ).excl = s.excl := fun s => by cases s <;> rfl
  have li : ∀ s : Seg, (s.map σ).live → s.live := fun s hl => by cases s <;> exact hl
  refine ⟨fun j s hj => ?_, fun j hj => h.top j (by simpa using hj), fun j k s t b hj hk hne hx hl => ?_, fun j s b hj hx hb => ?_, h.os, h.tape, h.output, h.grow, h.frame⟩
  · obtain ⟨t, h1, rfl⟩ := get j s hj
    exact segOk_map hσ (h.ok j t h1)
  · obtain ⟨s', h1, rfl⟩ := get j s hj
    obtain ⟨t', h2, rfl⟩ := get k t hk
    exact h.sep j k s' t' b h1 h2 hne (by rw [← ex]; exact hx) (li t' hl)
  · obtain ⟨s', h1, rfl⟩ := get j s hj
    exact h.own j s' b h1 (by rw [← ex]; exact hx) hb
theorem ok_map {cx : Cx} {st : St} {a : Act} {w : World} (h : Ok cx env st a w) : Ok cx env (st.map σ) a w :=
  ⟨h.defers, AllSV.map hσ h.tm, memOk_map hσ h.mem, by have := h.long; simp only [St.map, List.length_map]; exact this, h.fix⟩
end
end E
open Go.RowKit E
/-! the tree -/
inductive PT where
  | nil
  | node (a n : Int) (u : Bool) (x : Int) (l r : PT)
abbrev tNd : TypeId := 55
abbrev ndC (a n : Int) (u : Bool) (x : Int) (vl vr : Value) : Array Value := #[.int .u32 a, .int .i64 n, .bool u, .int .i64 x, vl, vr]
abbrev pB (b : Nat) : Value := .pointer (some ⟨b, 0, none⟩)
def TrW (w : World) : PT → Value → List Nat → Prop
  | .nil, v, F => v = .pointer none ∧ F = []
  | .node a n u x l r, v, F => ∃ b vl vr Fl Fr, v = pB b ∧ w.heap[b]? = some (.cells (ndC a n u x vl vr) tNd (0, 0)) ∧ F = b :: (Fl ++ Fr) ∧ F.Nodup ∧ TrW w l vl Fl ∧ TrW w r vr Fr
theorem TrW.frame {w w' : World} : ∀ {t : PT} {v : Value} {F : List Nat}, TrW w t v F → (∀ b, b ∈ F → w'.heap[b]? = w.heap[b]?) → TrW w' t v F
  | .nil, _, _, h, _ => h
  | .node .., _, _, ⟨b, vl, vr, Fl, Fr, h1, h2, h3, h4, h5, h6⟩, hf => by
    subst h3
    exact ⟨b, vl, vr, Fl, Fr, h1, (hf b (by simp)).trans h2, rfl, h4, h5.frame (fun c hc => hf c (by simp [hc])), h6.frame (fun c hc => hf c (by simp [hc]))⟩
theorem TrW.lt {w : World} : ∀ {t : PT} {v : Value} {F : List Nat}, TrW w t v F → ∀ b, b ∈ F → b < w.heap.size
  | .nil, _, _, ⟨_, h⟩, b, hb => by subst h; cases hb
  | .node .., _, _, ⟨b, vl, vr, Fl, Fr, h1, h2, h3, h4, h5, h6⟩, c, hc => by
    subst h3
    rcases List.mem_cons.1 hc with rfl | hc
    · exact (Array.getElem?_eq_some_iff.1 h2).1
    · rcases List.mem_append.1 hc with hc | hc
      · exact h5.lt c hc
      · exact h6.lt c hc
theorem TrW.nodup {w : World} : ∀ {t : PT} {v : Value} {F : List Nat}, TrW w t v F → F.Nodup
  | .nil, _, _, ⟨_, h⟩ => by subst h; exact List.nodup_nil
  | .node .., _, _, ⟨_, _, _, _, _, _, _, _, h4, _⟩ => h4
theorem TrW.root {w : World} : ∀ {t : PT} {v : Value} {F : List Nat}, TrW w t v F → (v = .pointer none ∨ ∃ b, b ∈ F ∧ v = pB b)
  | .nil, _, _, ⟨h, _⟩ => .inl h
  | .node .., _, _, ⟨b, _, _, _, _, h1, _, h3, _⟩ => .inr ⟨b, by rw [h3]; simp, h1⟩
/-- A tree's handle: its root, then all of its blocks. -/
def trV (v : Value) (F : List Nat) : Array Value := (v :: F.map pB).toArray
theorem trV_blks {v : Value} {F : List Nat} (hv : v = .pointer none ∨ ∃ b, b ∈ F ∧ v = pB b) (b : Nat) : b ∈ blksOf (.tuple (trV v F)) ↔ b ∈ F := by
  have e : (F.map pB).filterMap (fun u => (baseOf u).map (·.block)) = F := by
    rw [List.filterMap_map]
    have : ((fun u : Value => (baseOf u).map (·.block)) ∘ pB) = some := by funext x; rfl
    rw [this, List.filterMap_some]
  have e2 : blksOf (.tuple (trV v F)) = (v :: F.map pB).filterMap (fun u => (baseOf u).map (·.block)) := rfl
  rw [e2]
  rcases hv with rfl | ⟨c, hc, rfl⟩
  · rw [List.filterMap_cons_none rfl, e]
  · rw [List.filterMap_cons_some (f := fun u => (baseOf u).map (·.block)) (a := pB c) (b := c) rfl, e]
    constructor
    · intro h
      rcases List.mem_cons.1 h with rfl | h
      · exact hc
      · exact h
    · exact fun h => List.mem_cons_of_mem _ h
theorem trV_0 (v : Value) (F : List Nat) : (trV v F)[0]? = some v := rfl
/-- What is known of a tree; pin: its root's address. -/
def TA (pin : Option Value) (t : PT) : Abs where
  R := fun vs w => ∃ v F, vs = trV v F ∧ TrW w t v F ∧ ∀ u, pin = some u → v = u
  loc := by
    rintro vs w w' ⟨v, F, rfl, h, hp⟩ hf
    exact ⟨v, F, rfl, h.frame (fun b hb => hf b ((trV_blks h.root b).2 hb)), hp⟩
  lt := by
    rintro vs w ⟨v, F, rfl, h, hp⟩ b hb
    exact h.lt b ((trV_blks h.root b).1 hb)
/-! open and shut -/
theorem trW_node_disj {w : World} {a n : Int} {u : Bool} {x : Int} {l r : PT} {b : Nat} {vl vr : Value} {Fl Fr : List Nat} (h : (b :: (Fl ++ Fr)).Nodup) : (∀ c, c ∈ Fl → c ≠ b ∧ c ∉ Fr) ∧ ∀ c, c ∈ Fr → c ≠ b := by
  rw [List.nodup_cons, List.nodup_append] at h
  obtain ⟨h1, h2, h3, h4⟩ := h
  refine ⟨fun c hc => ⟨fun e => h1 (by rw [← e]; simp [hc]), fun q => h4 c hc c q rfl⟩, fun c hc e => h1 (by rw [← e]; simp [hc])⟩
/-- The address of a tree's root becomes the address of its node's box. -/
def opA (h k : Nat) : At → At
  | .root h' 0 nn => if Nat.beq h' h then .ptr k 0 else .root h' 0 nn
  | x => x
def nlA (h : Nat) : At → At
  | .root h' 0 nn => if Nat.beq h' h then .val (.pointer none) else .root h' 0 nn
  | x => x
def nnA (h : Nat) : At → At
  | .root h' 0 nn => if Nat.beq h' h then .root h' 0 true else .root h' 0 nn
  | x => x
theorem opA_ok {env : Env} {h k : Nat} {vs : Array Value} {b : Nat} (h1 : env h = some (.tuple vs)) (h2 : vs[0]? = some (pB b)) (h3 : env k = some (pB b)) (x : At) (v : Value) (hx : x.rel env v) : (opA h k x).rel env v := by
  unfold opA
  split
  · split
    · rename_i e
      have e := Nat.eq_of_beq_eq_true e
      subst e
      obtain ⟨vs', ao, e1, e2, e3, e4⟩ := hx
      rw [h1] at e1; cases e1
      rw [h2] at e2; cases e2
      exact ⟨_, _, h3, rfl, rfl⟩
    · exact hx
  · exact hx
theorem nlA_ok {env : Env} {h : Nat} {vs : Array Value} (h1 : env h = some (.tuple vs)) (h2 : vs[0]? = some (.pointer none)) (x : At) (v : Value) (hx : x.rel env v) : (nlA h x).rel env v := by
  unfold nlA
  split
  · split
    · rename_i e
      have e := Nat.eq_of_beq_eq_true e
      subst e
      obtain ⟨vs', ao, e1, e2, e3, e4⟩ := hx
      rw [h1] at e1; cases e1
      rw [h2] at e2; cases e2
      rfl
    · exact hx
  · exact hx
theorem nnA_ok {env : Env} {h : Nat} {vs : Array Value} {b : Nat} (h1 : env h = some (.tuple vs)) (h2 : vs[0]? = some (pB b)) (x : At) (v : Value) (hx : x.rel env v) : (nnA h x).rel env v := by
  unfold nnA
  split
  · split
    · rename_i e
      have e := Nat.eq_of_beq_eq_true e
      subst e
      obtain ⟨vs', ao, e1, e2, e3, e4⟩ := hx
      rw [h1] at e1; cases e1
      rw [h2] at e2; cases e2
      exact ⟨vs, _, h1, h2, rfl, fun _ => by simp⟩
    · exact hx
  · exact hx
def ndA (a n : Int) (u : Bool) (x : Int) (cl cr : At) : List At := [.val (.int .u32 a), .val (.int .i64 n), .val (.bool u), .val (.int .i64 x), cl, cr]
/-- The memory behind an opening. -/
def opM (h : Nat) (mem : List Seg) (a n : Int) (u : Bool) (x : Int) (l r : PT) : List Seg :=
  dropAll mem [h] ++ [.box tNd (ndA a n u x (.root (mem.length + 1) 0 false) (.root (mem.length + 2) 0 false)), .abs (TA none l), .abs (TA none r)]
def opMr (h : Nat) (mem : List Seg) (a n : Int) (u : Bool) (x : Int) (l r : PT) : List Seg :=
  dropAll mem [h] ++ [.robox tNd (ndA a n u x (.root (mem.length + 1) 0 false) (.root (mem.length + 2) 0 false)), .roabs (TA none l), .roabs (TA none r)]
theorem pB_of {w : World} {t : PT} {v : Value} {F : List Nat} (h : TrW w t v F) : ∃ ao, v = .pointer ao := by
  rcases h.root with h | ⟨b, _, h⟩
  · exact ⟨_, h⟩
  · exact ⟨_, h⟩
theorem open_mem {env : Env} {mem : List Seg} {w0 w : World} {S : Nat → Prop} {h : Nat} {pin : Option Value} {a n : Int} {u : Bool} {x : Int} {l r : PT} (hm : MemOk env mem w0 w S) (hh : mem[h]? = some (.abs (TA pin (.node a n u x l r))) ∨ mem[h]? = some (.roabs (TA pin (.node a n u x l r)))) :
    ∃ b vals, vals.length = 3 ∧ (∃ vs, env h = some (.tuple vs) ∧ vs[0]? = some (pB b)) ∧ vals[0]? = some (pB b) ∧ (∀ v, pin = some v → v = pB b) ∧
      (mem[h]? = some (.abs (TA pin (.node a n u x l r))) → MemOk (extE env mem.length vals) (opM h mem a n u x l r) w0 w S) ∧ (mem[h]? = some (.roabs (TA pin (.node a n u x l r))) → MemOk (extE env mem.length vals) (opMr h mem a n u x l r) w0 w S) := by
  have hok : ∃ vs, env h = some (.tuple vs) ∧ (TA pin (.node a n u x l r)).R vs w := by
    rcases hh with hh | hh
    · exact hm.ok h _ hh
    · exact hm.ok h _ hh
  obtain ⟨vs, e1, v, F, rfl, ht, hp⟩ := hok
  have ht' := ht
  obtain ⟨b, vl, vr, Fl, Fr, rfl, h2, h3, h4, h5, h6⟩ := ht
  subst h3
  obtain ⟨d1, d2⟩ := trW_node_disj (w := w) (a := a) (n := n) (u := u) (x := x) (l := l) (r := r) (vl := vl) (vr := vr) h4
  obtain ⟨aol, hvl⟩ := pB_of h5
  obtain ⟨aor, hvr⟩ := pB_of h6
  have hbl : ∀ c, c ∈ blksOf (.tuple (trV vl Fl)) ↔ c ∈ Fl := trV_blks h5.root
  have hbr : ∀ c, c ∈ blksOf (.tuple (trV vr Fr)) ↔ c ∈ Fr := trV_blks h6.root
  have hbb : ∀ c, c ∈ blksOf (pB b) ↔ c = b := fun c => by simp [blksOf, baseOf]
  have hall : ∀ c, c ∈ b :: (Fl ++ Fr) → blk env h c := fun c hc => by
    rw [blk_some e1]; exact (trV_blks ht'.root c).2 hc
  refine ⟨b, [pB b, .tuple (trV vl Fl), .tuple (trV vr Fr)], rfl, ⟨_, e1, rfl⟩, rfl, fun u hu => (hp u hu).symm, ?_, ?_⟩
  all_goals
    intro hh'
    refine MemOk.recast hm [h] _ _ rfl ?_ ?_ ?_
    · intro i s hi
      match i, hi with
      | 0, hi =>
        cases hi
        refine ⟨b, ndC a n u x vl vr, extE_ge 0, h2, rfl, rfl, rfl, rfl, ?_, ?_, trivial⟩
        · exact ⟨_, aol, extE_ge 1, rfl, hvl, fun e => by cases e⟩
        · exact ⟨_, aor, extE_ge 2, rfl, hvr, fun e => by cases e⟩
      | 1, hi => cases hi; exact ⟨_, extE_ge 1, vl, Fl, rfl, h5, fun u hu => by cases hu⟩
      | 2, hi => cases hi; exact ⟨_, extE_ge 2, vr, Fr, rfl, h6, fun u hu => by cases hu⟩
    · intro i s v c hi hv hc
      refine ⟨h, _, by simp, hh', ?_, ?_, trivial⟩
      · match i, hv with
        | 0, hv => cases hv; exact hall c (by rw [(hbb c).1 hc]; simp)
        | 1, hv => cases hv; exact hall c (by simp [(hbl c).1 hc])
        | 2, hv => cases hv; exact hall c (by simp [(hbr c).1 hc])
      · intro hx
        match i, hi with
        | 0, hi => cases hi; first | rfl | cases hx
        | 1, hi => cases hi; first | rfl | cases hx
        | 2, hi => cases hi; first | rfl | cases hx
    · intro i i' s s' v v' c hi hi' hv hv' hne _ _ hc hc'
      match i, i', hv, hv' with
      | 0, 0, _, _ => exact hne rfl
      | 1, 1, _, _ => exact hne rfl
      | 2, 2, _, _ => exact hne rfl
      | 0, 1, hv, hv' => cases hv; cases hv'; exact (d1 c ((hbl c).1 hc')).1 ((hbb c).1 hc)
      | 1, 0, hv, hv' => cases hv; cases hv'; exact (d1 c ((hbl c).1 hc)).1 ((hbb c).1 hc')
      | 0, 2, hv, hv' => cases hv; cases hv'; exact d2 c ((hbr c).1 hc') ((hbb c).1 hc)
      | 2, 0, hv, hv' => cases hv; cases hv'; exact d2 c ((hbr c).1 hc) ((hbb c).1 hc')
      | 1, 2, hv, hv' => cases hv; cases hv'; exact (d1 c ((hbl c).1 hc)).2 ((hbr c).1 hc')
      | 2, 1, hv, hv' => cases hv; cases hv'; exact (d1 c ((hbl c).1 hc')).2 ((hbr c).1 hc)
end Go.Proofs.Ytfienpkogkepkaa

/- trie: a tree's states, opened and shut. No condition. -/
namespace Go.Proofs.Ytfienpkogkepkaa
set_option linter.unusedVariables false
set_option linter.unusedSimpArgs false
open Go.RowKit E
theorem ok_ext {cx : Cx} {env : Env} {tm : List SV} {mem mem' : List Seg} {vals : List Value} {a : Act} {w : World} (hk : Ok cx env ⟨tm, mem⟩ a w) (hm : MemOk (extE env mem.length vals) mem' cx.w0 w cx.S) (hl : mem.length ≤ mem'.length) : Ok cx (extE env mem.length vals) ⟨tm, mem'⟩ a w :=
  ⟨hk.defers, AllSV.le (le_extE hk.mem.top) hk.tm, hm, Nat.le_trans hk.long hl, fun j hj => by rw [extE_lt (Nat.lt_of_lt_of_le hj hk.long)]; exact hk.fix j hj⟩
theorem opM_len {h : Nat} {mem : List Seg} {a n : Int} {u : Bool} {x : Int} {l r : PT} : (opM h mem a n u x l r).length = mem.length + 3 := by simp [opM, dropAll_len]
theorem opMr_len {h : Nat} {mem : List Seg} {a n : Int} {u : Bool} {x : Int} {l r : PT} : (opMr h mem a n u x l r).length = mem.length + 3 := by simp [opMr, dropAll_len]
section
variable {cx : Cx} {env : Env} {tm : List SV} {mem : List Seg} {act : Act} {w : World} {h : Nat} {pin : Option Value} {a n : Int} {u : Bool} {x : Int} {l r : PT}
theorem open_ok (hk : Ok cx env ⟨tm, mem⟩ act w) (hh : mem[h]? = some (.abs (TA pin (.node a n u x l r)))) : ∃ b vals, vals[0]? = some (pB b) ∧ (∀ v, pin = some v → v = pB b) ∧ Ok cx (extE env mem.length vals) (St.map (opA h mem.length) ⟨tm, opM h mem a n u x l r⟩) act w := by
  obtain ⟨b, vals, h1, ⟨vs, h2, h3⟩, h4, h5, h6, _⟩ := open_mem hk.mem (.inl hh)
  have hlt : h < mem.length := (List.getElem?_eq_some_iff.1 hh).1
  have k2 := ok_ext hk (h6 hh) (by rw [opM_len]; exact Nat.le_add_right _ 3)
  exact ⟨b, vals, h4, h5, ok_map (opA_ok (h := h) (k := mem.length) (b := b) (by rw [extE_lt hlt]; exact h2) h3 (by have := extE_ge (env := env) (m := mem.length) (vals := vals) 0; rw [Nat.add_zero] at this; rw [this]; exact h4)) k2⟩
theorem openR_ok (hk : Ok cx env ⟨tm, mem⟩ act w) (hh : mem[h]? = some (.roabs (TA pin (.node a n u x l r)))) : ∃ b vals, vals[0]? = some (pB b) ∧ (∀ v, pin = some v → v = pB b) ∧ Ok cx (extE env mem.length vals) (St.map (opA h mem.length) ⟨tm, opMr h mem a n u x l r⟩) act w := by
  obtain ⟨b, vals, h1, ⟨vs, h2, h3⟩, h4, h5, _, h6⟩ := open_mem hk.mem (.inr hh)
  have hlt : h < mem.length := (List.getElem?_eq_some_iff.1 hh).1
  have k2 := ok_ext hk (h6 hh) (by rw [opMr_len]; exact Nat.le_add_right _ 3)
  exact ⟨b, vals, h4, h5, ok_map (opA_ok (h := h) (k := mem.length) (b := b) (by rw [extE_lt hlt]; exact h2) h3 (by have := extE_ge (env := env) (m := mem.length) (vals := vals) 0; rw [Nat.add_zero] at this; rw [this]; exact h4)) k2⟩
theorem nil_ok {st : St} (hk : Ok cx env st act w) (hh : st.mem[h]? = some (.abs (TA pin .nil)) ∨ st.mem[h]? = some (.roabs (TA pin .nil))) : Ok cx env (St.map (nlA h) st) act w := by
  have : ∃ vs, env h = some (.tuple vs) ∧ (TA pin .nil).R vs w := by
    rcases hh with hh | hh
    · exact hk.mem.ok h _ hh
    · exact hk.mem.ok h _ hh
  obtain ⟨vs, e1, v, F, rfl, ⟨rfl, rfl⟩, _⟩ := this
  exact ok_map (nlA_ok e1 rfl) hk
theorem nn_ok {st : St} (hk : Ok cx env st act w) (hh : st.mem[h]? = some (.abs (TA pin (.node a n u x l r))) ∨ st.mem[h]? = some (.roabs (TA pin (.node a n u x l r)))) : Ok cx env (St.map (nnA h) st) act w := by
  have : ∃ vs, env h = some (.tuple vs) ∧ (TA pin (.node a n u x l r)).R vs w := by
    rcases hh with hh | hh
    · exact hk.mem.ok h _ hh
    · exact hk.mem.ok h _ hh
  obtain ⟨vs, e1, v, F, rfl, ⟨b, vl, vr, Fl, Fr, rfl, _⟩, _⟩ := this
  exact ok_map (nnA_ok e1 rfl) hk
end
section
variable {m0 : Nat} {tm : List SV} {mem : List Seg} {h : Nat} {pin : Option Value} {a n : Int} {u : Bool} {x : Int} {l r : PT}
theorem open_tran (hh : mem[h]? = some (.abs (TA pin (.node a n u x l r)))) : Tran m0 ⟨tm, mem⟩ (St.map (opA h mem.length) ⟨tm, opM h mem a n u x l r⟩) := fun cx env act w _ hk => by
  obtain ⟨b, vals, _, _, k⟩ := open_ok hk hh
  exact ⟨_, k⟩
theorem openR_tran (hh : mem[h]? = some (.roabs (TA pin (.node a n u x l r)))) : Tran m0 ⟨tm, mem⟩ (St.map (opA h mem.length) ⟨tm, opMr h mem a n u x l r⟩) := fun cx env act w _ hk => by
  obtain ⟨b, vals, _, _, k⟩ := openR_ok hk hh
  exact ⟨_, k⟩
theorem nil_tran {st : St} (hh : st.mem[h]? = some (.abs (TA pin .nil)) ∨ st.mem[h]? = some (.roabs (TA pin .nil))) : Tran m0 st (St.map (nlA h) st) := fun cx env act w _ hk => ⟨_, nil_ok hk hh⟩
theorem nn_tran {st : St} (hh : st.mem[h]? = some (.abs (TA pin (.node a n u x l r))) ∨ st.mem[h]? = some (.roabs (TA pin (.node a n u x l r)))) : Tran m0 st (St.map (nnA h) st) := fun cx env act w _ hk => ⟨_, nn_ok hk hh⟩
end
/-! shutting -/
/-- A kid of a node: a tree that is told by a handle, or nothing. -/
def KidAt (mem : List Seg) (c : At) (t : PT) : Option Nat → Prop
  | some i => ∃ pin, mem[i]? = some (.abs (TA pin t)) ∧ ((∃ nn, c = .root i 0 nn) ∨ ∃ v, c = .val v ∧ pin = some v)
  | none => t = .nil ∧ c = .val (.pointer none)
theorem kid_at {env : Env} {mem : List Seg} {w0 w : World} {S : Nat → Prop} (hm : MemOk env mem w0 w S) {c : At} {t : PT} {o : Option Nat} (hk : KidAt mem c t o) {v : Value} (hv : c.rel env v) :
    ∃ F, TrW w t v F ∧ (∀ b, b ∈ F → ∃ i A, o = some i ∧ mem[i]? = some (.abs A) ∧ blk env i b) := by
  cases o with
  | none =>
    obtain ⟨rfl, rfl⟩ := hk
    exact ⟨[], ⟨hv, rfl⟩, fun b hb => by cases hb⟩
  | some i =>
    obtain ⟨pin, h1, h2⟩ := hk
    obtain ⟨vs, e1, v', F, rfl, ht, hp⟩ := hm.ok i _ h1
    have hv' : v = v' := by
      rcases h2 with ⟨nn, rfl⟩ | ⟨u, rfl, rfl⟩
      · obtain ⟨vs', ao, q1, q2, q3, _⟩ := hv
        rw [e1] at q1; cases q1
        rw [trV_0] at q2
        exact (Option.some.inj q2).symm
      · rw [hp u rfl]; exact hv
    subst hv'
    exact ⟨F, ht, fun b hb => ⟨i, _, rfl, h1, by rw [blk_some e1]; exact (trV_blks ht.root b).2 hb⟩⟩
def clA (k K : Nat) : At → At
  | .ptr h j => if Nat.beq h k && Nat.beq j 0 then .root K 0 true else .ptr h j
  | x => x
def clV (k : Nat) (v : Value) : At → At
  | .ptr h j => if Nat.beq h k && Nat.beq j 0 then .val v else .ptr h j
  | x => x
theorem clA_ok {env : Env} {k K : Nat} {vs : Array Value} {b : Nat} (h1 : env K = some (.tuple vs)) (h2 : vs[0]? = some (pB b)) (h3 : env k = some (pB b)) (x : At) (v : Value) (hx : x.rel env v) : (clA k K x).rel env v := by
  unfold clA
  split
  · split
    · rename_i e
      rw [Bool.and_eq_true] at e
      have e1 := Nat.eq_of_beq_eq_true e.1
      have e2 := Nat.eq_of_beq_eq_true e.2
      subst e1; subst e2
      obtain ⟨u, a, q1, q2, q3⟩ := hx
      rw [h3] at q1; cases q1
      simp only [baseOf, Option.some.injEq] at q2
      subst q2
      rw [q3]
      exact ⟨vs, _, h1, h2, rfl, fun _ => by simp⟩
    · exact hx
  · exact hx
theorem clV_ok {env : Env} {k : Nat} {b : Nat} (h3 : env k = some (pB b)) (x : At) (v : Value) (hx : x.rel env v) : (clV k (pB b) x).rel env v := by
  unfold clV
  split
  · split
    · rename_i e
      rw [Bool.and_eq_true] at e
      have e1 := Nat.eq_of_beq_eq_true e.1
      have e2 := Nat.eq_of_beq_eq_true e.2
      subst e1; subst e2
      obtain ⟨u, a, q1, q2, q3⟩ := hx
      rw [h3] at q1; cases q1
      simp only [baseOf, Option.some.injEq] at q2
      subst q2
      exact q3
    · exact hx
  · exact hx
def clH (k : Nat) (ol orr : Option Nat) : List Nat := k :: (ol.toList ++ orr.toList)
section
variable {env : Env} {mem : List Seg} {w0 w : World} {S : Nat → Prop} {k : Nat} {a n : Int} {u : Bool} {x : Int} {cl cr : At} {l r : PT} {ol orr : Option Nat}
theorem shut_mem (hm : MemOk env mem w0 w S) (hb : mem[k]? = some (.box tNd (ndA a n u x cl cr))) (hl : KidAt mem cl l ol) (hr : KidAt mem cr r orr) (h1 : ol ≠ some k) (h2 : orr ≠ some k) (h3 : ∀ i, ol = some i → orr ≠ some i) :
    ∃ b F, env k = some (pB b) ∧ ∀ pin, (∀ v, pin = some v → v = pB b) → MemOk (extE env mem.length [.tuple (trV (pB b) F)]) (dropAll mem (clH k ol orr) ++ [.abs (TA pin (.node a n u x l r))]) w0 w S := by
  obtain ⟨b, cs, e1, e2, e3⟩ := hm.ok k _ hb
  have hbk : ∀ c, blk env k c ↔ c = b := fun c => by rw [blk_some e1]; simp [blksOf, baseOf]
  obtain ⟨vl, vr, ecs, rl, rr⟩ : ∃ vl vr, cs = ndC a n u x vl vr ∧ cl.rel env vl ∧ cr.rel env vr := by
    have : ∀ cl' : List Value, AllRel env (ndA a n u x cl cr) cl' → ∃ vl vr, cl' = (ndC a n u x vl vr).toList ∧ cl.rel env vl ∧ cr.rel env vr := by
      intro L hL
      match L, hL with
      | [p, q, s, t, vl, vr], ⟨h1, h2, h3, h4, h5, h6, _⟩ =>
        have h1 : p = _ := h1
        have h2 : q = _ := h2
        have h3 : s = _ := h3
        have h4 : t = _ := h4
        exact ⟨vl, vr, by rw [h1, h2, h3, h4], h5, h6⟩
    obtain ⟨vl, vr, q1, q2, q3⟩ := this _ e3
    exact ⟨vl, vr, by rw [← Array.toArray_toList (xs := cs), q1], q2, q3⟩
  subst ecs
  obtain ⟨Fl, tl, bl⟩ := kid_at hm hl rl
  obtain ⟨Fr, tr, br⟩ := kid_at hm hr rr
  have nbl : b ∉ Fl := fun q => by
    obtain ⟨i, A, rfl, i2, i3⟩ := bl b q
    exact hm.sep k i _ _ b hb i2 (fun e => h1 (by rw [e])) rfl trivial ((hbk b).2 rfl) i3
  have nbr : b ∉ Fr := fun q => by
    obtain ⟨i, A, rfl, i2, i3⟩ := br b q
    exact hm.sep k i _ _ b hb i2 (fun e => h2 (by rw [e])) rfl trivial ((hbk b).2 rfl) i3
  have dlr : ∀ c, c ∈ Fl → c ∉ Fr := fun c q q' => by
    obtain ⟨i, A, rfl, i2, i3⟩ := bl c q
    obtain ⟨j, B, rfl, j2, j3⟩ := br c q'
    exact hm.sep i j _ _ c i2 j2 (fun e => h3 i rfl (by rw [e])) rfl trivial i3 j3
  have hnd : (b :: (Fl ++ Fr)).Nodup := by
    rw [List.nodup_cons, List.nodup_append]
    refine ⟨fun q => ?_, tl.nodup, tr.nodup, fun c hc d hd e => dlr c hc (e ▸ hd)⟩
    rcases List.mem_append.1 q with q | q
    · exact nbl q
    · exact nbr q
  have hT : TrW w (.node a n u x l r) (pB b) (b :: (Fl ++ Fr)) := ⟨b, vl, vr, Fl, Fr, rfl, e2, rfl, hnd, tl, tr⟩
  refine ⟨b, b :: (Fl ++ Fr), e1, fun pin hp => MemOk.recast hm (clH k ol orr) _ _ rfl ?_ ?_ ?_⟩
  · intro i s hi
    match i, hi with
    | 0, hi => cases hi; exact ⟨_, extE_ge 0, pB b, _, rfl, hT, fun v hv => (hp v hv).symm⟩
  · intro i s v c hi hv hc
    match i, hi, hv with
    | 0, hi, hv =>
      cases hi; cases hv
      have hc := (trV_blks hT.root c).1 hc
      rcases List.mem_cons.1 hc with rfl | hc
      · exact ⟨k, _, by simp [clH], hb, (hbk c).2 rfl, fun _ => rfl, trivial⟩
      · rcases List.mem_append.1 hc with hc | hc
        · obtain ⟨i, A, rfl, i2, i3⟩ := bl c hc
          exact ⟨i, _, by simp [clH], i2, i3, fun _ => rfl, trivial⟩
        · obtain ⟨i, A, rfl, i2, i3⟩ := br c hc
          exact ⟨i, _, by simp [clH], i2, i3, fun _ => rfl, trivial⟩
  · intro i i' s s' v v' c hi hi' _ _ hne
    match i, i', hi, hi' with
    | 0, 0, _, _ => exact (hne rfl).elim
/-- A node's box, and its kids, are a tree again. -/
theorem shut_tran {m0 : Nat} {tm : List SV} (hb : mem[k]? = some (.box tNd (ndA a n u x cl cr))) (hl : KidAt mem cl l ol) (hr : KidAt mem cr r orr) (h1 : ol ≠ some k) (h2 : orr ≠ some k) (h3 : ∀ i, ol = some i → orr ≠ some i) :
    Tran m0 ⟨tm, mem⟩ (St.map (clA k mem.length) ⟨tm, dropAll mem (clH k ol orr) ++ [.abs (TA none (.node a n u x l r))]⟩) := fun cx env act w _ hk => by
  obtain ⟨b, F, e1, hM⟩ := shut_mem hk.mem hb hl hr h1 h2 h3
  have hlt : k < mem.length := (List.getElem?_eq_some_iff.1 hb).1
  have k2 := ok_ext hk (hM none (fun v hv => by cases hv)) (by simp [dropAll_len])
  have e0 := extE_ge (env := env) (m := mem.length) (vals := [.tuple (trV (pB b) F)]) 0
  rw [Nat.add_zero] at e0
  exact ⟨_, ok_map (clA_ok e0 rfl (by rw [extE_lt hlt]; exact e1)) k2⟩
/-- The same, its address told where it lies in memory. -/
theorem shutV_tran {m0 : Nat} {tm : List SV} (hb : mem[k]? = some (.box tNd (ndA a n u x cl cr))) (hl : KidAt mem cl l ol) (hr : KidAt mem cr r orr) (h1 : ol ≠ some k) (h2 : orr ≠ some k) (h3 : ∀ i, ol = some i → orr ≠ some i) :
    TranE m0 ⟨tm, mem⟩ (fun v => ⟨tm.map (SV.map (clA k mem.length)), (dropAll mem (clH k ol orr) ++ [Seg.abs (TA (some v) (.node a n u x l r))]).map (Seg.map (clV k v))⟩) := fun cx env act w _ hk => by
  obtain ⟨b, F, e1, hM⟩ := shut_mem hk.mem hb hl hr h1 h2 h3
  have hlt : k < mem.length := (List.getElem?_eq_some_iff.1 hb).1
  have k2 := ok_ext hk (hM (some (pB b)) (fun v hv => (Option.some.inj hv).symm)) (by simp [dropAll_len])
  have e0 := extE_ge (env := env) (m := mem.length) (vals := [.tuple (trV (pB b) F)]) 0
  rw [Nat.add_zero] at e0
  have ek : extE env mem.length [.tuple (trV (pB b) F)] k = some (pB b) := by rw [extE_lt hlt]; exact e1
  have m1 := ok_map (clA_ok e0 rfl ek) k2
  have m2 := ok_map (clV_ok ek) k2
  exact ⟨pB b, _, m1.defers, m1.tm, m2.mem, m2.long, m2.fix⟩
end
end Go.Proofs.Ytfienpkogkepkaa

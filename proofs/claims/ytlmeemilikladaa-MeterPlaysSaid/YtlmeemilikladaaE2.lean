/- A symbolic run of Go code: the operations that read or make memory. No condition. -/
import Derived.Test.YtlmeemilikladaaE1
import Derived.Maps.AppendAt
import Derived.Laws.MakeOwn
namespace Go.Proofs.Ytlmeemilikladaa
set_option linter.unusedVariables false
set_option linter.unusedSimpArgs false
namespace E
open Go.RowKit

/-! lists -/

def splice {α : Type} (l : List α) (o : Nat) (vs : List α) : List α := l.take o ++ vs ++ l.drop (o + vs.length)
theorem splice_get {α : Type} (l : List α) (o : Nat) (vs : List α) (h : o + vs.length ≤ l.length) (m : Nat) :
    (splice l o vs)[m]? = if m < o then l[m]? else if m < o + vs.length then vs[m - o]? else l[m]? := by
  unfold splice
  have ht : (l.take o).length = o := by simp; omega
  by_cases h1 : m < o
  · rw [if_pos h1, List.append_assoc, List.getElem?_append_left (by omega), List.getElem?_take, if_pos h1]
  · rw [if_neg h1]
    by_cases h2 : m < o + vs.length
    · rw [if_pos h2, List.append_assoc, List.getElem?_append_right (by omega), List.getElem?_append_left (by omega), ht]
    · rw [if_neg h2, List.getElem?_append_right (by simp; omega), List.getElem?_drop]
      congr 1
      simp only [List.length_append, ht]
      omega
theorem splice_length {α : Type} (l : List α) (o : Nat) (vs : List α) (h : o + vs.length ≤ l.length) : (splice l o vs).length = l.length := by
  unfold splice; simp; omega
theorem AllRel.splice {env : Env} {l m : List At} {vs us : List Value} (h : AllRel env l vs) (k : AllRel env m us) (o : Nat) : AllRel env (splice l o m) (splice vs o us) := by
  unfold E.splice
  rw [k.length]
  exact ((h.take o).append k).append (h.drop _)
def upd (g : Nat → List At) (i : Nat) (c : List At) : Nat → List At := fun k => if k = i then c else g k

theorem seg_get {α : Type} (l : List α) (a wd k : Nat) : ((l.drop a).take wd)[k]? = if k < wd then l[a + k]? else none := by
  rw [List.getElem?_take]; split <;> simp_all

theorem Elems.write {env : Env} {wd n : Nat} {g : Nat → List At} {cs vs : List Value} {m : List At} (h : Elems env wd n g cs) {i j : Nat} (hi : i < n) (k : AllRel env m vs) (hj : j + vs.length ≤ wd) (h1 : ∀ v ∈ vs, v.oneCell' = true) :
    Elems env wd n (upd g i (splice (g i) j m)) (splice cs (i * wd + j) vs) := by
  have hle : i * wd + wd ≤ n * wd := by
    have := Nat.mul_le_mul_right wd (show i + 1 ≤ n by omega)
    rw [Nat.add_mul] at this; omega
  have hfit : i * wd + j + vs.length ≤ cs.length := by rw [h.1]; omega
  refine ⟨by rw [splice_length _ _ _ hfit]; exact h.1, fun q hq => ?_, fun v hv => ?_⟩
  case refine_2 =>
    unfold splice at hv
    rcases List.mem_append.1 hv with hv | hv
    · rcases List.mem_append.1 hv with hv | hv
      · exact h.2.2 v (List.mem_of_mem_take hv)
      · exact h1 v hv
    · exact h.2.2 v (List.mem_of_mem_drop hv)
  have hlq : q * wd + wd ≤ n * wd := by
    have := Nat.mul_le_mul_right wd (show q + 1 ≤ n by omega)
    rw [Nat.add_mul] at this; omega
  by_cases e : q = i
  · subst e
    unfold upd
    rw [if_pos rfl]
    have hx : ((splice cs (q * wd + j) vs).drop (q * wd)).take wd = splice ((cs.drop (q * wd)).take wd) j vs := by
      apply List.ext_getElem?
      intro k
      rw [seg_get, splice_get _ _ _ hfit, splice_get _ _ _ (by simp; omega), seg_get]
      by_cases h1 : k < wd
      · rw [if_pos h1, if_pos h1]
        by_cases h2 : k < j
        · rw [if_pos h2, if_pos (by omega)]
        · rw [if_neg h2, if_neg (by omega)]
          by_cases h3 : k < j + vs.length
          · rw [if_pos h3, if_pos (by omega)]; congr 1; omega
          · rw [if_neg h3, if_neg (by omega)]
      · rw [if_neg h1, if_neg h1, if_neg (by omega), if_neg (by omega)]
    rw [hx]
    exact (h.2.1 q hq).splice k j
  · unfold upd
    rw [if_neg e]
    have hx : ((splice cs (i * wd + j) vs).drop (q * wd)).take wd = (cs.drop (q * wd)).take wd := by
      apply List.ext_getElem?
      intro k
      rw [seg_get, splice_get _ _ _ hfit, seg_get]
      by_cases h1 : k < wd
      · rw [if_pos h1, if_pos h1]
        rcases Nat.lt_or_gt_of_ne e with h4 | h4
        · have := Nat.mul_le_mul_right wd (show q + 1 ≤ i by omega)
          rw [Nat.add_mul] at this
          rw [if_pos (by omega)]
        · have := Nat.mul_le_mul_right wd (show i + 1 ≤ q by omega)
          rw [Nat.add_mul] at this
          rw [if_neg (by omega), if_neg (by omega)]
      · rw [if_neg h1, if_neg h1]
    rw [hx]
    exact h.2.1 q hq

theorem add_add (a : Addr) (m n : Nat) : (a.add m).add n = a.add (m + n) := by
  unfold Addr.add
  by_cases hm : m = 0 <;> by_cases hn : n = 0 <;> simp_all [Nat.add_assoc]

/-! looking at a cell -/

def look (mem : List Seg) : At → Option (List At × Nat × List Prop)
  | .ptr h j => match mem[h]? with
    | some (.box _ l) => some (l, j, [])
    | _ => none
  | .eptr h wd i j => match mem[h]? with
    | some (.ro wd' len g) => if wd = wd' then some (g i, j, [i < len]) else none
    | some (.row _ wd' n g) => if wd = wd' then some (g i, j, [i < n]) else none
    | _ => none
  | _ => none

section
variable {env : Env} {mem : List Seg} {w0 w : World} {S : Nat → Prop}

theorem look_sound {x : At} {p : Value} {l : List At} {j : Nat} {obl : List Prop} (h : look mem x = some (l, j, obl)) (ho : AllT obl) (hm : MemOk env mem w0 w S) (hx : x.rel env p) :
    ∃ (a : Addr) (cs : List Value), p = .pointer (some (a.add j)) ∧ AllRel env l cs ∧ ∀ k v, cs[k]? = some v → w.cell? (a.add k) = some v := by
  unfold look at h
  split at h
  · split at h
    · rename_i hd t l' hs
      simp only [Option.some.injEq, Prod.mk.injEq] at h
      obtain ⟨rfl, rfl, rfl⟩ := h
      obtain ⟨b, cs, h1, h2, h3⟩ := hm.ok _ _ hs
      obtain ⟨v, a, e1, e2, rfl⟩ := hx
      rw [h1] at e1
      obtain rfl := Option.some.inj e1
      simp [baseOf] at e2
      subst e2
      refine ⟨_, _, rfl, h3, fun k v hk => ?_⟩
      rw [add_eq, Nat.zero_add, cell_of_row w b k cs t (0, 0) h2]
      simpa using hk
    · cases h
  · rename_i hd wd i j'
    split at h
    · rename_i wd' len g hs
      split at h
      · rename_i e
        subst e
        simp only [Option.some.injEq, Prod.mk.injEq] at h
        obtain ⟨rfl, rfl, rfl⟩ := h
        simp only [AllT, and_true] at ho
        obtain ⟨ao, cap, cs, h1, h2, h3, h4, h5, h6⟩ := hm.ok _ _ hs
        obtain ⟨v, a, e1, e2, rfl⟩ := hx
        rw [h1] at e1
        obtain rfl := Option.some.inj e1
        simp only [baseOf] at e2
        subst e2
        refine ⟨a.add (i * wd), _, by rw [add_add], h5.2.1 i ho, fun k v hk => ?_⟩
        rw [seg_get] at hk
        split at hk
        · obtain ⟨a', ea, hc⟩ := h6 _ _ hk
          obtain rfl := Option.some.inj ea
          rw [add_add]; exact hc
        · cases hk
      · cases h
    · rename_i e wd' n g hs
      split at h
      · rename_i ee
        subst ee
        simp only [Option.some.injEq, Prod.mk.injEq] at h
        obtain ⟨rfl, rfl, rfl⟩ := h
        simp only [AllT, and_true] at ho
        obtain ⟨v, cs, h1, h2, h3⟩ := hm.ok _ _ hs
        obtain ⟨v', a, e1, e2, rfl⟩ := hx
        rw [h1] at e1
        obtain rfl := Option.some.inj e1
        refine ⟨a.add (i * wd), _, by rw [add_add], h3.2.1 i ho, fun k u hk => ?_⟩
        rw [seg_get] at hk
        split at hk
        · have hb : v.ownBlock = some a.block := own_base h2 (by rw [e2]; rfl)
          have hc := h2.cells hb _ _ hk
          have ea : a = ⟨a.block, 0, none⟩ := by
            rcases h2.2 with ⟨rfl, _⟩ | ⟨g', cap, cur, rfl, _⟩
            · simp [baseOf] at e2
            · simp [baseOf] at e2; rw [← e2]
          rw [add_add]
          rw [ea]
          exact hc
        · cases hk
      · cases h
    · cases h
  · cases h

def evLoad (P : Program) (t : TypeId) (mem : List Seg) (a : At) : Option (NV × List Prop) :=
  match look mem a, isAggB P t with
  | some (l, j, obl), some true => if ((l.drop j).take (P.cellsOf t)).length = P.cellsOf t then some (.agg ((l.drop j).take (P.cellsOf t)), obl) else none
  | some (l, j, obl), some false => match l[j]? with
    | some x => some (.one x, obl)
    | none => none
  | _, _ => none

theorem run_evLoad {P : Program} {t : TypeId} {x : At} {p : Value} {r : NV} {obl : List Prop} (h : evLoad P t mem x = some (r, obl)) (ho : AllT obl) (hm : MemOk env mem w0 w S) (hx : x.rel env p) :
    ∃ v, (Instr.loadAt t p).run P w = .ok v w ∧ r.rel env v := by
  unfold evLoad at h
  split at h
  · rename_i l j obl' hl hb
    split at h
    · rename_i hlen
      simp only [Option.some.injEq, Prod.mk.injEq] at h
      obtain ⟨rfl, rfl⟩ := h
      obtain ⟨a, cs, rfl, h1, h2⟩ := look_sound hl ho hm hx
      have hr := (h1.drop j).take (P.cellsOf t)
      have hn := hr.length.symm.trans hlen
      have hld := run_loadCells_list (P := P) w (a.add j) ((cs.drop j).take (P.cellsOf t)) (fun k v hk => by
        rw [seg_get] at hk
        split at hk
        · rw [add_add]; exact h2 _ _ hk
        · cases hk)
      rw [hn] at hld
      refine ⟨.agg ((cs.drop j).take (P.cellsOf t)).toArray, ?_, _, rfl, by simpa using hr⟩
      unfold Instr.loadAt Instr.sureAddr loadVar
      simp [run_isAggB hb, run_sizeOf_agg hb, hld]
    · cases h
  · rename_i l j obl' hl hb
    split at h
    · rename_i y hy
      simp only [Option.some.injEq, Prod.mk.injEq] at h
      obtain ⟨rfl, rfl⟩ := h
      obtain ⟨a, cs, rfl, h1, h2⟩ := look_sound hl ho hm hx
      obtain ⟨v, e1, e2⟩ := h1.get hy
      refine ⟨v, ?_, e2⟩
      unfold Instr.loadAt Instr.sureAddr loadVar
      simp [run_isAggB hb, h2 _ _ e1]
    · cases h
  · cases h

/-! storing -/

def At.one : At → Bool
  | .val (.agg _) => false
  | .val (.tuple _) => false
  | .any => false
  | _ => true
def NV.ok : NV → Bool
  | .one a => a.one
  | .agg l => l.all At.one
def cellsOf : NV → List At
  | .one a => [a]
  | .agg l => l
theorem At.one_rel {a : At} {v : Value} (h : a.one = true) (k : a.rel env v) : v.oneCell' = true := by
  cases a with
  | val u => cases k; cases v <;> simp_all [At.one, Value.oneCell']
  | ptr m j => obtain ⟨_, _, _, _, rfl⟩ := k; rfl
  | eptr m wd i j => obtain ⟨_, _, _, _, rfl⟩ := k; rfl
  | own m => obtain ⟨_, _, _, _, rfl⟩ := k; rfl
  | bit b => cases k; rfl
  | any => cases h
theorem oneCell_cells {v : Value} (h : v.oneCell' = true) : v.cells = #[v] := by
  cases v <;> simp_all [Value.oneCell', Value.cells]
theorem AllRel.one : ∀ {l : List At} {vs : List Value}, AllRel env l vs → l.all At.one = true → ∀ v ∈ vs, v.oneCell' = true
  | [], [], _, _ => fun v hv => by cases hv
  | a :: l, v :: vs, k, h => by
    simp only [List.all_cons, Bool.and_eq_true] at h
    intro u hu
    cases hu with
    | head => exact At.one_rel h.1 k.1
    | tail _ hu => exact AllRel.one k.2 h.2 u hu
theorem NV.cells_rel {x : NV} {v : Value} (h : x.ok = true) (k : x.rel env v) : AllRel env (cellsOf x) v.cells.toList ∧ ∀ u ∈ v.cells.toList, u.oneCell' = true := by
  cases x with
  | one a =>
    have h1 := At.one_rel (env := env) h k
    rw [oneCell_cells h1]
    exact ⟨⟨k, trivial⟩, by simpa using h1⟩
  | agg l =>
    obtain ⟨cs, rfl, k⟩ := k
    exact ⟨k, AllRel.one k h⟩

def evStore (P : Program) (t : TypeId) (mem : List Seg) (a : At) (x : NV) : Option (Nat × Seg × List Prop) :=
  if x.ok ∧ (P.info? t).isSome ∧ (cellsOf x).length = P.cellsOf t then
    match a with
    | .ptr h j => match mem[h]? with
      | some (.box t0 l) => if j + (cellsOf x).length ≤ l.length then some (h, .box t0 (splice l j (cellsOf x)), []) else none
      | _ => none
    | .eptr h wd i j => match mem[h]? with
      | some (.row e wd' n g) => if wd = wd' ∧ j + (cellsOf x).length ≤ wd then some (h, .row e wd' n (upd g i (splice (g i) j (cellsOf x))), [i < n]) else none
      | _ => none
    | _ => none
  else none

theorem evStore_excl {P : Program} {t : TypeId} {x : At} {y : NV} {hd : Nat} {s' : Seg} {obl : List Prop} (h : evStore P t mem x y = some (hd, s', obl)) : ∃ t, mem[hd]? = some t ∧ t.excl = true := by
  unfold evStore at h
  split at h
  · split at h
    · split at h
      · rename_i hs
        split at h
        · simp only [Option.some.injEq, Prod.mk.injEq] at h
          obtain ⟨rfl, rfl, rfl⟩ := h
          exact ⟨_, hs, rfl⟩
        · cases h
      · cases h
    · split at h
      · rename_i hs
        split at h
        · simp only [Option.some.injEq, Prod.mk.injEq] at h
          obtain ⟨rfl, rfl, rfl⟩ := h
          exact ⟨_, hs, rfl⟩
        · cases h
      · cases h
    · cases h
  · cases h

theorem run_sizeOf_info {P : Program} {t : TypeId} (h : (P.info? t).isSome = true) (w : World) : (sizeOf t).run P w = .ok (P.cellsOf t) w := by
  obtain ⟨i, hi⟩ := Option.isSome_iff_exists.1 h
  unfold sizeOf typeInfo
  simp [hi, Program.cellsOf]

theorem run_evStore {P : Program} {t : TypeId} {x : At} {y : NV} {p v : Value} {hd : Nat} {s' : Seg} {obl : List Prop} (h : evStore P t mem x y = some (hd, s', obl)) (ho : AllT obl) (hm : MemOk env mem w0 w S)
    (hx : x.rel env p) (hy : y.rel env v) : ∃ w', (Instr.storeAt t p v).run P w = .ok () w' ∧ MemOk env (mem.set hd s') w0 w' S := by
  unfold evStore at h
  split at h
  · rename_i hc
    obtain ⟨hok, hinfo, hlen⟩ := hc
    obtain ⟨hcr, hc1⟩ := NV.cells_rel (env := env) hok hy
    have hvl : v.cells.toList.length = P.cellsOf t := by rw [← hcr.length]; exact hlen
    have hvs : v.cells.size = P.cellsOf t := by simpa using hvl
    split at h
    · rename_i h0 j
      split at h
      · rename_i t0 l hs
        split at h
        · rename_i hfit
          simp only [Option.some.injEq, Prod.mk.injEq] at h
          obtain ⟨rfl, rfl, rfl⟩ := h
          obtain ⟨b, cs, h1, h2, h3⟩ := hm.ok _ _ hs
          obtain ⟨u, a, e1, e2, rfl⟩ := hx
          rw [h1] at e1
          obtain rfl := Option.some.inj e1
          simp [baseOf] at e2
          subst e2
          have hf : j + v.cells.toList.length ≤ cs.size := by
            have := h3.length
            have := hcr.length
            simp at *
            omega
          have hst : (storeCells ⟨b, j, none⟩ v.cells.toList).run P w = .ok () (w.setRow b (splice cs.toList j v.cells.toList).toArray) := by
            have := run_storeCells_at P b j t0 v.cells.toList 0 cs w h2 (by simpa using hf) hc1
            simpa [splice] using this
          refine ⟨w.setRow b (splice cs.toList j v.cells.toList).toArray, ?_, ?_⟩
          · unfold Instr.storeAt Instr.sureAddr storeVar
            simp only [Sem.run_bind, Sem.run_pure, Result.andThen_ok, run_sizeOf_info hinfo, hvs, ne_eq, not_true_eq_false, if_false, add_eq, Nat.zero_add]
            exact hst
          · refine hm.write _ _ _ b hs (by simp [blk, h1, baseOf]) rfl rfl rfl rfl (by simp [World.setRow]) (fun k _ hk => setRow_other w b k _ hk) ?_
            refine ⟨b, _, h1, setRow_heap w b cs _ t0 (0, 0) h2, ?_⟩
            exact h3.splice hcr j
        · cases h
      · cases h
    · rename_i h0 wd i j
      split at h
      · rename_i e wd' n g hs
        split at h
        · rename_i hfit
          obtain ⟨rfl, hfit⟩ := hfit
          simp only [Option.some.injEq, Prod.mk.injEq] at h
          obtain ⟨rfl, rfl, rfl⟩ := h
          simp only [AllT, and_true] at ho
          obtain ⟨u, cs, h1, h2, h3⟩ := hm.ok _ _ hs
          obtain ⟨u', a, e1, e2, rfl⟩ := hx
          rw [h1] at e1
          obtain rfl := Option.some.inj e1
          have hbk : u.ownBlock = some a.block := own_base h2 (by rw [e2]; rfl)
          obtain ⟨hxl, h2'⟩ := h2
          rcases h2' with ⟨rfl, _⟩ | ⟨b, cap, cur, rfl, hb0, hg, hnc, hcm, hcs, htake⟩
          · simp [baseOf] at e2
          simp [baseOf] at e2
          subst e2
          have hcl : cs.length = n * wd := hxl
          have hle : i * wd + wd ≤ n * wd := by
            have := Nat.mul_le_mul_right wd (show i + 1 ≤ n by omega)
            rw [Nat.add_mul] at this; omega
          have hnw : n * wd ≤ cap * wd := Nat.mul_le_mul_right wd hnc
          have hfit' : j + v.cells.toList.length ≤ wd := by rw [← hcr.length]; exact hfit
          have hf : i * wd + j + v.cells.toList.length ≤ cur.size := by omega
          have hst : (storeCells ⟨b, i * wd + j, none⟩ v.cells.toList).run P w = .ok () (w.setRow b (splice cur.toList (i * wd + j) v.cells.toList).toArray) := by
            have := run_storeCells_at P b (i * wd + j) e v.cells.toList 0 cur w hg (by simpa using hf) hc1
            simpa [splice] using this
          refine ⟨w.setRow b (splice cur.toList (i * wd + j) v.cells.toList).toArray, ?_, ?_⟩
          · unfold Instr.storeAt Instr.sureAddr storeVar
            simp only [Sem.run_bind, Sem.run_pure, Result.andThen_ok, run_sizeOf_info hinfo, hvs, ne_eq, not_true_eq_false, if_false, add_eq, Nat.zero_add]
            exact hst
          · refine hm.write _ _ _ b hs (by simp [blk, h1, baseOf]) rfl rfl rfl rfl (by simp [World.setRow]) (fun k _ hk => setRow_other w b k _ hk) ?_
            have hel := h3.write (i := i) (j := j) ho hcr hfit' hc1
            refine ⟨_, splice cs (i * wd + j) v.cells.toList, h1, ⟨hel.1, .inr ⟨b, cap, _, rfl, hb0, setRow_heap w b cur _ e (0, 0) hg, hnc, hcm, ?_, ?_⟩⟩, hel⟩
            · have := splice_length cur.toList (i * wd + j) v.cells.toList (by simpa using hf)
              simpa [hcs] using this
            · rw [← htake]
              apply List.ext_getElem?
              intro k
              have hf2 : i * wd + j + v.cells.toList.length ≤ (cur.toList.take (n * wd)).length := by
                have : (cur.toList.take (n * wd)).length = n * wd := by simp; omega
                omega
              have hk1 := splice_get cur.toList (i * wd + j) v.cells.toList (by simpa using hf) k
              have hk2 := splice_get (cur.toList.take (n * wd)) (i * wd + j) v.cells.toList hf2 k
              rw [hk2]
              rw [List.getElem?_take, hk1]
              by_cases q1 : k < n * wd
              · rw [if_pos q1]
                by_cases q2 : k < i * wd + j
                · rw [if_pos q2, if_pos q2, List.getElem?_take, if_pos q1]
                · rw [if_neg q2, if_neg q2]
                  by_cases q3 : k < i * wd + j + v.cells.toList.length
                  · rw [if_pos q3, if_pos q3]
                  · rw [if_neg q3, if_neg q3, List.getElem?_take, if_pos q1]
              · rw [if_neg q1, if_neg (by omega), if_neg (by omega), List.getElem?_take, if_neg q1]
        · cases h
      · cases h
    · cases h
  · cases h
end

/-! addresses -/

def evFieldAddr (P : Program) (s : TypeId) (f : Nat) : At → Option At
  | .ptr h j => match P.underlying s with
    | some (.struct fs) => match fs[f]? with
      | some x => if (P.info? x.type).isSome ∧ P.cellsOf x.type ≠ 0 then some (.ptr h (j + x.offset)) else none
      | none => none
    | _ => none
  | .eptr h wd i j => match P.underlying s with
    | some (.struct fs) => match fs[f]? with
      | some x => if (P.info? x.type).isSome ∧ P.cellsOf x.type ≠ 0 then some (.eptr h wd i (j + x.offset)) else none
      | none => none
    | _ => none
  | _ => none
theorem run_evFieldAddr {P : Program} {env : Env} {s : TypeId} {f : Nat} {x r : At} {p : Value} (h : evFieldAddr P s f x = some r) (hx : x.rel env p) (w : World) :
    ∃ v, (Instr.fieldAt s p f).run P w = .ok v w ∧ r.rel env v := by
  unfold evFieldAddr at h
  split at h
  · split at h
    · rename_i fs hu
      split at h
      · rename_i fd hf
        split at h
        · rename_i hc
          simp only [Option.some.injEq] at h; subst h
          obtain ⟨v, a, e1, e2, rfl⟩ := hx
          refine ⟨_, ?_, v, a, e1, e2, rfl⟩
          unfold Instr.fieldAt Instr.sureAddr fieldPlace
          simp [run_underlying hu, hf, run_sizeOf_info hc.1, hc.2, add_add]
        · cases h
      · cases h
    · cases h
  · split at h
    · rename_i fs hu
      split at h
      · rename_i fd hf
        split at h
        · rename_i hc
          simp only [Option.some.injEq] at h; subst h
          obtain ⟨v, a, e1, e2, rfl⟩ := hx
          refine ⟨_, ?_, v, a, e1, e2, rfl⟩
          unfold Instr.fieldAt Instr.sureAddr fieldPlace
          simp [run_underlying hu, hf, run_sizeOf_info hc.1, hc.2, add_add, Nat.add_assoc]
        · cases h
      · cases h
    · cases h
  · cases h

def evIndexAddr (P : Program) (t : TypeId) (mem : List Seg) (x : At) (i : Int) : Option (At × List Prop) :=
  match P.underlying t, x with
  | some (.array n e), .ptr h j => if (P.info? e).isSome then some (.ptr h (j + i.toNat * P.cellsOf e), [0 ≤ i, i < n]) else none
  | some (.array n e), .eptr h wd q j => if (P.info? e).isSome then some (.eptr h wd q (j + i.toNat * P.cellsOf e), [0 ≤ i, i < n]) else none
  | some (.slice e), .own h => match mem[h]? with
    | some (.ro wd len g) => if (P.info? e).isSome ∧ wd = P.cellsOf e then some (.eptr h wd i.toNat 0, [0 ≤ i, i < len]) else none
    | some (.row _ wd n g) => if (P.info? e).isSome ∧ wd = P.cellsOf e then some (.eptr h wd i.toNat 0, [0 ≤ i, i < n]) else none
    | _ => none
  | _, _ => none
theorem run_evIndexAddr {P : Program} {env : Env} {mem : List Seg} {w0 w : World} {S : Nat → Prop} {t : TypeId} {k : IntKind} {i : Int} {x r : At} {p : Value} {obl : List Prop} (h : evIndexAddr P t mem x i = some (r, obl)) (ho : AllT obl)
    (hm : MemOk env mem w0 w S) (hx : x.rel env p) : ∃ v, (Instr.indexAt t p (.int k i)).run P w = .ok v w ∧ r.rel env v := by
  unfold evIndexAddr at h
  split at h
  · rename_i n e hd j hu
    split at h
    · rename_i hi
      simp only [Option.some.injEq, Prod.mk.injEq] at h
      obtain ⟨rfl, rfl⟩ := h
      simp only [AllT, and_true] at ho
      obtain ⟨v, a, e1, e2, rfl⟩ := hx
      refine ⟨_, ?_, v, a, e1, e2, rfl⟩
      unfold Instr.indexAt Instr.sureAddr
      simp [asIntOf, run_underlying hu, ho.1, ho.2, run_sizeOf_info hi, add_add]
    · cases h
  · rename_i n e hd wd q j hu
    split at h
    · rename_i hi
      simp only [Option.some.injEq, Prod.mk.injEq] at h
      obtain ⟨rfl, rfl⟩ := h
      simp only [AllT, and_true] at ho
      obtain ⟨v, a, e1, e2, rfl⟩ := hx
      refine ⟨_, ?_, v, a, e1, e2, rfl⟩
      unfold Instr.indexAt Instr.sureAddr
      simp [asIntOf, run_underlying hu, ho.1, ho.2, run_sizeOf_info hi, add_add, Nat.add_assoc]
    · cases h
  · rename_i e hd hu
    split at h
    · rename_i wd len g hs
      split at h
      · rename_i hc
        obtain ⟨hi, rfl⟩ := hc
        simp only [Option.some.injEq, Prod.mk.injEq] at h
        obtain ⟨rfl, rfl⟩ := h
        simp only [AllT, and_true] at ho
        obtain ⟨ao, cap, cs, h1, h2, h3, h4, h5, h6⟩ := hm.ok _ _ hs
        obtain ⟨hx, _⟩ := hx
        rw [h1] at hx
        obtain rfl := Option.some.inj hx
        cases ao with
        | none => have := (h4 rfl).1; omega
        | some a =>
          refine ⟨_, ?_, _, a, h1, rfl, rfl⟩
          unfold Instr.indexAt
          simp [asIntOf, run_underlying hu, ho.1, ho.2, run_sizeOf_info hi]
      · cases h
    · rename_i e' wd n g hs
      split at h
      · rename_i hc
        obtain ⟨hi, rfl⟩ := hc
        simp only [Option.some.injEq, Prod.mk.injEq] at h
        obtain ⟨rfl, rfl⟩ := h
        simp only [AllT, and_true] at ho
        obtain ⟨v, cs, h1, h2, h3⟩ := hm.ok _ _ hs
        obtain ⟨hx, _⟩ := hx
        rw [h1] at hx
        obtain rfl := Option.some.inj hx
        rcases h2.2 with ⟨rfl, h0⟩ | ⟨b, cap, cur, rfl, _⟩
        · omega
        refine ⟨_, ?_, _, _, h1, rfl, rfl⟩
        unfold Instr.indexAt
        simp [asIntOf, run_underlying hu, ho.1, ho.2, run_sizeOf_info hi]
      · cases h
    · cases h
  · cases h
end E
end Go.Proofs.Ytlmeemilikladaa

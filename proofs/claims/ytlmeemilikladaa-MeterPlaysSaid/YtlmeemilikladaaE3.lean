/- A symbolic run of Go code: the operations that make memory, and the builtins. No condition. -/
import Derived.Test.YtlmeemilikladaaE2
import Derived.Great.BuildSlice
namespace Go.Proofs.Ytlmeemilikladaa
set_option linter.unusedVariables false
set_option linter.unusedSimpArgs false
namespace E
open Go.RowKit

inductive Eff where
  | none
  | new (s : Seg)
  | set (h : Nat) (s : Seg)
  | app (h : Nat) (s : Seg)
def Eff.makes : Eff → Bool
  | .new _ | .app _ _ => true
  | _ => false
def Eff.apply (nh : Nat) (mem : List Seg) : Eff → List Seg
  | .none => mem
  | .new s => mem.set nh s
  | .set h s => mem.set h s
  | .app h s => (mem.set h .gone).set nh s

section
variable {P : Program} {env : Env} {mem : List Seg} {w0 w : World} {S : Nat → Prop} {nh : Nat}

/-- What an operation leaves: env' knows the new handle besides. -/
structure After (env env' : Env) (eff : Eff) (mem : List Seg) (w0 w' : World) (S : Nat → Prop) (nh : Nat) : Prop where
  le : env.le env'
  other : ∀ k, k ≠ nh → env' k = env k
  ok : MemOk env' (eff.apply nh mem) w0 w' S
  same : eff.makes = false → env' = env
  wr : ∀ h s, eff = .set h s → ∃ t, mem[h]? = some t ∧ t.excl = true
theorem After.same' (h : MemOk env mem w0 w S) : After env env .none mem w0 w S nh := ⟨Env.le_refl _, fun _ _ => rfl, h, fun _ => rfl, fun _ _ e => by cases e⟩

/-! boxes -/
theorem box_ok (hm : MemOk env mem w0 w S) (hg : mem[nh]? = some .gone) (hn : env nh = none) (t : TypeId) {l : List At} {cs : Array Value} (hl : AllRel env l cs.toList) :
    After env (env.put nh (.pointer (some ⟨w.heap.size, 0, none⟩))) (.new (.box t l)) mem w0 (w.alloc (.cells cs t)) S nh := by
  refine ⟨Env.le_put hn, fun k hk => Env.put_other _ hk, hm.fill nh _ _ hg hn ((Ext.refl w).alloc _) (fun b hb => by simp [baseOf] at hb; omega) ?_, (fun h => by cases h), fun _ _ e => by cases e⟩
  exact ⟨w.heap.size, cs, Env.put_same _ _, heap_alloc_new w _, hl.le (Env.le_put hn)⟩

def evBox (t : TypeId) (x : NV) (nh : Nat) : Option (SV × Eff) :=
  if x.ok then some (.nv (.one (.ptr nh 0)), .new (.box t (cellsOf x))) else none
theorem run_evBox {t : TypeId} {x : NV} {v : Value} {r : SV} {eff : Eff} (h : evBox t x nh = some (r, eff)) (hm : MemOk env mem w0 w S) (hg : mem[nh]? = some .gone) (hn : env nh = none) (hx : x.rel env v) :
    ∃ u env' w', (Instr.box t v).run P w = .ok u w' ∧ r.rel env' u ∧ After env env' eff mem w0 w' S nh := by
  unfold evBox at h
  split at h
  · rename_i hok
    simp only [Option.some.injEq, Prod.mk.injEq] at h
    obtain ⟨rfl, rfl⟩ := h
    refine ⟨.pointer (some ⟨w.heap.size, 0, none⟩), _, _, ?_, ?_, box_ok hm hg hn t (NV.cells_rel hok hx).1⟩
    · simp only [Instr.box, newVar, newRow, Sem.run_bind, run_newObj, Result.andThen_ok, Sem.run_pure]; rfl
    · exact ⟨_, _, Env.put_same _ _, rfl, by simp [Addr.add]⟩
  · cases h

def zeroOf (P : Program) (t : TypeId) : Option Value := match P.info? t with | some i => i.zero | none => none
theorem run_zeroOf {t : TypeId} {z : Value} (h : zeroOf P t = some z) (w : World) : (zeroValue t).run P w = .ok z w := by
  unfold zeroOf at h
  split at h
  · rename_i i hi; simp [zeroValue, typeInfo, hi, h]
  · cases h
def evAlloc (P : Program) (t : TypeId) (nh : Nat) : Option (SV × Eff) :=
  match zeroOf P t with
  | some z => some (.nv (.one (.ptr nh 0)), .new (.box t (z.cells.toList.map .val)))
  | none => none
theorem run_evAlloc {t : TypeId} {r : SV} {eff : Eff} (h : evAlloc P t nh = some (r, eff)) (hm : MemOk env mem w0 w S) (hg : mem[nh]? = some .gone) (hn : env nh = none) :
    ∃ u env' w', (Instr.alloc t true (.tuple #[])).run P w = .ok u w' ∧ r.rel env' u ∧ After env env' eff mem w0 w' S nh := by
  unfold evAlloc at h
  split at h
  · rename_i z hz
    simp only [Option.some.injEq, Prod.mk.injEq] at h
    obtain ⟨rfl, rfl⟩ := h
    refine ⟨.pointer (some ⟨w.heap.size, 0, none⟩), _, _, ?_, ?_, box_ok hm hg hn t (cs := z.cells) (AllRel.vals _)⟩
    · simp only [Instr.alloc, run_zeroOf hz, newVar, newRow, Sem.run_bind, run_newObj, Result.andThen_ok, Sem.run_pure]; rfl
    · exact ⟨_, _, Env.put_same _ _, rfl, by simp [Addr.add]⟩
  · cases h

/-! literals -/
def AllParts (env : Env) : List (Nat × NV) → List (Nat × Value) → Prop
  | [], [] => True
  | (i, x) :: l, (j, v) :: m => i = j ∧ x.rel env v ∧ AllParts env l m
  | _, _ => False

def evFill (place : Nat → Option (Nat × Nat)) (cells : List At) : List (Nat × NV) → Option (List At)
  | [] => some cells
  | (i, x) :: rest =>
    match place i with
    | none => none
    | some (off, size) => if x.ok ∧ (cellsOf x).length = size ∧ off + (cellsOf x).length ≤ cells.length then evFill place (splice cells off (cellsOf x)) rest else none

theorem foldl_splice (off : Nat) (vs cs : Array Value) (h : off + vs.size ≤ cs.size) :
    (vs.zipIdx.foldl (fun cs (c, j) => cs.setIfInBounds (off + j) c) cs).toList = splice cs.toList off vs.toList := by
  apply List.ext_getElem?
  intro k
  rw [← Array.foldl_toList, Array.toList_zipIdx]
  obtain ⟨h1, h2⟩ := Great.foldl_set off vs.toList 0 cs
  have hk := h2 k
  rw [splice_get _ _ _ (by simpa using h)]
  rw [Array.getElem?_toList]
  refine Eq.trans hk ?_
  simp only [Nat.add_zero, Array.length_toList, Array.getElem?_toList]
  by_cases q1 : k < off
  · rw [if_neg (by omega), if_pos q1]
  · rw [if_neg q1]
    by_cases q2 : k < off + vs.size
    · rw [if_pos q2, if_pos (by omega)]
    · rw [if_neg q2, if_neg (by omega)]

theorem evFill_sound {place : Nat → Option (Nat × Nat)} : ∀ {ps : List (Nat × NV)} {qs : List (Nat × Value)} {l r : List At} {cs : Array Value}, evFill place l ps = some r → AllRel env l cs.toList → AllParts env ps qs →
    (∀ v ∈ cs.toList, v.oneCell' = true) →
    ∃ c : Array Value, Instr.fill place cs qs = some c ∧ AllRel env r c.toList ∧ (∀ v ∈ c.toList, v.oneCell' = true)
  | [], [], l, r, cs, h, hl, _, h1 => by
    simp only [evFill, Option.some.injEq] at h
    subst h
    exact ⟨cs, rfl, hl, h1⟩
  | (i, x) :: ps, (j, v) :: qs, l, r, cs, h, hl, hp, h1 => by
    obtain ⟨rfl, hx, hp⟩ := hp
    unfold evFill at h
    unfold Instr.fill
    split at h
    · cases h
    · rename_i off size hpl
      rw [hpl]
      simp only
      split at h
      · rename_i hc
        obtain ⟨hok, hsz, hfit⟩ := hc
        obtain ⟨hr, ho⟩ := NV.cells_rel hok hx
        have e1 := hr.length
        have e2 := hl.length
        simp only [Array.length_toList] at e1 e2
        have c1 : ¬ ((decide (v.cells.size ≠ size) || decide (off + v.cells.size > cs.size)) = true) := by
          simp only [ne_eq, Bool.or_eq_true, decide_eq_true_eq, not_or, Decidable.not_not]
          omega
        rw [if_neg c1]
        have hs := foldl_splice off v.cells cs (by omega)
        refine evFill_sound h ?_ hp ?_
        · rw [hs]; exact hl.splice hr off
        · rw [hs]
          intro u hu
          unfold splice at hu
          rcases List.mem_append.1 hu with hu | hu
          · rcases List.mem_append.1 hu with hu | hu
            · exact h1 u (List.mem_of_mem_take hu)
            · exact ho u hu
          · exact h1 u (List.mem_of_mem_drop hu)
      · cases h

def evBuild (P : Program) (t : TypeId) (ps : List (Nat × NV)) : Option NV :=
  match P.info? t, P.underlying t with
  | some it, some (.array _ e) =>
    match it.zero, P.info? e with
    | some z, some ie => if z.cells.toList.all Value.oneCell' then (evFill (fun i => some (i * ie.size, ie.size)) (z.cells.toList.map .val) ps).map .agg else none
    | _, _ => none
  | some it, some (.struct fields) =>
    match it.zero, fields.toList.mapM (fun f => (P.info? f.type).map fun i => (f.offset, i.size)) with
    | some z, some places => if z.cells.toList.all Value.oneCell' then (evFill (places.toArray[·]?) (z.cells.toList.map .val) ps).map .agg else none
    | _, _ => none
  | _, _ => none
theorem run_evBuild {t : TypeId} {ps : List (Nat × NV)} {parts : Array (Nat × Value)} {r : NV} (h : evBuild P t ps = some r) (hp : AllParts env ps parts.toList) (w : World) :
    ∃ u, (Instr.build t parts).run P w = .ok u w ∧ r.rel env u := by
  unfold evBuild at h
  split at h
  · rename_i it n e hi hu
    split at h
    · rename_i z ie hz hie
      split at h
      · rename_i hall
        rw [Option.map_eq_some_iff] at h
        obtain ⟨l, hl, rfl⟩ := h
        obtain ⟨c, h1, h2, _⟩ := evFill_sound hl (AllRel.vals (env := env) _) hp (List.all_eq_true.1 hall)
        exact ⟨_, run_build w t parts c (by simp only [Program.built, hi, hu, hz, hie]; exact h1), _, rfl, h2⟩
      · cases h
    · cases h
  · rename_i it fs hi hu
    split at h
    · rename_i z places hz hie
      split at h
      · rename_i hall
        rw [Option.map_eq_some_iff] at h
        obtain ⟨l, hl, rfl⟩ := h
        obtain ⟨c, h1, h2, _⟩ := evFill_sound hl (AllRel.vals (env := env) _) hp (List.all_eq_true.1 hall)
        exact ⟨_, run_build w t parts c (by simp only [Program.built, hi, hu, hz, hie]; exact h1), _, rfl, h2⟩
      · cases h
    · cases h
  · cases h

/-! rows -/
theorem row_ok (hm : MemOk env mem w0 w S) (hg : mem[nh]? = some .gone) (hn : env nh = none) (e : TypeId) {wd n cap : Nat} {g : Nat → List At} {cs : Array Value} (hl : Elems env wd n g (cs.toList.take (n * wd))) (hnc : n ≤ cap) (hcm : cap ≤ maxLen) (hcs : cs.size = cap * wd) :
    After env (env.put nh (.slice (some ⟨w.heap.size, 0, none⟩) n cap)) (.new (.row e wd n g)) mem w0 (w.alloc (.cells cs e)) S nh := by
  refine ⟨Env.le_put hn, fun k hk => Env.put_other _ hk, hm.fill nh _ _ hg hn ((Ext.refl w).alloc _) (fun b hb => by simp [baseOf] at hb; omega) ?_, (fun h => by cases h), fun _ _ e => by cases e⟩
  exact ⟨_, _, Env.put_same _ _, ⟨hl.1, .inr ⟨w.heap.size, cap, cs, rfl, Nat.zero_le _, heap_alloc_new w _, hnc, hcm, hcs, rfl⟩⟩, hl.le (Env.le_put hn)⟩

def evBuildSlice (P : Program) (t : TypeId) (len : Nat) (ps : List (Nat × NV)) (nh : Nat) : Option (SV × Eff) :=
  match P.underlying t with
  | some (.slice e) => match P.info? e, zeroOf P e with
    | some ie, some z =>
      if ¬ len * ie.size > 2 ^ 24 ∧ ¬ len * ie.size = 0 ∧ len ≤ maxLen ∧ z.cells.toList.all Value.oneCell' ∧ 0 < z.cells.size then
        match evFill (fun i => some (i * ie.size, ie.size)) (((List.range (len * ie.size)).map fun k => z.cells[k % z.cells.size]!).map .val) ps with
        | some r => some (.nv (.one (.own nh)), .new (.row e ie.size len (fun k => (r.drop (k * ie.size)).take ie.size)))
        | none => none
      else none
    | _, _ => none
  | _ => none
theorem run_evBuildSlice {t : TypeId} {len : Nat} {ps : List (Nat × NV)} {parts : Array (Nat × Value)} {r : SV} {eff : Eff} (h : evBuildSlice P t len ps nh = some (r, eff)) (hp : AllParts env ps parts.toList)
    (hm : MemOk env mem w0 w S) (hg : mem[nh]? = some .gone) (hn : env nh = none) :
    ∃ u env' w', (Instr.buildSlice t len parts).run P w = .ok u w' ∧ r.rel env' u ∧ After env env' eff mem w0 w' S nh := by
  unfold evBuildSlice at h
  split at h
  · rename_i e hu
    split at h
    · rename_i ie z hie hz
      have hz' : ie.zero = some z := by simpa [zeroOf, hie] using hz
      split at h
      · rename_i hc
        obtain ⟨c1, c2, c3, c4, c5⟩ := hc
        split at h
        · rename_i r' hf
          simp only [Option.some.injEq, Prod.mk.injEq] at h
          obtain ⟨rfl, rfl⟩ := h
          obtain ⟨c, h1, h2, h3⟩ := evFill_sound (cs := (Array.range (len * ie.size)).map (z.cells[· % z.cells.size]!)) hf (by
            have := AllRel.vals (env := env) ((List.range (len * ie.size)).map fun k => z.cells[k % z.cells.size]!)
            simpa using this) hp (by
            intro v hv
            simp only [Array.toList_map, Array.toList_range, List.mem_map, List.mem_range] at hv
            obtain ⟨k, _, rfl⟩ := hv
            have hlt : k % z.cells.size < z.cells.size := Nat.mod_lt _ c5
            rw [getElem!_pos z.cells _ hlt]
            exact List.all_eq_true.1 c4 _ (by simp))
          have hlen : c.size = len * ie.size := by
            have hsz : ∀ (place : Nat → Option (Nat × Nat)) (qs : List (Nat × Value)) (cs c : Array Value), Instr.fill place cs qs = some c → c.size = cs.size := by
              intro place qs
              induction qs with
              | nil => intro cs c hc; simp only [Instr.fill, Option.some.injEq] at hc; rw [hc]
              | cons q qs ih =>
                intro cs c hc
                obtain ⟨i, v⟩ := q
                unfold Instr.fill at hc
                split at hc
                · cases hc
                · split at hc
                  · cases hc
                  · rename_i hfit
                    rw [ih _ _ hc]
                    simp only [ne_eq, Bool.or_eq_true, decide_eq_true_eq, not_or, Decidable.not_not] at hfit
                    rw [← Array.length_toList, foldl_splice _ _ _ (by omega), splice_length _ _ _ (by simp; omega)]
                    simp
            rw [hsz _ _ _ _ h1]; simp
          have hr := run_buildSlice (P := P) w t e len parts c ie z hu hie hz' c1 c2 h1
          have htk : c.toList.take (len * ie.size) = c.toList := List.take_of_length_le (by simp [hlen])
          refine ⟨_, _, _, hr, ?_, row_ok hm hg hn e (cap := len) ?_ (Nat.le_refl _) c3 hlen⟩
          · exact ⟨Env.put_same _ _, _, _, _, rfl⟩
          · rw [htk]
            exact ⟨by simpa using hlen, fun i hi => (h2.drop _).take _, h3⟩
        · cases h
      · cases h
    · cases h
  · cases h

def evMake (P : Program) (t : TypeId) (l c : Int) (nh : Nat) : Option (SV × Eff × List Prop) :=
  match P.underlying t with
  | some (.slice e) => match P.info? e, zeroOf P e with
    | some ie, some z => if z.cells.toList.all Value.oneCell' ∧ z.cells.size = ie.size ∧ 0 < ie.size then
        some (.nv (.one (.own nh)), .new (.row e ie.size c.toNat (fun _ => z.cells.toList.map .val)), [0 ≤ c, l = c, (ie.bytes : Int) * c ≤ 281474976710656, c ≤ 4611686018427387904])
      else none
    | _, _ => none
  | _ => none
theorem run_evMake {t : TypeId} {l c : Int} {kl kc : IntKind} {r : SV} {eff : Eff} {obl : List Prop} (h : evMake P t l c nh = some (r, eff, obl)) (ho : AllT obl) (hm : MemOk env mem w0 w S) (hg : mem[nh]? = some .gone) (hn : env nh = none) :
    ∃ u env' w', (Instr.makeSlice t (.int kl l) (.int kc c)).run P w = .ok u w' ∧ r.rel env' u ∧ After env env' eff mem w0 w' S nh := by
  unfold evMake at h
  split at h
  · rename_i e hu
    split at h
    · rename_i ie z hie hz
      have hz' : ie.zero = some z := by simpa [zeroOf, hie] using hz
      split at h
      · rename_i hc
        obtain ⟨c1, c2, c3⟩ := hc
        simp only [Option.some.injEq, Prod.mk.injEq] at h
        obtain ⟨rfl, rfl, rfl⟩ := h
        simp only [AllT, and_true] at ho
        obtain ⟨o1, rfl, o2, o3⟩ := ho
        have hr := run_make (P := P) w t e ie z hu hie hz' kl kc l l o1 (Int.le_refl _) o2 (by omega)
        have hsz : (madeCells z.cells (l.toNat * ie.size)).size = l.toNat * ie.size := size_madeCells _ _
        have htk : (madeCells z.cells (l.toNat * ie.size)).toList.take (l.toNat * ie.size) = (madeCells z.cells (l.toNat * ie.size)).toList := List.take_of_length_le (by simp [hsz])
        refine ⟨_, _, _, hr, ?_, row_ok hm hg hn e (cap := l.toNat) ?_ (Nat.le_refl _) (by unfold maxLen; omega) hsz⟩
        · exact ⟨Env.put_same _ _, _, _, _, rfl⟩
        · rw [htk]
          have hall := List.all_eq_true.1 c1
          refine ⟨by simpa using hsz, fun i hi => ?_, fun v hv => ?_⟩
          · have hx : ((madeCells z.cells (l.toNat * ie.size)).toList.drop (i * ie.size)).take ie.size = z.cells.toList := by
              apply List.ext_getElem?
              intro k
              have hle : i * ie.size + ie.size ≤ l.toNat * ie.size := by
                have := Nat.mul_le_mul_right ie.size (show i + 1 ≤ l.toNat by omega)
                rw [Nat.add_mul] at this; omega
              rw [seg_get]
              by_cases q : k < ie.size
              · rw [if_pos q]
                simp only [madeCells, Array.toList_map, Array.toList_range, List.getElem?_map, List.getElem?_range (show i * ie.size + k < l.toNat * ie.size by omega), Option.map_some, c2]
                rw [Nat.mul_comm i, Nat.mul_add_mod, Nat.mod_eq_of_lt q, getElem!_pos z.cells k (by omega)]
                simp [show k < z.cells.size by omega]
              · rw [if_neg q, List.getElem?_eq_none (by simp; omega)]
            rw [hx]
            exact AllRel.vals _
          · simp only [madeCells, Array.toList_map, Array.toList_range, List.mem_map, List.mem_range] at hv
            obtain ⟨k, _, rfl⟩ := hv
            have hlt : k % z.cells.size < z.cells.size := Nat.mod_lt _ (by omega)
            rw [getElem!_pos z.cells _ hlt]
            exact hall _ (by simp)
      · cases h
    · cases h
  · cases h
end
end E
end Go.Proofs.Ytlmeemilikladaa

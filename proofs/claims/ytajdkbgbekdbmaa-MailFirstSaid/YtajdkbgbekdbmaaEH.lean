/- A symbolic run of Go code: regions that draw their order. No condition. -/
import Derived.Test.YtajdkbgbekdbmaaE8
import Derived.StillTail
namespace Go.Proofs.Ytajdkbgbekdbmaa
set_option linter.unusedVariables false
set_option linter.unusedSimpArgs false
namespace E
open Go.RowKit

/-! more memory, the same answer -/
theorem look_mono {m m' : List Seg} (h : MemLe m m') {x : At} {r : List At × Nat × List Prop} (e : look m x = some r) : look m' x = some r := by
  unfold look at e ⊢
  cases x with
  | ptr hd j =>
    simp only at e ⊢
    split at e
    · rename_i t l hs
      rcases h _ _ hs with k | k
      · cases k
      · rw [k]; exact e
    · rename_i t l hs
      rcases h _ _ hs with k | k
      · cases k
      · rw [k]; exact e
    · cases e
  | eptr hd wd i j =>
    simp only at e ⊢
    split at e
    · rename_i wd' len g hs
      rcases h _ _ hs with k | k
      · cases k
      · rw [k]; exact e
    · rename_i e' wd' n g hs
      rcases h _ _ hs with k | k
      · cases k
      · rw [k]; exact e
    · cases e
  | _ => cases e
theorem evLoad_mono {P : Program} {t : TypeId} {m m' : List Seg} (h : MemLe m m') {x : At} {r : NV × List Prop} (e : evLoad P t m x = some r) : evLoad P t m' x = some r := by
  unfold evLoad at e ⊢
  cases hl : look m x with
  | none => simp [hl] at e
  | some q => rw [look_mono h hl]; rw [hl] at e; exact e
theorem evStore_mono {P : Program} {t : TypeId} {m m' : List Seg} (h : MemLe m m') {x : At} {y : NV} {r : Nat × Seg × List Prop} (e : evStore P t m x y = some r) : evStore P t m' x y = some r := by
  unfold evStore at e ⊢
  split at e
  · rename_i hc
    rw [if_pos hc]
    cases x with
    | ptr hd j =>
      simp only at e ⊢
      split at e
      · rename_i t0 l hs
        rcases h _ _ hs with k | k
        · cases k
        · rw [k]; exact e
      · cases e
    | eptr hd wd i j =>
      simp only at e ⊢
      split at e
      · rename_i e' wd' n g hs
        rcases h _ _ hs with k | k
        · cases k
        · rw [k]; exact e
      · cases e
    | _ => cases e
  · cases e
theorem evIndexAddr_mono {P : Program} {t : TypeId} {m m' : List Seg} (h : MemLe m m') {x : At} {i : Int} {r : At × List Prop} (e : evIndexAddr P t m x i = some r) : evIndexAddr P t m' x i = some r := by
  unfold evIndexAddr at e ⊢
  split at e
  · exact e
  · exact e
  · rename_i e' hd hu
    try simp only
    split at e
    · rename_i wd' len g hs
      rcases h _ _ hs with k | k
      · cases k
      · rw [k]; exact e
    · rename_i e'' wd' n g hs
      rcases h _ _ hs with k | k
      · cases k
      · rw [k]; exact e
    · cases e
  · rename_i e' hd wd off q hu
    try simp only
    split at e
    · rename_i wd' len g hs
      rcases h _ _ hs with k | k
      · cases k
      · rw [k]; exact e
    · rename_i e'' wd' n g hs
      rcases h _ _ hs with k | k
      · cases k
      · rw [k]; exact e
    · cases e
  · cases e
theorem evLen_mono {P : Program} {t : TypeId} {m m' : List Seg} (h : MemLe m m') {x : NV} {r : Int} (e : evLen P t m x = some r) : evLen P t m' x = some r := by
  unfold evLen at e ⊢
  split at e
  · exact e
  · exact e
  · try simp only
    split at e
    · rename_i hu hs
      rcases h _ _ hs with k | k
      · cases k
      · rw [k, hu]; exact e
    · rename_i hu hs
      rcases h _ _ hs with k | k
      · cases k
      · rw [k, hu]; exact e
    · cases e
  · exact e
  · exact e
  · cases e
theorem srcOf_mono {wd : Nat} {m m' : List Seg} (h : MemLe m m') {x : At} {r : Nat × (Nat → List At) × List Prop} (e : srcOf m wd x = some r) : srcOf m' wd x = some r := by
  unfold srcOf at e ⊢
  split at e
  · try simp only
    split at e
    · rename_i hs
      rcases h _ _ hs with k | k
      · cases k
      · rw [k]; exact e
    · rename_i hs
      rcases h _ _ hs with k | k
      · cases k
      · rw [k]; exact e
    · cases e
  · split at e
    · rename_i hc
      rw [if_pos hc]
      split at e
      · rename_i hs
        rcases h _ _ hs with k | k
        · cases k
        · rw [k]; exact e
      · rename_i hs
        rcases h _ _ hs with k | k
        · cases k
        · rw [k]; exact e
      · cases e
    · cases e
  · exact e
  · cases e
theorem evAppendStr_mono {P : Program} {t t' : TypeId} {m m' : List Seg} {nh : Nat} (h : MemLe m m') {s : At} {str : ByteArray} {r : SV × Eff × List Prop} (e : evAppendStr P t t' m s str nh = some r) : evAppendStr P t t' m' s str nh = some r := by
  unfold evAppendStr at e ⊢
  split at e
  · try simp only
    split at e
    · try simp only
      split at e
      · rename_i hc
        rw [if_pos hc]
        split at e
        · try simp only
          split at e
          · rename_i hs
            rcases h _ _ hs with k | k
            · cases k
            · rw [k]; exact e
          · cases e
        · exact e
        · cases e
      · cases e
    · cases e
  · cases e
theorem evSliceRow_mono {P : Program} {t : TypeId} {m m' : List Seg} (h : MemLe m m') {x : At} {lo hi : Option Int} {r : At × List Prop} (e : evSliceRow P t m x lo hi = some r) : evSliceRow P t m' x lo hi = some r := by
  unfold evSliceRow at e ⊢
  split at e
  · try simp only
    split at e
    · rename_i hc
      rw [if_pos hc]
      split at e
      · try simp only
        split at e
        · rename_i hs
          rcases h _ _ hs with k | k
          · cases k
          · rw [k]; exact e
        · rename_i hs
          rcases h _ _ hs with k | k
          · cases k
          · rw [k]; exact e
        · cases e
      · exact e
      · exact e
      · cases e
    · cases e
  · cases e
theorem evCopy_mono {P : Program} {t : TypeId} {m m' : List Seg} (h : MemLe m m') {d x : At} {r : Int × Eff × List Prop} (e : evCopy P t m d x = some r) : evCopy P t m' d x = some r := by
  unfold evCopy at e ⊢
  split at e
  · try simp only
    split at e
    · try simp only
      split at e
      · rename_i q hs
        rw [srcOf_mono h hs]
        try simp only
        split at e
        · try simp only
          split at e
          · rename_i hs
            rcases h _ _ hs with k | k
            · cases k
            · rw [k]; exact e
          · cases e
        · try simp only
          split at e
          · rename_i hs
            rcases h _ _ hs with k | k
            · cases k
            · rw [k]; exact e
          · cases e
        · exact e
        · cases e
      · cases e
    · cases e
  · cases e
theorem evStr_mono {P : Program} {s d : TypeId} {m m' : List Seg} (h : MemLe m m') {x : At} {r : ByteArray × List Prop} (e : evStr P s d m x = some r) : evStr P s d m' x = some r := by
  unfold evStr at e ⊢
  split at e
  · try simp only
    split at e
    · try simp only
      split at e
      · rename_i q hs
        rw [srcOf_mono h hs]
        exact e
      · cases e
    · cases e
  · cases e
theorem evAppend_mono {P : Program} {t : TypeId} {m m' : List Seg} {nh : Nat} (h : MemLe m m') {s x : At} {r : SV × Eff × List Prop} (e : evAppend P t m s x nh = some r) : evAppend P t m' s x nh = some r := by
  unfold evAppend at e ⊢
  split at e
  · try simp only
    split at e
    · try simp only
      split at e
      · rename_i hc
        rw [if_pos hc]
        split at e
        · rename_i q hs
          rw [srcOf_mono h hs]
          try simp only
          split at e
          · try simp only
            split at e
            · rename_i hs
              rcases h _ _ hs with k | k
              · cases k
              · rw [k]; exact e
            · cases e
          · try simp only
            split at e
            · rename_i hs
              rcases h _ _ hs with k | k
              · cases k
              · rw [k]; exact e
            · cases e
          · exact e
          · cases e
        · cases e
      · cases e
    · cases e
  · cases e

theorem evNilSlice_mono {P : Program} {op : BinOp} {t : TypeId} {m m' : List Seg} (h : MemLe m m') {a b : At} {r : Bool × List Prop} (e : evNilSlice P op t m a b = some r) : evNilSlice P op t m' a b = some r := by
  have key : ∀ n, lenOf? m a = some n → lenOf? m' a = some n := by
    intro n hl
    unfold lenOf? at hl ⊢
    split at hl
    · try simp only
      split at hl
      · rename_i hs
        rcases h _ _ hs with k | k
        · cases k
        · rw [k]; exact hl
      · rename_i hs
        rcases h _ _ hs with k | k
        · cases k
        · rw [k]; exact hl
      · cases hl
    · cases hl
  unfold evNilSlice at e ⊢
  split at e
  · try simp only
    split at e
    · rename_i hu hl
      rw [key _ hl, hu]; exact e
    · rename_i hu hl
      rw [key _ hl, hu]; exact e
    · cases e
  · cases e
theorem evalOld_mono {P : Program} {op : Op} {xs : List SV} {m m' : List Seg} {nh : Nat} (h : MemLe m m') {r : SV × Eff × List Prop} (e : evalOld P op xs m nh = some r) : evalOld P op xs m' nh = some r := by
  unfold evalOld at e ⊢
  split at e
  all_goals try exact e
  · -- binOp
    try simp only
    split at e
    · rename_i hb
      try rw [hb]
      exact e
    · rename_i hb
      try rw [hb]
      try simp only
      split at e
      · try simp only
        split at e
        · rename_i hl
          rw [evNilSlice_mono h hl]; exact e
        · cases e
      · cases e
  · -- convert
    try simp only
    split at e
    · rename_i hp
      try rw [hp]
      try simp only
      split at e
      · rename_i hq
        try rw [hq]
        exact e
      · rename_i hq
        try rw [hq]
        try simp only
        split at e
        · rename_i hl
          rw [evStr_mono h hl]; exact e
        · cases e
    · rename_i hp
      try rw [hp]
      try simp only
      split at e
      · rename_i hl
        rw [evStr_mono h hl]; exact e
      · cases e
  · -- load
    try simp only
    split at e
    · rename_i hl
      rw [evLoad_mono h hl]; exact e
    · cases e
  · -- store
    try simp only
    split at e
    · rename_i hl
      rw [evStore_mono h hl]; exact e
    · cases e
  · -- indexAddr
    try simp only
    split at e
    · rename_i hi
      try rw [hi]
      try simp only
      split at e
      · rename_i hl
        rw [evIndexAddr_mono h hl]; exact e
      · cases e
    · cases e
  · -- a part of a row
    try simp only
    split at e
    · rename_i hi
      try rw [hi]
      try simp only
      split at e
      · rename_i hl
        rw [evSliceRow_mono h hl]; exact e
      · cases e
    · cases e
  · -- copy
    try simp only
    split at e
    · rename_i ht
      try rw [ht]
      try simp only
      split at e
      · rename_i hl
        rw [evCopy_mono h hl]; exact e
      · cases e
    · cases e
  · -- len
    try simp only
    split at e
    · rename_i ht
      try rw [ht]
      try simp only
      split at e
      · rename_i hl
        rw [evLen_mono h hl]; exact e
      · cases e
    · cases e
  · -- append
    try simp only
    split at e
    · rename_i ht
      try rw [ht]
      try simp only
      split at e
      · rename_i hc
        rw [if_pos hc]
        exact evAppend_mono h e
      · rename_i hc
        rw [if_neg hc]
        try simp only
        split at e
        · exact evAppendStr_mono h e
        · cases e
    · cases e

theorem evUns_mono {P : Program} {s d : TypeId} {m m' : List Seg} (h : MemLe m m') {a r : At} (e : evUns P s d m a = some r) : evUns P s d m' a = some r := by
  unfold evUns at e ⊢
  split at e
  · try simp only
    split at e
    · rename_i hs
      rcases h _ _ hs with k | k
      · cases k
      · rw [k]; exact e
    · cases e
  · cases e
theorem evData_mono {m m' : List Seg} (h : MemLe m m') {a : At} {r : At × List Prop} (e : evData m a = some r) : evData m' a = some r := by
  unfold evData at e ⊢
  split at e
  · exact e
  · try simp only
    split at e
    · rename_i hs
      rcases h _ _ hs with k | k
      · cases k
      · rw [k]; exact e
    · cases e
  · cases e
theorem evUStr_mono {P : Program} {pt : TypeId} {m m' : List Seg} (h : MemLe m m') {p : At} {n : Int} {r : ByteArray × Eff × List Prop} (e : evUStr P pt m p n = some r) : evUStr P pt m' p n = some r := by
  unfold evUStr at e ⊢
  split at e
  · exact e
  · try simp only
    split at e
    · rename_i hs
      rcases h _ _ hs with k | k
      · cases k
      · rw [k]; exact e
    · cases e
  · cases e
theorem evCopyStr_mono {P : Program} {t : TypeId} {m m' : List Seg} (h : MemLe m m') {d : At} {s : ByteArray} {r : Int × Eff × List Prop} (e : evCopyStr P t m d s = some r) : evCopyStr P t m' d s = some r := by
  unfold evCopyStr at e ⊢
  split at e
  · try simp only
    split at e
    · try simp only
      split at e
      · try simp only
        split at e
        · rename_i hs
          rcases h _ _ hs with k | k
          · cases k
          · rw [k]; exact e
        · cases e
      · cases e
    · cases e
  · cases e
theorem evalMore_mono {P : Program} {op : Op} {xs : List SV} {m m' : List Seg} (h : MemLe m m') {r : SV × Eff × List Prop} (e : evalMore P op xs m = some r) : evalMore P op xs m' = some r := by
  unfold evalMore at e ⊢
  split at e
  · try simp only
    split at e
    · rename_i hl
      rw [evUns_mono h hl]; exact e
    · cases e
  · try simp only
    split at e
    · rename_i ht
      try rw [ht]
      try simp only
      split at e
      · rename_i hl
        rw [evCopyStr_mono h hl]; exact e
      · cases e
    · cases e
  · try simp only
    split at e
    · rename_i hl
      rw [evData_mono h hl]; exact e
    · cases e
  · try simp only
    split at e
    · rename_i ht
      try rw [ht]
      try simp only
      split at e
      · rename_i hl
        rw [evUStr_mono h hl]; exact e
      · cases e
    · cases e
  · cases e
theorem evalChan_mono {P : Program} {op : Op} {xs : List SV} {m m' : List Seg} {nh : Nat} (h : MemLe m m') {r : SV × Eff × List Prop} (e : evalChan P op xs m nh = some r) : evalChan P op xs m' nh = some r := by
  unfold evalChan at e ⊢
  split at e
  · exact e
  · exact e
  · rename_i args ts h'
    split at e
    · rename_i t c buf cl ets hh
      have := (h _ _ hh).resolve_left (by simp)
      simp only [ets, this]
      exact e
    · cases e
  · rename_i args ts h'
    split at e
    · rename_i c buf hh
      have := (h _ _ hh).resolve_left (by simp)
      simp only [this]
      exact e
    · cases e
  · cases e
theorem evalCore_mono {P : Program} {op : Op} {xs : List SV} {m m' : List Seg} {nh : Nat} (h : MemLe m m') {r : SV × Eff × List Prop} (e : evalCore P op xs m nh = some r) : evalCore P op xs m' nh = some r := by
  unfold evalCore at e ⊢
  cases hc : isChan op xs with
  | true => rw [hc] at e; exact evalChan_mono h e
  | false =>
  rw [hc] at e
  simp only [cond_false] at e ⊢
  cases hb : isMore op xs with
  | true => rw [hb] at e; exact evalMore_mono h e
  | false => rw [hb] at e; exact evalOld_mono h e

/-! effects -/
structure Inf where
  v : SV
  eff : Eff
  nh : Nat
  sets : List (Nat × Option Nat × Seg)
def Eff.touch (nh : Nat) : Eff → List Nat
  | .none => []
  | .new _ => [nh]
  | .set h _ => [h]
  | .app h _ => [h, nh]
def keysOf : List (Nat × Option Nat × Seg) → List Nat
  | [] => []
  | (h, _, _) :: l => h :: keysOf l
def Inf.makes (x : Inf) : Bool := x.eff.makes || (keysOf x.sets).contains x.nh
/-- The handles that an operation makes. -/
def Inf.news (x : Inf) : List Nat := if x.eff.makes then [x.nh] else (keysOf x.sets).filter (fun h => Nat.ble x.nh h)
def Inf.touch (x : Inf) : List Nat := x.eff.touch x.nh ++ keysOf x.sets
def Inf.app (x : Inf) (m : List Seg) : List Seg := putAll (x.eff.apply x.nh m) x.sets

theorem Eff.apply_length (x : Eff) (nh : Nat) (m : List Seg) : (x.apply nh m).length = m.length := by cases x <;> simp [Eff.apply]
theorem Inf.app_length (x : Inf) (m : List Seg) : (x.app m).length = m.length := by
  unfold Inf.app; rw [putAll_length, Eff.apply_length]
theorem Eff.apply_other (x : Eff) (nh : Nat) (m : List Seg) {h : Nat} (k : h ∉ x.touch nh) : (x.apply nh m)[h]? = m[h]? := by
  cases x with
  | none => rfl
  | new s => simp [Eff.touch] at k; simp only [Eff.apply]; rw [List.getElem?_set_ne (Ne.symm k)]
  | set c s => simp [Eff.touch] at k; simp only [Eff.apply]; rw [List.getElem?_set_ne (Ne.symm k)]
  | app c s =>
    simp [Eff.touch] at k
    simp only [Eff.apply]
    rw [List.getElem?_set_ne (Ne.symm k.2), List.getElem?_set_ne (Ne.symm k.1)]
theorem Eff.apply_touched (x : Eff) (nh : Nat) {m m' : List Seg} (hl : m.length = m'.length) {h : Nat} (k : h ∈ x.touch nh) : (x.apply nh m)[h]? = (x.apply nh m')[h]? := by
  cases x with
  | none => cases k
  | new s => simp [Eff.touch] at k; subst k; simp [Eff.apply, List.getElem?_set, hl]
  | set c s => simp [Eff.touch] at k; subst k; simp [Eff.apply, List.getElem?_set, hl]
  | app c s =>
    simp [Eff.touch] at k
    simp only [Eff.apply, List.getElem?_set, List.length_set, hl]
    by_cases e1 : nh = h
    · simp [e1]
    · rw [if_neg e1, if_neg e1]
      rcases k with k | k
      · subst k; simp
      · exact absurd k.symm e1
theorem putAll_same : ∀ (l : List (Nat × Option Nat × Seg)) {m m' : List Seg} {h : Nat}, m.length = m'.length → (m[h]? = m'[h]? ∨ h ∈ keysOf l) → (putAll m l)[h]? = (putAll m' l)[h]?
  | [], m, m', h, _, k => by
    rcases k with k | k
    · exact k
    · cases k
  | (c, o, s) :: l, m, m', h, hl, k => by
    unfold putAll
    refine putAll_same l (by simp [hl]) ?_
    by_cases e : c = h
    · subst e
      refine .inl ?_
      simp [List.getElem?_set, hl]
    · rcases k with k | k
      · exact .inl (by rw [List.getElem?_set_ne e, List.getElem?_set_ne e, k])
      · simp only [keysOf, List.mem_cons] at k
        rcases k with k | k
        · exact absurd k.symm e
        · exact .inr k
theorem keysOf_not {l : List (Nat × Option Nat × Seg)} {h : Nat} (k : h ∉ keysOf l) : ∀ x ∈ l, x.1 ≠ h := by
  induction l with
  | nil => intro x hx; cases hx
  | cons y l ih =>
    simp only [keysOf, List.mem_cons, not_or] at k
    intro x hx
    rcases List.mem_cons.1 hx with e | hx
    · subst e; exact Ne.symm k.1
    · exact ih k.2 x hx
theorem Inf.app_other (x : Inf) (m : List Seg) {h : Nat} (k : h ∉ x.touch) : (x.app m)[h]? = m[h]? := by
  unfold Inf.touch at k
  simp only [List.mem_append, not_or] at k
  unfold Inf.app
  rw [putAll_other _ _ _ (keysOf_not k.2)]
  exact Eff.apply_other _ _ _ k.1
theorem Inf.app_touched (x : Inf) {m m' : List Seg} (hl : m.length = m'.length) {h : Nat} (k : h ∈ x.touch) : (x.app m)[h]? = (x.app m')[h]? := by
  unfold Inf.touch at k
  unfold Inf.app
  refine putAll_same _ (by rw [Eff.apply_length, Eff.apply_length]; exact hl) ?_
  rcases List.mem_append.1 k with k | k
  · exact .inl (Eff.apply_touched _ _ hl k)
  · exact .inr k
theorem Inf.news_touch {x : Inf} {c : Nat} (h : c ∈ x.news) : c ∈ x.touch := by
  unfold Inf.touch
  unfold Inf.news at h
  split at h
  · rename_i hm
    simp only [List.mem_singleton] at h
    subst h
    refine List.mem_append.2 (.inl ?_)
    cases he : x.eff with
    | none => rw [he] at hm; cases hm
    | new s => simp [Eff.touch]
    | set c s => rw [he] at hm; cases hm
    | app c s => simp [Eff.touch]
  · exact List.mem_append.2 (.inr (List.mem_filter.1 h).1)
theorem Inf.makes_touch {x : Inf} (h : x.makes = true) : x.nh ∈ x.touch := by
  unfold Inf.touch
  unfold Inf.makes at h
  rcases Bool.or_eq_true_iff.1 h with h | h
  · refine List.mem_append.2 (.inl ?_)
    cases he : x.eff with
    | none => rw [he] at h; cases h
    | new s => simp [Eff.touch]
    | set c s => rw [he] at h; cases h
    | app c s => simp [Eff.touch]
  · exact List.mem_append.2 (.inr (by simpa using h))

/-- What the first n operations leave, of those in D. -/
def foldE (I : Nat → Inf) (mem0 : List Seg) (D : Nat → Bool) : Nat → List Seg
  | 0 => mem0
  | n + 1 => if D n then (I n).app (foldE I mem0 D n) else foldE I mem0 D n
theorem foldE_length (I : Nat → Inf) (mem0 : List Seg) (D : Nat → Bool) : ∀ n, (foldE I mem0 D n).length = mem0.length
  | 0 => rfl
  | n + 1 => by
    unfold foldE
    split
    · rw [Inf.app_length, foldE_length]
    · exact foldE_length I mem0 D n
theorem foldE_agree {I : Nat → Inf} {mem0 : List Seg} {D D' : Nat → Bool} {h : Nat} : ∀ {n : Nat}, (∀ j, j < n → h ∈ (I j).touch → D j = D' j) → (foldE I mem0 D n)[h]? = (foldE I mem0 D' n)[h]?
  | 0, _ => rfl
  | n + 1, k => by
    have ih := foldE_agree (I := I) (mem0 := mem0) (D := D) (D' := D') (n := n) (fun j hj => k j (by omega))
    unfold foldE
    by_cases ht : h ∈ (I n).touch
    · rw [k n (by omega) ht]
      cases D' n
      · exact ih
      · exact Inf.app_touched _ (by rw [foldE_length, foldE_length]) ht
    · have e1 : ∀ (D : Nat → Bool), (if D n then (I n).app (foldE I mem0 D n) else foldE I mem0 D n)[h]? = (foldE I mem0 D n)[h]? := by
        intro D
        split
        · exact Inf.app_other _ _ ht
        · rfl
      rw [e1 D, e1 D']
      exact ih
theorem foldE_none {I : Nat → Inf} {mem0 : List Seg} {D : Nat → Bool} : ∀ {n : Nat}, (∀ j, j < n → D j = false) → foldE I mem0 D n = mem0
  | 0, _ => rfl
  | n + 1, k => by
    unfold foldE
    rw [k n (by omega)]
    exact foldE_none (fun j hj => k j (by omega))
/-- Cut off behind i. -/
theorem foldE_upto {I : Nat → Inf} {mem0 : List Seg} {D : Nat → Bool} {i : Nat} : ∀ {n : Nat}, i < n → D i = true → foldE I mem0 (fun j => D j && decide (j ≤ i)) n = (I i).app (foldE I mem0 (fun j => D j && decide (j ≤ i)) i)
  | 0, h, _ => by omega
  | n + 1, h, hd => by
    by_cases e : n = i
    · subst e
      conv => lhs; unfold foldE
      simp [hd]
    · conv => lhs; unfold foldE
      have : ¬ n ≤ i := by omega
      simp only [this, decide_false, Bool.and_false, Bool.false_eq_true, if_false]
      exact foldE_upto (by omega) hd

theorem foldE_add {I : Nat → Inf} {mem0 : List Seg} {D : Nat → Bool} {i n : Nat} (hi : i < n) (hD : D i = false) (hlate : ∀ j h, j < n → i < j → D j = true → h ∈ (I i).touch → h ∉ (I j).touch) :
    foldE I mem0 (fun j => D j || decide (j = i)) n = (I i).app (foldE I mem0 D n) := by
  apply List.ext_getElem?
  intro h
  by_cases ht : h ∈ (I i).touch
  · have e1 : (foldE I mem0 (fun j => D j || decide (j = i)) n)[h]? = (foldE I mem0 (fun j => (D j || decide (j = i)) && decide (j ≤ i)) n)[h]? := by
      refine foldE_agree (fun j hj hjt => ?_)
      by_cases hle : j ≤ i
      · simp [hle]
      · have hne : j ≠ i := by omega
        simp only [hle, decide_false, Bool.and_false, hne, Bool.or_false]
        cases hdj : D j with
        | false => rfl
        | true => exact absurd hjt (hlate j h hj (by omega) hdj ht)
    rw [e1, foldE_upto hi (by simp)]
    exact Inf.app_touched _ (by rw [foldE_length, foldE_length]) ht
  · rw [Inf.app_other _ _ ht]
    refine foldE_agree (fun j hj hjt => ?_)
    have : j ≠ i := fun e => by subst e; exact ht hjt
    simp [this]

/-! any order -/
def un (listed : Array Bool) : Nat → Nat
  | 0 => 0
  | n + 1 => un listed n + if listed.getD n true then 0 else 1
theorem un_set {listed : Array Bool} {i : Nat} (hl : listed.getD i true = false) : ∀ {n : Nat}, i < n → un (listed.setIfInBounds i true) n + 1 = un listed n
  | 0, h => by omega
  | n + 1, h => by
    have hi : i < listed.size := by
      rcases Nat.lt_or_ge i listed.size with k | k
      · exact k
      · rw [Array.getD_eq_getD_getElem?, Array.getElem?_eq_none k] at hl; cases hl
    have hother : ∀ m, m ≠ i → (listed.setIfInBounds i true).getD m true = listed.getD m true := fun m hm => by
      rw [Array.getD_eq_getD_getElem?, Array.getD_eq_getD_getElem?, Array.getElem?_setIfInBounds_ne (Ne.symm hm)]
    unfold un
    by_cases e : n = i
    · subst e
      have hsame : (listed.setIfInBounds n true).getD n true = true := by
        rw [Array.getD_eq_getD_getElem?, Array.getElem?_setIfInBounds_self_of_lt hi]; rfl
      have hrest : ∀ k, k ≤ n → un (listed.setIfInBounds n true) k = un listed k := by
        intro k
        induction k with
        | zero => intro _; rfl
        | succ k ih =>
          intro hk
          unfold un
          rw [ih (by omega), hother k (by omega)]
      rw [hsame, hrest n (Nat.le_refl _), hl]
      simp
    · rw [hother n e]
      have := un_set (n := n) hl (by omega)
      omega
theorem un_zero {listed : Array Bool} : ∀ {n : Nat}, un listed n = 0 → ∀ i, i < n → listed.getD i true = true
  | 0, _, i, h => by omega
  | n + 1, h, i, hi => by
    unfold un at h
    by_cases e : i = n
    · subst e
      cases q : listed.getD i true
      · rw [q] at h; simp at h
      · rfl
    · exact un_zero (n := n) (by omega) i (by omega)

section
variable {P : Program} {ops : Array Oper} {Q : Exit → Act → World → Prop} {cx : Cx}

/-- Where a region stands, with the operations D behind it. -/
structure RS (cx : Cx) (ops : Array Oper) (I : Nat → Inf) (mem0 : List Seg) (tm0 : List SV) (TB : Nat → SV) (r : Nat) (D : Nat → Bool) (env : Env) (a : Act) (w : World) : Prop where
  defers : a.defers = []
  size : a.tmps.size = tm0.length
  slots : ∀ t, (∀ j o, ops[j]? = some o → o.dst = some t → D j = true) → (TB t).rel env (a.tmps.getD t undef)
  mem : MemOk env (foldE I mem0 D ops.size) cx.w0 w cx.S
  fresh : ∀ j, j < ops.size → D j = false → ∀ c ∈ (I j).news, env c = none
  spare : env r = none
  closed : ∀ j o, ops[j]? = some o → D j = true → ∀ e ∈ o.after, Region.binds .any e = true → D e.on = true
  fix : ∀ h, h < cx.m0 → env h = none ∨ env h = cx.fix h
  slots0 : ∀ t, (∀ j o, ops[j]? = some o → o.dst = some t → D j = false) → (tm0.getD t .any).rel env (a.tmps.getD t undef)

/-- One operation, wherever it comes. -/
def GoodOp (P : Program) (cx : Cx) (ops : Array Oper) (I : Nat → Inf) (mem0 : List Seg) (tm0 : List SV) (TB : Nat → SV) (r : Nat) (bef : Nat → Nat → Bool) (i : Nat) (dst : Option Tmp) : Prop :=
  ∀ (env : Env) (a : Act) (w : World) (mem : List Seg) (K : Act → World → Prop) (Q : Exit → Act → World → Prop), a.defers = [] →
    (∀ t, (∀ j o, ops[j]? = some o → o.dst = some t → bef i j = true) → (TB t).rel env (a.tmps.getD t undef)) → (∀ t, (∀ j o, ops[j]? = some o → o.dst = some t → bef j i = true) → (tm0.getD t .any).rel env (a.tmps.getD t undef)) → mem.length = mem0.length →
    (∀ h, (∀ j, j < ops.size → j ≠ i → h ∈ (I j).touch → bef i j = true ∨ bef j i = true) → mem[h]? = (foldE I mem0 (fun j => decide (j < i)) ops.size)[h]?) →
    MemOk env mem cx.w0 w cx.S → (∀ c ∈ (I i).news, mem[c]? = some .gone ∧ env c = none) → mem[r]? = some .gone → env r = none →
    (∀ env' u w', env.le env' → (∀ h, h ∉ (I i).news → env' h = env h) → (I i).v.rel env' u → MemOk env' ((I i).app mem) cx.w0 w' cx.S → K (a.put dst u) w') → wpOp P ops Q i K a w

set_option maxHeartbeats 1000000 in
theorem draw_any {I : Nat → Inf} {mem0 : List Seg} {tm0 : List SV} {TB : Nat → SV} {r : Nat} {bef : Nat → Nat → Bool}
    (hgood : ∀ i o, ops[i]? = some o → GoodOp P cx ops I mem0 tm0 TB r bef i o.dst)
    (hdst : ∀ (i j : Nat) (o o' : Oper) (t : Nat), ops[i]? = some o → ops[j]? = some o' → o.dst = some t → o'.dst = some t → i = j)
    (hTB : ∀ i o t, ops[i]? = some o → o.dst = some t → t < tm0.length → TB t = (I i).v) (hTBout : ∀ t, tm0.length ≤ t → TB t = .any)
    (hedge : ∀ i o, ops[i]? = some o → ∀ e ∈ o.after, Region.binds .any e = true → e.on < i)
    (hbef : ∀ (D : Nat → Bool) i j o, (∀ k o', ops[k]? = some o' → D k = true → ∀ e ∈ o'.after, Region.binds .any e = true → D e.on = true) → ops[i]? = some o → (∀ e ∈ o.after, Region.binds .any e = true → D e.on = true) → bef i j = true → D j = true)
    (hlt : ∀ i j, bef i j = true → j < i)
    (htouch : ∀ i j h, i < j → j < ops.size → h ∈ (I i).touch → h ∈ (I j).touch → bef j i = true)
    (hfresh : ∀ i j, i < ops.size → j < ops.size → i ≠ j → ∀ c ∈ (I j).news, c ∉ (I i).news)
    (hmk : ∀ i j, i < j → j < ops.size → ∀ c ∈ (I j).news, c ∉ (I i).touch)
    (hnh : ∀ i, i < ops.size → ∀ c ∈ (I i).news, mem0[c]? = some .gone ∧ cx.m0 ≤ c ∧ c ≠ r)
    (hr : mem0[r]? = some .gone) (hrt : ∀ i, i < ops.size → r ∉ (I i).touch)
    (hQ : ∀ env a w, RS cx ops I mem0 tm0 TB r (fun _ => true) env a w → Q .normal a w) :
    ∀ (fuel : Nat) (listed : Array Bool) (env : Env) (a : Act) (w : World), un listed ops.size = fuel → RS cx ops I mem0 tm0 TB r (fun j => listed.getD j true) env a w → wpAny P .any ops Q fuel listed a w := by
  have ready_spec : ∀ (listed : Array Bool) i, i ∈ Region.ready .any ops listed ↔ listed.getD i true = false ∧ ∃ o, ops[i]? = some o ∧ ∀ e ∈ o.after, Region.binds .any e = true → listed.getD e.on false = true := fun listed i => mem_ready
  have allD : ∀ (listed : Array Bool) env a w, (∀ i, i < ops.size → listed.getD i true = true) → RS cx ops I mem0 tm0 TB r (fun j => listed.getD j true) env a w → RS cx ops I mem0 tm0 TB r (fun _ => true) env a w := by
    intro listed env a w hall h
    refine ⟨h.defers, h.size, fun t ht => h.slots t (fun j o hj hd => hall j (Array.getElem?_eq_some_iff.1 hj).1), ?_, (fun j hj hD => by cases hD), h.spare, fun _ _ _ _ _ _ _ => rfl, h.fix, fun t ht => h.slots0 t (fun j o hj hd => absurd (ht j o hj hd) (by simp))⟩
    have : foldE I mem0 (fun _ => true) ops.size = foldE I mem0 (fun j => listed.getD j true) ops.size := by
      apply List.ext_getElem?
      intro c
      exact foldE_agree (fun j hj _ => (hall j hj).symm)
    rw [this]; exact h.mem
  intro fuel
  induction fuel with
  | zero =>
    intro listed env a w hun h
    have hall := un_zero hun
    refine ⟨?_, hQ env a w (allD listed env a w hall h)⟩
    cases hrd : Region.ready .any ops listed with
    | nil => rfl
    | cons i l =>
      obtain ⟨h1, o, h2, _⟩ := (ready_spec listed i).1 (by rw [hrd]; simp)
      rw [hall i (Array.getElem?_eq_some_iff.1 h2).1] at h1
      cases h1
  | succ fuel ih =>
    intro listed env a w hun h
    refine ⟨fun hnil => ?_, fun i hi => ?_⟩
    · -- nothing is ready: all are listed
      have hall : ∀ n, ∀ i, i < n → i < ops.size → listed.getD i true = true := by
        intro n
        induction n with
        | zero => intro i hi; omega
        | succ n ihn =>
          intro i hi hs
          by_cases e : i < n
          · exact ihn i e hs
          · cases q : listed.getD i true with
            | true => rfl
            | false =>
              exfalso
              have hmem : i ∈ Region.ready .any ops listed := by
                refine (ready_spec listed i).2 ⟨q, ops[i], Array.getElem?_eq_getElem hs, fun e' he hb => ?_⟩
                have hlt' := hedge i _ (Array.getElem?_eq_getElem hs) e' he hb
                have := ihn e'.on (by omega) (by omega)
                rw [Array.getD_eq_getD_getElem?] at this ⊢
                cases hq : listed[e'.on]? with
                | none =>
                  rw [Array.getElem?_eq_none_iff] at hq
                  rw [Array.getD_eq_getD_getElem?, Array.getElem?_eq_none (by omega)] at q
                  cases q
                | some b => rw [hq] at this; exact this
              rw [hnil] at hmem
              cases hmem
      exact hQ env a w (allD listed env a w (fun i hi => hall ops.size i hi hi) h)
    · obtain ⟨hun', o, ho, hall⟩ := (ready_spec listed i).1 hi
      have his : i < ops.size := (Array.getElem?_eq_some_iff.1 ho).1
      have hallD : ∀ e ∈ o.after, Region.binds .any e = true → listed.getD e.on true = true := by
        intro e he hb
        have := hall e he hb
        rw [Array.getD_eq_getD_getElem?] at this ⊢
        cases hq : listed[e.on]? with
        | none => rw [hq] at this; cases this
        | some b => rw [hq] at this; exact this
      have hDbef : ∀ j, bef i j = true → listed.getD j true = true := fun j hb => hbef _ i j o h.closed ho hallD hb
      have hDaft : ∀ j, j < ops.size → bef j i = true → listed.getD j true = false := by
        intro j hj hb
        cases q : listed.getD j true with
        | false => rfl
        | true =>
          exfalso
          have := hbef _ j i (ops[j]) h.closed (Array.getElem?_eq_getElem hj) (fun e he hbi => h.closed j _ (Array.getElem?_eq_getElem hj) q e he hbi) hb
          rw [hun'] at this
          cases this
      refine hgood i o ho env a w (foldE I mem0 (fun j => listed.getD j true) ops.size) _ _ h.defers (fun t ht => h.slots t (fun j o' hj hd => hDbef j (ht j o' hj hd))) (fun t ht => h.slots0 t (fun j o' hj hd => hDaft j (Array.getElem?_eq_some_iff.1 hj).1 (ht j o' hj hd))) (foldE_length _ _ _ _) ?_ h.mem ?_ ?_ h.spare ?_
      · intro c hc
        refine foldE_agree (fun j hj hjt => ?_)
        by_cases e : j = i
        · subst e; rw [hun']; simp
        · rcases hc j hj e hjt with hb | hb
          · rw [hDbef j hb]; have := hlt i j hb; simp [this]
          · rw [hDaft j hj hb]; have := hlt j i hb
            have : ¬ j < i := by omega
            simp [this]
      · intro c hmks
        refine ⟨?_, h.fresh i his hun' c hmks⟩
        have e : (foldE I mem0 (fun j => listed.getD j true) ops.size)[c]? = (foldE I mem0 (fun _ => false) ops.size)[c]? := by
          refine foldE_agree (fun j hj hjt => ?_)
          by_cases e : j = i
          · subst e; exact hun'
          · rcases Nat.lt_or_gt_of_ne e with q | q
            · exact absurd hjt (hmk j i q his c hmks)
            · have ht : c ∈ (I i).touch := Inf.news_touch hmks
              exact hDaft j hj (htouch i j _ q hj ht hjt)
        rw [e, foldE_none (fun _ _ => rfl)]
        exact (hnh i his c hmks).1
      · have e : (foldE I mem0 (fun j => listed.getD j true) ops.size)[r]? = (foldE I mem0 (fun _ => false) ops.size)[r]? := foldE_agree (fun j hj hjt => absurd hjt (hrt j hj))
        rw [e, foldE_none (fun _ _ => rfl)]
        exact hr
      · intro env' u w' hle hoth hv hm
        refine ih (listed.setIfInBounds i true) env' (a.put o.dst u) w' (by have := un_set hun' his; omega) ?_
        have hlisted : i < listed.size := by
          rcases Nat.lt_or_ge i listed.size with k | k
          · exact k
          · rw [Array.getD_eq_getD_getElem?, Array.getElem?_eq_none k] at hun'; cases hun'
        have hget : ∀ j, (listed.setIfInBounds i true).getD j true = (listed.getD j true || decide (j = i)) := by
          intro j
          by_cases e : j = i
          · subst e
            rw [Array.getD_eq_getD_getElem?, Array.getElem?_setIfInBounds_self_of_lt hlisted]
            simp
          · rw [Array.getD_eq_getD_getElem?, Array.getD_eq_getD_getElem?, Array.getElem?_setIfInBounds_ne (Ne.symm e)]
            simp [e]
        refine ⟨by cases o.dst <;> exact h.defers, ?_, ?_, ?_, ?_, ?_, ?_, ?_, ?_⟩
        · cases o.dst with
          | none => exact h.size
          | some d => show (a.tmps.setIfInBounds d u).size = _; rw [Array.size_setIfInBounds]; exact h.size
        · intro t ht
          by_cases htd : o.dst = some t
          · by_cases hts : t < tm0.length
            · rw [hTB i o t ho htd hts, htd]
              show SV.rel env' _ ((a.tmps.setIfInBounds t u).getD t undef)
              rw [Array.getD_eq_getD_getElem?, Array.getElem?_setIfInBounds_self_of_lt (by rw [h.size]; exact hts)]
              exact hv
            · rw [hTBout t (by omega)]; trivial
          · have e : (a.put o.dst u).tmps.getD t undef = a.tmps.getD t undef := by
              cases hd : o.dst with
              | none => rfl
              | some d =>
                show (a.tmps.setIfInBounds d u).getD t undef = _
                rw [Array.getD_eq_getD_getElem?, Array.getD_eq_getD_getElem?, Array.getElem?_setIfInBounds_ne (fun e => htd (by rw [hd, e]))]
            rw [e]
            refine SV.rel_le hle (h.slots t (fun j o' hj hd => ?_))
            have := ht j o' hj hd
            rw [hget] at this
            have hne : j ≠ i := fun e => by subst e; rw [ho] at hj; cases hj; exact htd hd
            rcases Bool.or_eq_true_iff.1 this with q | q
            · exact q
            · exact absurd (of_decide_eq_true q) hne
        · have e : foldE I mem0 (fun j => (listed.setIfInBounds i true).getD j true) ops.size = (I i).app (foldE I mem0 (fun j => listed.getD j true) ops.size) := by
            rw [show (fun j => (listed.setIfInBounds i true).getD j true) = (fun j => listed.getD j true || decide (j = i)) from funext hget]
            refine foldE_add his hun' (fun j c hj hij hDj hti htj => ?_)
            have := hDaft j hj (htouch i j c hij hj hti htj)
            rw [this] at hDj
            cases hDj
          rw [e]; exact hm
        · intro j hj hD c hmks
          rw [hget] at hD
          simp only [Bool.or_eq_false_iff, decide_eq_false_iff_not] at hD
          rw [hoth c (hfresh i j his hj (Ne.symm hD.2) c hmks)]
          exact h.fresh j hj hD.1 c hmks
        · rw [hoth _ (fun hmi => (hnh i his r hmi).2.2 rfl)]
          exact h.spare
        · intro j o' hj hD e he hb
          rw [hget] at hD ⊢
          rcases Bool.or_eq_true_iff.1 hD with q | q
          · rw [h.closed j o' hj q e he hb]; rfl
          · simp only [decide_eq_true_eq] at q
            subst q
            rw [ho] at hj
            cases hj
            rw [hallD e he hb]; rfl
        · intro c hc
          rw [hoth c (fun hmi => by have := (hnh i his c hmi).2.1; omega)]
          exact h.fix c hc
        · intro t ht
          have htd : o.dst ≠ some t := fun hd => by
            have := ht i o ho hd
            rw [hget] at this
            simp at this
          have e : (a.put o.dst u).tmps.getD t undef = a.tmps.getD t undef := by
            cases hd : o.dst with
            | none => rfl
            | some d =>
              show (a.tmps.setIfInBounds d u).getD t undef = _
              rw [Array.getD_eq_getD_getElem?, Array.getD_eq_getD_getElem?, Array.getElem?_setIfInBounds_ne (fun e => htd (by rw [hd, e]))]
          rw [e]
          refine SV.rel_le hle (h.slots0 t (fun j o' hj hd => ?_))
          have := ht j o' hj hd
          rw [hget] at this
          simp only [Bool.or_eq_false_iff] at this
          exact this.1
end
end E
end Go.Proofs.Ytajdkbgbekdbmaa

/- A symbolic run of Go code: regions that draw their order, run in the text's order. No condition. -/
namespace Go.Proofs.Ytajdkbgbekdbmaa
set_option linter.unusedVariables false
set_option linter.unusedSimpArgs false
namespace E
open Go.RowKit

/-! which operation comes before which -/
def maskOf (acc : List Nat) (o : Oper) : Nat := o.after.toList.foldl (fun s e => if Region.binds .any e then s ||| 2 ^ e.on ||| acc.getD e.on 0 else s) 0
def befsAux : List Oper → List Nat → List Nat
  | [], acc => acc
  | o :: os, acc => befsAux os (acc ++ [maskOf acc o])
def befs (ops : List Oper) : List Nat := befsAux ops []
def bef (masks : List Nat) (i j : Nat) : Bool := (masks.getD i 0).testBit j

theorem foldl_mask (acc : List Nat) : ∀ (l : List Edge) (s j : Nat), (l.foldl (fun s e => if Region.binds .any e then s ||| 2 ^ e.on ||| acc.getD e.on 0 else s) s).testBit j = true →
    s.testBit j = true ∨ ∃ e ∈ l, Region.binds .any e = true ∧ (e.on = j ∨ (acc.getD e.on 0).testBit j = true)
  | [], s, j, h => .inl h
  | e :: l, s, j, h => by
    simp only [List.foldl_cons] at h
    rcases foldl_mask acc l _ j h with k | ⟨e', he, hb, hj⟩
    · split at k
      · rename_i hb
        rw [Nat.testBit_or, Nat.testBit_or, Bool.or_eq_true, Bool.or_eq_true] at k
        rcases k with (k | k) | k
        · exact .inl k
        · rw [Nat.testBit_two_pow] at k
          exact .inr ⟨e, by simp, hb, .inl (of_decide_eq_true k)⟩
        · exact .inr ⟨e, by simp, hb, .inr k⟩
      · exact .inl k
    · exact .inr ⟨e', List.mem_cons_of_mem _ he, hb, hj⟩
theorem befsAux_get : ∀ (l : List Oper) (acc : List Nat), (∀ i, i < acc.length → (befsAux l acc).getD i 0 = acc.getD i 0) ∧
    (∀ k o, l[k]? = some o → ∃ acc', (befsAux l acc).getD (acc.length + k) 0 = maskOf acc' o ∧ acc'.length = acc.length + k ∧ ∀ i, i < acc'.length → acc'.getD i 0 = (befsAux l acc).getD i 0)
  | [], acc => ⟨fun i _ => rfl, fun k o h => by simp at h⟩
  | x :: l, acc => by
    obtain ⟨h1, h2⟩ := befsAux_get l (acc ++ [maskOf acc x])
    have hold : ∀ i, i < acc.length → (befsAux l (acc ++ [maskOf acc x])).getD i 0 = acc.getD i 0 := fun i hi => by
      rw [h1 i (by simp; omega)]
      rw [List.getD_eq_getElem?_getD, List.getElem?_append_left hi, ← List.getD_eq_getElem?_getD]
    refine ⟨hold, fun k o hk => ?_⟩
    cases k with
    | zero =>
      simp at hk
      subst hk
      refine ⟨acc, ?_, rfl, fun i hi => (hold i hi).symm⟩
      show (befsAux l (acc ++ [maskOf acc x])).getD (acc.length + 0) 0 = _
      rw [h1 _ (by simp)]
      rw [List.getD_eq_getElem?_getD]
      simp
    | succ k =>
      simp at hk
      obtain ⟨acc', e1, e2, e3⟩ := h2 k o hk
      refine ⟨acc', ?_, ?_, e3⟩
      · show (befsAux l (acc ++ [maskOf acc x])).getD (acc.length + (k + 1)) 0 = _
        rw [← e1]; congr 1; simp; omega
      · rw [e2]; simp; omega
theorem bef_spec {l : List Oper} {i j : Nat} {o : Oper} (ho : l[i]? = some o) (h : bef (befs l) i j = true) : ∃ e ∈ o.after, Region.binds .any e = true ∧ (e.on = j ∨ (e.on < i ∧ bef (befs l) e.on j = true)) := by
  obtain ⟨acc', e1, e2, e3⟩ := (befsAux_get l []).2 i o ho
  unfold bef befs at h
  simp only [List.length_nil, Nat.zero_add] at e1 e2
  rw [e1] at h
  rcases foldl_mask _ _ _ _ h with k | ⟨e, he, hb, k⟩
  · simp at k
  · refine ⟨e, by simpa using he, hb, ?_⟩
    rcases k with k | k
    · exact .inl k
    · have hlt : e.on < acc'.length := by
        rcases Nat.lt_or_ge e.on acc'.length with q | q
        · exact q
        · rw [List.getD_eq_getElem?_getD, List.getElem?_eq_none q] at k; simp at k
      refine .inr ⟨by omega, ?_⟩
      unfold bef befs
      rw [← e3 _ hlt]
      exact k
theorem bef_down {ops : Array Oper} (D : Nat → Bool) (hc : ∀ k o', ops[k]? = some o' → D k = true → ∀ e ∈ o'.after, Region.binds .any e = true → D e.on = true) :
    ∀ (i : Nat) (o : Oper) (j : Nat), ops[i]? = some o → (∀ e ∈ o.after, Region.binds .any e = true → D e.on = true) → bef (befs ops.toList) i j = true → D j = true := by
  intro i
  induction i using Nat.strongRecOn with
  | _ i ih =>
    intro o j ho hp h
    obtain ⟨e, he, hb, k⟩ := bef_spec (l := ops.toList) (by simpa using ho) h
    have hD := hp e he hb
    rcases k with k | ⟨hlt, k⟩
    · rw [← k]; exact hD
    · have his : i < ops.size := (Array.getElem?_eq_some_iff.1 ho).1
      have ho' : ops[e.on]? = some (ops[e.on]'(by omega)) := Array.getElem?_eq_getElem (by omega)
      exact ih e.on hlt _ j ho' (hc e.on _ ho' hD) k

/-! the run -/
def visAux (m t : Nat) : List (Option Tmp) → Nat → Bool
  | [], _ => true
  | some d :: ds, j => (if d = t then m.testBit j else true) && visAux m t ds (j + 1)
  | none :: ds, j => visAux m t ds (j + 1)
theorem visAux_spec {m t : Nat} : ∀ {ds : List (Option Tmp)} {j : Nat}, visAux m t ds j = true → ∀ k, ds[k]? = some (some t) → m.testBit (j + k) = true
  | [], j, h, k, e => by simp at e
  | some d :: ds, j, h, 0, e => by
    simp only [visAux, Bool.and_eq_true] at h
    simp at e
    subst e
    simpa using h.1
  | none :: ds, j, h, 0, e => by simp at e
  | some d :: ds, j, h, k + 1, e => by
    simp only [visAux, Bool.and_eq_true] at h
    simp at e
    have := visAux_spec h.2 k e
    rwa [show j + 1 + k = j + (k + 1) by omega] at this
  | none :: ds, j, h, k + 1, e => by
    simp only [visAux] at h
    simp at e
    have := visAux_spec h k e
    rwa [show j + 1 + k = j + (k + 1) by omega] at this
/-- What is written to a slot is so behind operation i. -/
def visAft (masks : List Nat) (i t : Nat) : List (Option Tmp) → Nat → Bool
  | [], _ => true
  | some d :: ds, j => (if d = t then bef masks j i else true) && visAft masks i t ds (j + 1)
  | none :: ds, j => visAft masks i t ds (j + 1)
theorem visAft_spec {masks : List Nat} {i t : Nat} : ∀ {ds : List (Option Tmp)} {j : Nat}, visAft masks i t ds j = true → ∀ k, ds[k]? = some (some t) → bef masks (j + k) i = true
  | [], j, h, k, e => by simp at e
  | some d :: ds, j, h, 0, e => by
    simp only [visAft, Bool.and_eq_true] at h
    simp at e
    subst e
    simpa using h.1
  | none :: ds, j, h, 0, e => by simp at e
  | some d :: ds, j, h, k + 1, e => by
    simp only [visAft, Bool.and_eq_true] at h
    simp at e
    have := visAft_spec h.2 k e
    rwa [show j + 1 + k = j + (k + 1) by omega] at this
  | none :: ds, j, h, k + 1, e => by
    simp only [visAft] at h
    simp at e
    have := visAft_spec h k e
    rwa [show j + 1 + k = j + (k + 1) by omega] at this
def visB (masks : List Nat) (dsts : List (Option Tmp)) (i : Nat) : Operand → Bool
  | .tmp t => visAux (masks.getD i 0) t dsts 0 || visAft masks i t dsts 0
  | _ => true

def goneAll (mem : List Seg) : List Nat → List Seg
  | [] => mem
  | h :: hs => goneAll (mem.set h .gone) hs
def maskMem (masks : List Nat) (i : Nat) : List (List Nat) → Nat → List Seg → List Seg
  | [], _, mem => mem
  | hs :: W, j, mem => maskMem masks i W (j + 1) (if j = i || bef masks i j || bef masks j i then mem else goneAll mem hs)

theorem goneAll_get : ∀ (hs : List Nat) (mem : List Seg) (h : Nat) (s : Seg), (goneAll mem hs)[h]? = some s → s = Seg.gone ∨ (h ∉ hs ∧ mem[h]? = some s)
  | [], mem, h, s, e => .inr ⟨by simp, e⟩
  | x :: hs, mem, h, s, e => by
    rcases goneAll_get hs _ h s e with k | ⟨k1, k2⟩
    · exact .inl k
    · by_cases q : x = h
      · subst q
        rw [List.getElem?_set] at k2
        simp at k2
        exact .inl k2.2.symm
      · rw [List.getElem?_set_ne q] at k2
        exact .inr ⟨by simp; exact ⟨fun e => q e.symm, k1⟩, k2⟩
theorem maskMem_get (masks : List Nat) (i : Nat) : ∀ (W : List (List Nat)) (j : Nat) (mem : List Seg) (h : Nat) (s : Seg), (maskMem masks i W j mem)[h]? = some s →
    s = Seg.gone ∨ (mem[h]? = some s ∧ ∀ k hs, W[k]? = some hs → h ∈ hs → j + k = i ∨ bef masks i (j + k) = true ∨ bef masks (j + k) i = true)
  | [], j, mem, h, s, e => .inr ⟨e, fun k hs e => by simp at e⟩
  | x :: W, j, mem, h, s, e => by
    unfold maskMem at e
    rcases maskMem_get masks i W (j + 1) _ h s e with k | ⟨k1, k2⟩
    · exact .inl k
    · have tail : ∀ k hs, W[k]? = some hs → h ∈ hs → j + (k + 1) = i ∨ bef masks i (j + (k + 1)) = true ∨ bef masks (j + (k + 1)) i = true := fun k hs hk hh => by
        have := k2 k hs hk hh
        rwa [show j + 1 + k = j + (k + 1) by omega] at this
      split at k1
      · rename_i hc
        refine .inr ⟨k1, fun k hs hk hh => ?_⟩
        cases k with
        | zero => simpa [or_assoc] using hc
        | succ k => exact tail k hs (by simpa using hk) hh
      · rcases goneAll_get _ _ _ _ k1 with q | ⟨q1, q2⟩
        · exact .inl q
        · refine .inr ⟨q2, fun k hs hk hh => ?_⟩
          cases k with
          | zero => simp at hk; subst hk; exact absurd hh q1
          | succ k => exact tail k hs (by simpa using hk) hh

structure DR where
  inf : Inf
  tm : List SV
  obl : List Prop
  orc : List Bool

def mk? : Op → Bool
  | .box .. | .alloc .. | .buildSlice .. | .makeSlice .. | .makeChan .. => true
  | .call { callee := .builtin .append, args := _, argTypes := _ } => true
  | _ => false

/-- Which operations may make memory. -/
def mkq (Γ : List (FuncId × Sp)) : Op → Bool
  | .call { callee := .value (.func f), args := _, argTypes := _ } => match Γ.lookup f with
    | some (.lift _) => true
    | _ => false
  | .call { callee := .value (.tmp _), args := _, argTypes := _ } => true
  | op => mk? op
def sel (b : Bool) (x y : Operand) : Operand := bif b then x else y
/-- One operation of a region, that runs. -/
def drawOp (P : Program) (Γ : List (FuncId × Sp)) (vis : Operand → Bool) (op : Op) (mem : List Seg) (nh : Nat) (tm : List SV) (orc : List Bool) : Option DR :=
  match op with
  | .pick c x y => if vis c then match decide? tm orc c with
    | some (b, tm, obl, orc) => if vis (sel b x y) then match get tm (sel b x y) with
      | .nv r => some ⟨⟨.nv r, .none, nh, []⟩, tm, obl, orc⟩
      | _ => none
      else none
    | none => none
    else none
  | .call { callee := .value x, args, argTypes := _ } => if args.toList.all vis && vis x then match calleeOf tm x with
    | some (f, caps) => match Γ.lookup f with
      | some (.rd g) => match g ((args.toList.map fun x => norm (get tm x)) ++ caps) mem with
        | some (r, obl) => some ⟨⟨r, .none, nh, []⟩, tm, obl, orc⟩
        | none => none
      | some (.lift g) => match g ((args.toList.map fun x => norm (get tm x)) ++ caps) mem with
        | some (cs, obl0) => match callCS cs ((args.toList.map fun x => norm (get tm x)) ++ caps) mem nh with
          | some (r, sets, k, obl) => if (List.range k).all (fun i => (keysOf sets).contains (nh + i)) then some ⟨⟨r, .none, nh, sets⟩, tm, obl0 ++ obl, orc⟩ else none
          | none => none
        | none => none
      | _ => none
    | none => none
    else none
  | op => if op.operands.toList.all vis then match evalCore P op (op.operands.toList.map (get tm)) mem nh with
    | some (r, eff, obl) => if eff.makes = mk? op then some ⟨⟨r, eff, nh, []⟩, tm, obl, orc⟩ else none
    | none => none
    else none

def drawStep (P : Program) (Γ : List (FuncId × Sp)) (ops : Array Oper) (vis : Operand → Bool) (o : Oper) (mem : List Seg) (nh : Nat) (tm : List SV) (orc : List Bool) : Option DR :=
  match o.guard with
  | none => drawOp P Γ vis o.op mem nh tm orc
  | some (j, want) => match (ops[j]?).bind (·.dst) with
    | some d => if vis (.tmp d) then if isUndef (tm.getD d .any) then some ⟨⟨.tup [], .none, nh, []⟩, tm, [], orc⟩ else match decide? tm orc (.tmp d) with
      | some (c, tm, obl0, orc) => if c == want then match drawOp P Γ vis o.op mem nh tm orc with
          | some r => some ⟨r.inf, r.tm, obl0 ++ r.obl, r.orc⟩
          | none => none
        else some ⟨⟨.tup [], .none, nh, []⟩, tm, obl0, orc⟩
      | none => none
      else none
    | none => none

def drawGo (P : Program) (Γ : List (FuncId × Sp)) (ops : Array Oper) (masks : List Nat) (dsts : List (Option Tmp)) (W : List (List Nat)) (s r : Nat) : List Oper → Nat → Nat → List SV → List Seg → List Bool → Option (List Inf × List SV × List Seg × List Prop × List Bool)
  | [], _, _, tm, mem, orc => some ([], tm, mem, [], orc)
  | o :: os, i, nh, tm, mem, orc =>
    match drawStep P Γ ops (visB masks dsts i) o (maskMem masks i W 0 mem) (if mkq Γ o.op then nh else r) tm orc with
    | some d => match drawGo P Γ ops masks dsts W s r os (i + 1) (if mkq Γ o.op then nh + s else nh) (put d.tm o.dst d.inf.v) (d.inf.app mem) d.orc with
      | some (infs, tm, mem, obl, orc) => some (d.inf :: infs, tm, mem, d.obl ++ obl, orc)
      | none => none
    | none => none

def edgesB : List Oper → Nat → Bool
  | [], _ => true
  | o :: os, i => o.after.toList.all (fun e => !Region.binds .any e || decide (e.on < i)) && edgesB os (i + 1)
def pairB (masks : List Nat) (n : Nat) (dsts : List (Option Tmp)) (infs : List Inf) : Bool :=
  (List.range n).all fun i => (List.range n).all fun j =>
    if i < j then
      match infs[i]?, infs[j]?, dsts[i]?, dsts[j]? with
      | some x, some y, some d, some d' =>
        (match d, d' with | some a, some b => decide (a ≠ b) | _, _ => true) &&
        (if x.touch.all (fun h => !y.touch.contains h) then true else bef masks j i) &&
        y.news.all (fun c => !x.touch.contains c)
      | _, _, _, _ => false
    else true
def oneB (base r : Nat) (mem0 : List Seg) (infs : List Inf) : Bool :=
  infs.all fun x => x.news.all (fun c => decide (base ≤ c) && decide (c ≠ r) && decide (c < mem0.length)) && !x.touch.contains r

/-- A region that draws its order. -/
def drawOpsS (s : Nat) (P : Program) (Γ : List (FuncId × Sp)) (ops : List Oper) (st : St) (orc : List Bool) : Option (St × List Prop × List Bool) :=
  let masks := befs ops
  let dsts := ops.map (·.dst)
  let base := st.mem.length
  let K := (ops.filter fun o => mkq Γ o.op).length * s
  let mem0 := st.mem ++ List.replicate (K + 1) .gone
  match drawGo P Γ ops.toArray masks dsts [] s (base + K) ops 0 base st.tm mem0 orc with
  | some (infs0, _, _, _, _) =>
    match drawGo P Γ ops.toArray masks dsts (infs0.map Inf.touch) s (base + K) ops 0 base st.tm mem0 orc with
    | some (infs, tm, mem, obl, orc) =>
      if infs.map Inf.touch = infs0.map Inf.touch ∧ edgesB ops 0 ∧ pairB masks ops.length dsts infs ∧ oneB base (base + K) mem0 infs then some (⟨tm, mem.take (base + K)⟩, obl, orc) else none
    | none => none
  | none => none
/-- One handle for each operation that makes memory; where that will not do, two. -/
def drawOps (P : Program) (Γ : List (FuncId × Sp)) (ops : List Oper) (st : St) (orc : List Bool) : Option (St × List Prop × List Bool) :=
  match drawOpsS 1 P Γ ops st orc with
  | some r => some r
  | none => drawOpsS 2 P Γ ops st orc
end E
end Go.Proofs.Ytajdkbgbekdbmaa

/- A symbolic run of Go code: regions that draw their order: the run tells the truth. No condition. -/
namespace Go.Proofs.Ytajdkbgbekdbmaa
set_option linter.unusedVariables false
set_option linter.unusedSimpArgs false
namespace E
open Go.RowKit

theorem decide?_refine {tm tm' : List SV} {orc orc' : List Bool} {x : Operand} {c : Bool} {obl : List Prop} (h : decide? tm orc x = some (c, tm', obl, orc')) (ho : AllT obl) :
    tm'.length = tm.length ∧ ∀ t env u, (tm.getD t .any).rel env u → (tm'.getD t .any).rel env u := by
  unfold decide? at h
  split at h
  · rename_i t
    split at h
    · simp only [Option.some.injEq, Prod.mk.injEq] at h
      obtain ⟨rfl, rfl, rfl, rfl⟩ := h
      exact ⟨rfl, fun _ _ _ k => k⟩
    · rename_i b hb
      split at h
      · simp only [Option.some.injEq, Prod.mk.injEq] at h
        obtain ⟨rfl, rfl, rfl, rfl⟩ := h
        simp only [AllT, and_true] at ho
        subst ho
        refine ⟨by simp, fun q env u k => ?_⟩
        by_cases e : t = q
        · subst e
          rw [hb] at k
          by_cases hl : t < tm.length
          · rw [List.getD_eq_getElem?_getD, List.getElem?_set_self hl]; exact k
          · rw [List.getD_eq_getElem?_getD, List.getElem?_eq_none (by rw [List.length_set]; exact Nat.le_of_not_lt hl)]; trivial
        · rw [List.getD_eq_getElem?_getD, List.getElem?_set_ne e, ← List.getD_eq_getElem?_getD]; exact k
      · cases h
    · cases h
  · simp only [Option.some.injEq, Prod.mk.injEq] at h
    obtain ⟨rfl, rfl, rfl, rfl⟩ := h
    exact ⟨rfl, fun _ _ _ k => k⟩
  · cases h

/-- An operand that is seen. -/
def Seen (env : Env) (a : Act) (tm : List SV) (x : Operand) : Prop := (get tm x).rel env (a.eval x)
theorem decide?_seen {env : Env} {tm tm' : List SV} {orc orc' : List Bool} {x : Operand} {c : Bool} {obl : List Prop} {a : Act} (h : decide? tm orc x = some (c, tm', obl, orc')) (ho : AllT obl) (hs : Seen env a tm x) : a.eval x = .bool c := by
  unfold decide? at h
  split at h
  · rename_i t
    have hv : (tm.getD t .any).rel env (a.tmps.getD t undef) := hs
    split at h
    · rename_i b hb
      simp only [Option.some.injEq, Prod.mk.injEq] at h
      obtain ⟨rfl, rfl, rfl, rfl⟩ := h
      rw [hb] at hv
      exact hv
    · rename_i b hb
      split at h
      · simp only [Option.some.injEq, Prod.mk.injEq] at h
        obtain ⟨rfl, rfl, rfl, rfl⟩ := h
        simp only [AllT, and_true] at ho
        subst ho
        rw [hb] at hv
        exact hv
      · cases h
    · cases h
  · simp only [Option.some.injEq, Prod.mk.injEq] at h
    obtain ⟨rfl, rfl, rfl, rfl⟩ := h
    rfl
  · cases h
theorem Seen.refine {env : Env} {a : Act} {tm tm' : List SV} {x : Operand} (h : Seen env a tm x) (hr : ∀ t env u, (tm.getD t .any).rel env u → (tm'.getD t .any).rel env u) : Seen env a tm' x := by
  cases x with
  | tmp t => exact hr t env _ h
  | const v => exact h
  | func f => exact h
  | global g => exact h

theorem seen_all {env : Env} {a : Act} {tm : List SV} : ∀ {l : List Operand}, (∀ x ∈ l, Seen env a tm x) → AllSV env (l.map (get tm)) (l.map a.eval)
  | [], _ => trivial
  | x :: l, h => ⟨h x (by simp), seen_all (fun y hy => h y (by simp [hy]))⟩
theorem seen_norm {env : Env} {a : Act} {tm : List SV} : ∀ {l : List Operand}, (∀ x ∈ l, Seen env a tm x) → AllSV env (l.map fun x => norm (get tm x)) (l.map a.eval)
  | [], _ => trivial
  | x :: l, h => ⟨norm_rel (h x (by simp)), seen_norm (fun y hy => h y (by simp [hy]))⟩

section
variable {P : Program} {Γ : List (FuncId × Sp)} {env : Env} {w0 w : World} {S : Nat → Prop}

theorem drawOp_good (hΓ : CtxOk P Γ) {vis : Operand → Bool} {o : Oper} {memM mem : List Seg} {nh : Nat} {tm : List SV} {orc : List Bool} {d : DR} {a : Act} (h : drawOp P Γ vis o.op memM nh tm orc = some d) (ho : AllT d.obl)
    (hs : ∀ x, vis x = true → Seen env a tm x) (hle : MemLe memM mem) (hm : MemOk env mem w0 w S) (hsp : mkq Γ o.op = false → mem[nh]? = some .gone ∧ env nh = none) (hnw : ∀ c ∈ d.inf.news, mem[c]? = some .gone ∧ env c = none)
    {K : Act → World → Prop} {Q : Exit → Act → World → Prop} (hK : ∀ env' u w', env.le env' → (∀ h, h ∉ d.inf.news → env' h = env h) → d.inf.v.rel env' u → MemOk env' (putAll (d.inf.eff.apply nh mem) d.inf.sets) w0 w' S → K (a.put o.dst u) w') :
    o.wp P a w K Q ∧ d.inf.nh = nh ∧ d.tm.length = tm.length ∧ (∀ t env u, (tm.getD t .any).rel env u → (d.tm.getD t .any).rel env u) := by
  obtain ⟨dst, op, type, pos, after, guard⟩ := o
  simp only at h hK
  unfold drawOp at h
  split at h
  · -- pick
    rename_i c x y
    split at h
    · rename_i hvc
      split at h
      · rename_i b tm1 obl1 orc1 hd
        split at h
        · rename_i hvz
          split at h
          · rename_i r hr
            simp only [Option.some.injEq] at h; subst h
            have h1 := decide?_seen hd ho (hs c hvc)
            obtain ⟨hl, hrf⟩ := decide?_refine hd ho
            refine ⟨wp_of_yield (u := a.eval (sel b x y)) (w' := w) (.inl ?_) (hK env _ w (Env.le_refl _) (fun _ _ => rfl) (by rw [← hr]; exact (hs _ hvz).refine hrf) hm), rfl, hl, hrf⟩
            simp only [execOp, h1, asBool, Sem.run_bind, Sem.run_pure, Result.andThen_ok]
            cases b <;> rfl
          · cases h
        · cases h
      · cases h
    · cases h
  · -- call
    rename_i x args ts
    split at h
    · rename_i hv
      rw [Bool.and_eq_true] at hv
      obtain ⟨hv, hvx⟩ := hv
      split at h
      · rename_i f caps hcal
        obtain ⟨cs0, hcs, hrun⟩ := resolve_run (P := P) (args := args) (ts := ts) (dst := dst) (type := type) (pos := pos) (after := after) (guard := guard) (calleeOf_rel hcal (hs x hvx))
        have hargs : AllSV env ((args.toList.map fun x => norm (get tm x)) ++ caps) (args.toList.map a.eval ++ cs0) := (seen_norm (fun x hx => hs x (List.all_eq_true.1 hv x hx))).append hcs
        split at h
        · rename_i g hl
          split at h
          · rename_i r obl hg
            simp only [Option.some.injEq] at h; subst h
            rcases hΓ f _ hl with ⟨he, hsp'⟩ | ⟨g', e', hx⟩
            case inr =>
              obtain rfl := Sp.rd.inj e'
              obtain ⟨v, h1, h2⟩ := hx _ _ _ hg ho env _ hargs w
              refine ⟨wp_of_yield (u := v) (w' := w) (.inl ?_) (hK env v w (Env.le_refl _) (fun _ _ => rfl) h2 hm), rfl, rfl, fun _ _ _ k => k⟩
              rw [hrun]
              exact h1
            have hg' := hsp'.1 _ _ _ _ hle hg
            have hc := hsp'.2 _ _ _ _ hg' ho env w0 w S _ hargs hm
            refine ⟨?_, rfl, rfl, fun _ _ _ k => k⟩
            unfold Oper.wp
            rw [hrun, callFunc_run he _ w]
            show Calls P f _ w _
            refine hc.mono ?_
            rintro e w' ⟨v, rfl, hv', hx⟩
            exact hK env _ w' (Env.le_refl _) (fun _ _ => rfl) hv' (hm.trans hx)
          · cases h
        · rename_i g hl
          split at h
          · rename_i cs obl0 hg
            split at h
            · rename_i r sets k obl hcc
              split at h
              · rename_i hk
                simp only [Option.some.injEq] at h; subst h
                rcases hΓ f _ hl with ⟨he, hsp'⟩ | ⟨g', e', hx⟩
                case inr => cases e'
                obtain ⟨o0, o1⟩ := AllT.append.1 ho
                have hnews : ∀ i, i < k → nh + i ∈ (Inf.mk r .none nh sets).news := fun i hi => by
                  have := List.all_eq_true.1 hk i (List.mem_range.2 hi)
                  unfold Inf.news
                  rw [if_neg (by simp [Eff.makes])]
                  refine List.mem_filter.2 ⟨by simpa using this, Nat.ble_eq_true_of_le (show nh ≤ nh + i by omega)⟩
                have hc := callCS_sound (hsp' _ _ _ _ hg o0) hcc o1 (fun ys ρ m q => leMem_mono hle q) hargs hm (fun i hi => hnw _ (hnews i hi))
                refine ⟨?_, rfl, rfl, fun _ _ _ k => k⟩
                unfold Oper.wp
                rw [hrun, callFunc_run he _ w]
                show Calls P f _ w _
                refine hc.mono ?_
                rintro e w' ⟨v, env', rfl, h1, h2, h3, h4⟩
                refine hK env' _ w' h1 (fun c hc => h2 c (fun q => ?_)) h3 h4
                have := hnews (c - nh) (by omega)
                rw [show nh + (c - nh) = c by omega] at this
                exact hc this
              · cases h
            · cases h
          · cases h
        · cases h
      · cases h
    · cases h
  · rename_i op' n1
    split at h
    · rename_i hv
      split at h
      · rename_i r eff obl hc
        split at h
        · rename_i hmk
          simp only [Option.some.injEq] at h; subst h
          have hx : AllSV env (op.operands.toList.map (get tm)) (op.operands.toList.map a.eval) := seen_all (fun x hx => hs x (List.all_eq_true.1 hv x hx))
          have hq : mkq Γ op = mk? op := by
            unfold mkq
            split
            · exact absurd rfl (n1 _ _ _)
            · exact absurd rfl (n1 _ _ _)
            · rfl
          have hnh : mem[nh]? = some .gone ∧ env nh = none := by
            by_cases q : eff.makes = true
            · exact hnw nh (by unfold Inf.news; rw [if_pos q]; simp)
            · exact hsp (by show mkq Γ op = false; rw [hq, ← hmk]; simpa using q)
          obtain ⟨u, env', w', h1, h2, h3⟩ := core_sound (o := ⟨dst, op, type, pos, after, guard⟩) (ρ := a.eval) (evalCore_mono hle hc) ho hx hm hnh.1 hnh.2
          refine ⟨wp_of_yield h1 (hK env' u w' h3.le (fun k hk => ?_) h2 h3.ok), rfl, rfl, fun _ _ _ k => k⟩
          by_cases hm' : eff.makes = true
          · exact h3.other k (fun e => hk (by unfold Inf.news; rw [if_pos hm', e]; simp))
          · rw [h3.same (by simpa using hm')]
        · cases h
      · cases h
    · cases h

theorem drawStep_good (hΓ : CtxOk P Γ) {ops : Array Oper} {vis : Operand → Bool} {i : Nat} {o : Oper} {memM mem : List Seg} {nh : Nat} {tm : List SV} {orc : List Bool} {d : DR} {a : Act} (hi : ops[i]? = some o) (h : drawStep P Γ ops vis o memM nh tm orc = some d) (ho : AllT d.obl)
    (hs : ∀ x, vis x = true → Seen env a tm x) (hle : MemLe memM mem) (hm : MemOk env mem w0 w S) (hsp : mkq Γ o.op = false → mem[nh]? = some .gone ∧ env nh = none) (hnw : ∀ c ∈ d.inf.news, mem[c]? = some .gone ∧ env c = none)
    {K : Act → World → Prop} {Q : Exit → Act → World → Prop} (hK : ∀ env' u w', env.le env' → (∀ h, h ∉ d.inf.news → env' h = env h) → d.inf.v.rel env' u → MemOk env' (putAll (d.inf.eff.apply nh mem) d.inf.sets) w0 w' S → K (a.put o.dst u) w') :
    wpOp P ops Q i K a w := by
  unfold wpOp
  simp only [hi]
  unfold drawStep at h
  split at h
  · rename_i hg
    rw [if_pos (by simp [Region.wanted, hg])]
    exact .inl (drawOp_good hΓ h ho hs hle hm hsp hnw hK).1
  · rename_i j want hg
    split at h
    · rename_i q hq
      split at h
      · rename_i hv
        split at h
        · rename_i hun
          simp only [Option.some.injEq] at h; subst h
          have hw : Region.wanted o (yielded ops a.tmps) = false := by
            have hs' : (tm.getD q .any).rel env (a.tmps.getD q undef) := hs _ hv
            have hv' := isUndef_rel hun hs'
            have hy : yielded ops a.tmps j = none := by
              unfold yielded
              rw [hq]
              simp only [Option.bind_some]
              rw [Array.getD_eq_getD_getElem?] at hv'
              cases hq2 : a.tmps[q]? with
              | none => rfl
              | some u => rw [hq2] at hv'; have hv2 : u = undef := hv'; subst hv2; rfl
            simp [Region.wanted, hg, hy]
          rw [hw, if_neg (by simp)]
          exact hK env undef w (Env.le_refl _) (fun _ _ => rfl) (undef_rel env) hm
        split at h
        · rename_i c tm1 obl0 orc0 hd
          have key : AllT obl0 → Region.wanted o (yielded ops a.tmps) = (c == want) ∧ ∀ t env u, (tm.getD t .any).rel env u → (tm1.getD t .any).rel env u := by
            intro ho0
            have h1 := decide?_seen hd ho0 (hs _ hv)
            refine ⟨?_, (decide?_refine hd ho0).2⟩
            have hv' : a.tmps[q]? = some (.bool c) := by
              have h1' : a.tmps.getD q undef = .bool c := h1
              rw [Array.getD_eq_getD_getElem?] at h1'
              cases hq' : a.tmps[q]? with
              | none => rw [hq'] at h1'; cases h1'
              | some u => rw [hq'] at h1'; exact congrArg some h1'
            simp [Region.wanted, hg, yielded, hq, hv']
          split at h
          · rename_i hc
            split at h
            · rename_i r hr
              simp only [Option.some.injEq] at h; subst h
              obtain ⟨o1, o2⟩ := AllT.append.1 ho
              obtain ⟨k1, k2⟩ := key o1
              rw [k1, if_pos hc]
              exact .inl (drawOp_good hΓ hr o2 (fun x hx => (hs x hx).refine k2) hle hm hsp hnw hK).1
            · cases h
          · rename_i hc
            simp only [Option.some.injEq] at h; subst h
            obtain ⟨k1, k2⟩ := key ho
            rw [k1, if_neg hc]
            exact hK env undef w (Env.le_refl _) (fun _ _ => rfl) (undef_rel env) hm
        · cases h
      · cases h
    · cases h

theorem drawStep_facts {ops : Array Oper} {vis : Operand → Bool} {o : Oper} {memM : List Seg} {nh : Nat} {tm : List SV} {orc : List Bool} {d : DR} (h : drawStep P Γ ops vis o memM nh tm orc = some d) (ho : AllT d.obl) :
    d.inf.nh = nh ∧ (d.inf.makes = true → mkq Γ o.op = true) ∧ d.tm.length = tm.length ∧ (∀ t env u, (tm.getD t .any).rel env u → (d.tm.getD t .any).rel env u) := by
  have one : ∀ {tm : List SV} {orc : List Bool} {d : DR}, drawOp P Γ vis o.op memM nh tm orc = some d → AllT d.obl → d.inf.nh = nh ∧ (d.inf.makes = true → mkq Γ o.op = true) ∧ d.tm.length = tm.length ∧ (∀ t env u, (tm.getD t .any).rel env u → (d.tm.getD t .any).rel env u) := by
    intro tm orc d h ho
    unfold drawOp at h
    split at h
    · split at h
      · split at h
        · rename_i hd
          split at h
          · split at h
            · simp only [Option.some.injEq] at h; subst h
              obtain ⟨hl, hrf⟩ := decide?_refine hd ho
              exact ⟨rfl, (fun e => by simp [Inf.makes, keysOf, Eff.makes] at e), hl, hrf⟩
            · cases h
          · cases h
        · cases h
      · cases h
    · rename_i x args ts hop
      rw [hop]
      split at h
      · split at h
        · rename_i f caps hcal
          split at h
          · split at h
            · simp only [Option.some.injEq] at h; subst h
              exact ⟨rfl, (fun e => by simp [Inf.makes, keysOf, Eff.makes] at e), rfl, fun _ _ _ k => k⟩
            · cases h
          · rename_i g hl
            split at h
            · split at h
              · split at h
                · simp only [Option.some.injEq] at h; subst h
                  refine ⟨rfl, fun _ => ?_, rfl, fun _ _ _ k => k⟩
                  unfold calleeOf at hcal
                  split at hcal
                  · simp only [Option.some.injEq, Prod.mk.injEq] at hcal
                    obtain ⟨rfl, _⟩ := hcal
                    simp only [mkq, hl]
                  · rfl
                  · cases hcal
                · cases h
              · cases h
            · cases h
          · cases h
        · cases h
      · cases h
    · rename_i n1 n2
      split at h
      · split at h
        · split at h
          · rename_i hmk
            simp only [Option.some.injEq] at h; subst h
            have hq : mkq Γ o.op = mk? o.op := by
              unfold mkq
              split
              · rename_i e; exact absurd e (n2 _ _ _)
              · rename_i e; exact absurd e (n2 _ _ _)
              · rfl
            refine ⟨rfl, fun e => ?_, rfl, fun _ _ _ k => k⟩
            rw [hq, ← hmk]
            simpa [Inf.makes, keysOf] using e
          · cases h
        · cases h
      · cases h
  unfold drawStep at h
  split at h
  · exact one h ho
  · split at h
    · split at h
      · split at h
        · simp only [Option.some.injEq] at h; subst h
          exact ⟨rfl, (fun e => by simp [Inf.makes, keysOf, Eff.makes] at e), rfl, fun _ _ _ k => k⟩
        split at h
        · rename_i hd
          split at h
          · split at h
            · rename_i r hr
              simp only [Option.some.injEq] at h; subst h
              obtain ⟨o1, o2⟩ := AllT.append.1 ho
              obtain ⟨k1, k2, k3, k4⟩ := one hr o2
              obtain ⟨hl, hrf⟩ := decide?_refine hd o1
              exact ⟨k1, k2, k3.trans hl, fun t env u k => k4 t env u (hrf t env u k)⟩
            · cases h
          · simp only [Option.some.injEq] at h; subst h
            obtain ⟨hl, hrf⟩ := decide?_refine hd ho
            exact ⟨rfl, (fun e => by simp [Inf.makes, keysOf, Eff.makes] at e), hl, hrf⟩
        · cases h
      · cases h
    · cases h

/-- What stands at each place of the run. -/
theorem drawGo_spec {ops : Array Oper} {masks : List Nat} {dsts : List (Option Tmp)} {W : List (List Nat)} {s r : Nat} : ∀ {l : List Oper} {i nh : Nat} {tm tmF : List SV} {mem memF : List Seg} {orc orcF : List Bool} {infs : List Inf} {obl : List Prop},
    drawGo P Γ ops masks dsts W s r l i nh tm mem orc = some (infs, tmF, memF, obl, orcF) → AllT obl →
    ∃ (T : Nat → List SV) (M : Nat → List Seg) (N : Nat → Nat), T 0 = tm ∧ M 0 = mem ∧ infs.length = l.length ∧ T l.length = tmF ∧ M l.length = memF ∧
      ∀ k o, l[k]? = some o → ∃ x orc d, infs[k]? = some x ∧ drawStep P Γ ops (visB masks dsts (i + k)) o (maskMem masks (i + k) W 0 (M k)) (if mkq Γ o.op then N k else r) (T k) orc = some d ∧ d.inf = x ∧ AllT d.obl ∧
        T (k + 1) = put d.tm o.dst x.v ∧ M (k + 1) = x.app (M k)
  | [], i, nh, tm, tmF, mem, memF, orc, orcF, infs, obl, h, ho => by
    simp only [drawGo, Option.some.injEq, Prod.mk.injEq] at h
    obtain ⟨rfl, rfl, rfl, rfl, rfl⟩ := h
    exact ⟨fun _ => tm, fun _ => mem, fun _ => nh, rfl, rfl, rfl, rfl, rfl, fun k o e => by simp at e⟩
  | o :: os, i, nh, tm, tmF, mem, memF, orc, orcF, infs, obl, h, ho => by
    simp only [drawGo] at h
    split at h
    · rename_i d hd
      split at h
      · rename_i infs' tm' mem' obl' orc' hr
        simp only [Option.some.injEq, Prod.mk.injEq] at h
        obtain ⟨rfl, rfl, rfl, rfl, rfl⟩ := h
        obtain ⟨o1, o2⟩ := AllT.append.1 ho
        obtain ⟨T, M, N, t0, m0, hlen, tF, mF, hall⟩ := drawGo_spec hr o2
        refine ⟨fun | 0 => tm | k + 1 => T k, fun | 0 => mem | k + 1 => M k, fun | 0 => nh | k + 1 => N k, rfl, rfl, by simp [hlen], tF, mF, fun k o' hk => ?_⟩
        cases k with
        | zero =>
          simp at hk
          subst hk
          exact ⟨d.inf, orc, d, by simp, hd, rfl, o1, t0, m0⟩
        | succ k =>
          simp at hk
          obtain ⟨x, orc1, d1, e1, e2, e3⟩ := hall k o' hk
          refine ⟨x, orc1, d1, by simpa using e1, ?_, e3⟩
          rw [show i + (k + 1) = i + 1 + k by omega]
          exact e2
      · cases h
    · cases h
end
end E
end Go.Proofs.Ytajdkbgbekdbmaa

/- A symbolic run of Go code: a region that draws its order. No condition. -/
namespace Go.Proofs.Ytajdkbgbekdbmaa
set_option linter.unusedVariables false
set_option linter.unusedSimpArgs false
namespace E
open Go.RowKit

theorem un_none : ∀ {n m : Nat}, n ≤ m → un (Array.replicate m false) n = n
  | 0, _, _ => rfl
  | n + 1, m, h => by
    unfold un
    rw [un_none (n := n) (by omega)]
    have : (Array.replicate m false).getD n true = false := by
      rw [Array.getD_eq_getD_getElem?, Array.getElem?_replicate, if_pos (by omega)]; rfl
    rw [this]; simp

def tabs (dst : Nat → Option Tmp) (I : Nat → Inf) (tm0 : List SV) : Nat → List SV
  | 0 => tm0
  | k + 1 => put (tabs dst I tm0 k) (dst k) (I k).v
theorem put_length (tm : List SV) (d : Option Tmp) (x : SV) : (put tm d x).length = tm.length := by cases d <;> simp [put]
theorem put_getD (tm : List SV) (d : Option Tmp) (x : SV) {t : Nat} (h : d ≠ some t) : (put tm d x).getD t .any = tm.getD t .any := by
  cases d with
  | none => rfl
  | some d =>
    show (tm.set d x).getD t .any = _
    rw [List.getD_eq_getElem?_getD, List.getElem?_set_ne (fun e => h (by rw [e])), ← List.getD_eq_getElem?_getD]
theorem tabs_length (dst : Nat → Option Tmp) (I : Nat → Inf) (tm0 : List SV) : ∀ k, (tabs dst I tm0 k).length = tm0.length
  | 0 => rfl
  | k + 1 => by unfold tabs; rw [put_length, tabs_length]
theorem tabs_after {dst : Nat → Option Tmp} {I : Nat → Inf} {tm0 : List SV} {t : Nat} : ∀ {i n : Nat}, i ≤ n → (∀ k, i ≤ k → k < n → dst k ≠ some t) → (tabs dst I tm0 n).getD t .any = (tabs dst I tm0 i).getD t .any
  | i, 0, h, _ => by
    have : i = 0 := by omega
    subst this; rfl
  | i, n + 1, h, k => by
    by_cases e : i = n + 1
    · subst e; rfl
    · show (put (tabs dst I tm0 n) (dst n) (I n).v).getD t .any = _
      rw [put_getD _ _ _ (k n (by omega) (by omega))]
      exact tabs_after (by omega) (fun q h1 h2 => k q h1 (by omega))

theorem edgesB_spec : ∀ {l : List Oper} {i : Nat}, edgesB l i = true → ∀ k o, l[k]? = some o → ∀ e ∈ o.after, Region.binds .any e = true → e.on < i + k
  | o :: os, i, h, 0, o', hk, e, he, hb => by
    simp only [edgesB, Bool.and_eq_true] at h
    simp at hk; subst hk
    have := List.all_eq_true.1 h.1 e (by simpa using he)
    simp only [hb, Bool.not_true, Bool.false_or, decide_eq_true_eq] at this
    omega
  | o :: os, i, h, k + 1, o', hk, e, he, hb => by
    simp only [edgesB, Bool.and_eq_true] at h
    simp at hk
    have := edgesB_spec h.2 k o' hk e he hb
    omega
  | [], i, h, k, o', hk, e, he, hb => by simp at hk

theorem all_of_getD {env : Env} : ∀ {l : List SV} {vs : List Value}, l.length = vs.length → (∀ t, t < l.length → (l.getD t .any).rel env (vs.getD t undef)) → AllSV env l vs
  | [], [], _, _ => trivial
  | x :: l, v :: vs, h, k => ⟨by simpa using k 0 (by simp), all_of_getD (by simpa using h) (fun t ht => by simpa using k (t + 1) (by simpa using ht))⟩

section
variable {P : Program} {Γ : List (FuncId × Sp)} {cx : Cx}

set_option maxHeartbeats 2000000 in
theorem drawOpsS_any {s : Nat} (hΓ : CtxOk P Γ) {ops : List Oper} {st st' : St} {orc orc' : List Bool} {obl : List Prop} {env : Env} {a : Act} {w : World} {Q : Exit → Act → World → Prop}
    (h : drawOpsS s P Γ ops st orc = some (st', obl, orc')) (ho : AllT obl) (hk : Ok cx env st a w) (hQ : ∀ env' a' w', Ok cx env' st' a' w' → Q .normal a' w') : wpAny P .any ops.toArray Q ops.toArray.size (Array.replicate ops.toArray.size false) a { w with drawn := w.drawn + 1 } := by
  unfold drawOpsS at h
  simp only at h
  generalize hbase : st.mem.length = base at h
  generalize hK : (ops.filter fun o => mkq Γ o.op).length * s = K at h
  generalize hmem0 : st.mem ++ List.replicate (K + 1) Seg.gone = mem0 at h
  generalize hmasks : befs ops = masks at h
  generalize hdsts : ops.map (·.dst) = dsts at h
  split at h
  · rename_i infs0 _ _ _ _ h0
    clear h0
    split at h
    · rename_i infs tmF memF obl' orcF h1
      split at h
      · rename_i hchk
        obtain ⟨hW, hed, hpair, hone⟩ := hchk
        simp only [Option.some.injEq, Prod.mk.injEq] at h
        obtain ⟨rfl, rfl, rfl⟩ := h
        rw [← hW] at h1
        obtain ⟨T, M, N, t0, m0, hlen, tF, mF, hall⟩ := drawGo_spec h1 ho
        clear h1
        generalize hn : ops.length = n at *
        have hsz : ops.toArray.size = n := by simpa using hn
        have hopsA : ∀ i, ops.toArray[i]? = ops[i]? := fun i => List.getElem?_toArray
        have hlt_n : ∀ i o, ops[i]? = some o → i < n := fun i o e => by rw [← hn]; exact (List.getElem?_eq_some_iff.1 e).1
        let I : Nat → Inf := fun i => infs.getD i ⟨.any, .none, 0, []⟩
        have hI : ∀ i x, infs[i]? = some x → I i = x := fun i x e => by
          show infs.getD i _ = x
          rw [List.getD_eq_getElem?_getD, e]; rfl
        let dst : Nat → Option Tmp := fun i => dsts.getD i none
        have hdst : ∀ i o, ops[i]? = some o → dst i = o.dst := fun i o e => by
          show dsts.getD i none = _
          rw [← hdsts, List.getD_eq_getElem?_getD, List.getElem?_map, e]; rfl
        have hdstsg : ∀ (i : Nat) (o : Oper), ops[i]? = some o → dsts[i]? = some o.dst := fun i o e => by rw [← hdsts, List.getElem?_map, e]; rfl
        have hm0len : mem0.length = base + K + 1 := by rw [← hmem0, List.length_append, List.length_replicate]; omega
        -- the memory along the run
        have hM : ∀ k, k ≤ n → M k = foldE I mem0 (fun _ => true) k := by
          intro k
          induction k with
          | zero => intro _; exact m0
          | succ k ih =>
            intro hkn
            have : ops[k]? = some (ops[k]'(by omega)) := List.getElem?_eq_getElem (by omega)
            obtain ⟨x, orc1, d, e1, e2, e3, e4, e5, e6⟩ := hall k _ this
            rw [e6, ih (by omega)]
            show _ = (if (fun _ => true) k = true then (I k).app (foldE I mem0 (fun _ => true) k) else foldE I mem0 (fun _ => true) k)
            rw [if_pos rfl, hI k x e1]
        have hMlt : ∀ i, i ≤ n → foldE I mem0 (fun j => decide (j < i)) n = M i := by
          intro i hi
          rw [hM i hi]
          have key : ∀ m, i ≤ m → foldE I mem0 (fun j => decide (j < i)) m = foldE I mem0 (fun _ => true) i := by
            intro m
            induction m with
            | zero => intro hm; have : i = 0 := by omega
                      subst this; rfl
            | succ m ih =>
              intro hm
              by_cases e : i = m + 1
              · subst e
                have : ∀ q, q ≤ m + 1 → foldE I mem0 (fun j => decide (j < m + 1)) q = foldE I mem0 (fun _ => true) q := by
                  intro q
                  induction q with
                  | zero => intro _; rfl
                  | succ q ihq =>
                    intro hq
                    unfold foldE
                    rw [ihq (by omega)]
                    simp [show q < m + 1 by omega]
                exact this _ (Nat.le_refl _)
              · conv => lhs; unfold foldE
                simp only [show ¬ m < i by omega, decide_false, Bool.false_eq_true, if_false]
                exact ih (by omega)
          exact key n hi
        -- the tables along the run
        have hT : ∀ k, k ≤ n → (T k).length = st.tm.length ∧ ∀ t env u, ((tabs dst I st.tm k).getD t .any).rel env u → ((T k).getD t .any).rel env u := by
          intro k
          induction k with
          | zero => intro _; rw [t0]; exact ⟨rfl, fun _ _ _ q => q⟩
          | succ k ih =>
            intro hkn
            obtain ⟨ih1, ih2⟩ := ih (by omega)
            have ho' : ops[k]? = some (ops[k]'(by omega)) := List.getElem?_eq_getElem (by omega)
            obtain ⟨x, orc1, d, e1, e2, e3, e4, e5, e6⟩ := hall k _ ho'
            obtain ⟨f1, f2, f3, f4⟩ := drawStep_facts e2 e4
            refine ⟨by rw [e5, put_length, f3, ih1], fun t env u q => ?_⟩
            rw [e5]
            have q' : ((put (tabs dst I st.tm k) (ops[k]).dst x.v).getD t .any).rel env u := by
              have := q
              unfold tabs at this
              rwa [hI k x e1, hdst k _ ho'] at this
            by_cases hd : (ops[k]'(by omega)).dst = some t
            · rw [hd] at q' ⊢
              by_cases htl : t < st.tm.length
              · have e7 : ∀ l : List SV, l.length = st.tm.length → (put l (some t) x.v).getD t .any = x.v := fun l hl => by
                  show (l.set t x.v).getD t .any = _
                  rw [List.getD_eq_getElem?_getD, List.getElem?_set_self (by omega)]; rfl
                rw [e7 _ (tabs_length _ _ _ _)] at q'
                rw [e7 _ (by rw [f3, ih1])]
                exact q'
              · rw [List.getD_eq_getElem?_getD, List.getElem?_eq_none (by rw [put_length, f3, ih1]; omega)]
                trivial
            · rw [put_getD _ _ _ hd] at q'
              rw [put_getD _ _ _ hd]
              exact f4 t env u (ih2 t env u q')
        -- the pairs
        have pair : ∀ i j o o', ops[i]? = some o → ops[j]? = some o' → i < j →
            (∀ t, o.dst = some t → o'.dst ≠ some t) ∧ (∀ h, h ∈ (I i).touch → h ∈ (I j).touch → bef masks j i = true) ∧ (∀ c ∈ (I j).news, c ∉ (I i).touch) := by
          intro i j o o' hi hj hij
          have hin := hlt_n i o hi
          have hjn := hlt_n j o' hj
          have hp := List.all_eq_true.1 (List.all_eq_true.1 hpair i (List.mem_range.2 hin)) j (List.mem_range.2 hjn)
          rw [if_pos hij] at hp
          have hx : infs[i]? = some (infs[i]'(by omega)) := List.getElem?_eq_getElem (by omega)
          have hy : infs[j]? = some (infs[j]'(by omega)) := List.getElem?_eq_getElem (by omega)
          rw [hx, hy, hdstsg i o hi, hdstsg j o' hj] at hp
          rw [hI i _ hx, hI j _ hy]
          simp only [Bool.and_eq_true] at hp
          obtain ⟨⟨p1, p2⟩, p3⟩ := hp
          refine ⟨fun t e1 e2 => ?_, fun h h1 h2 => ?_, fun c hc => ?_⟩
          · rw [e1, e2] at p1
            simp at p1
          · split at p2
            · rename_i hc
              have := List.all_eq_true.1 hc h h1
              simp at this
              exact absurd h2 this
            · exact p2
          · have := List.all_eq_true.1 p3 c hc
            simpa using this
        have one : ∀ i, i < n → (∀ c ∈ (I i).news, base ≤ c ∧ c ≠ base + K ∧ c < mem0.length) ∧ (base + K) ∉ (I i).touch := by
          intro i hi
          have hx : infs[i]? = some (infs[i]'(by omega)) := List.getElem?_eq_getElem (by omega)
          rw [hI i _ hx]
          have hp := List.all_eq_true.1 hone _ (List.getElem_mem (by omega : i < infs.length))
          simp only [Bool.and_eq_true, Bool.not_eq_true', List.contains_eq_mem, decide_eq_false_iff_not] at hp
          refine ⟨fun c hc => ?_, hp.2⟩
          have := List.all_eq_true.1 hp.1 c hc
          simp only [Bool.and_eq_true, decide_eq_true_eq] at this
          exact ⟨this.1.1, this.1.2, this.2⟩
        have hgoneAt : ∀ c, base ≤ c → c < mem0.length → mem0[c]? = some .gone := by
          intro c h1 h2
          rw [← hmem0, List.getElem?_append_right (by omega), List.getElem?_replicate, if_pos (by omega)]
        have hedge : ∀ i o, ops.toArray[i]? = some o → ∀ e ∈ o.after, Region.binds .any e = true → e.on < i := by
          intro i o hi e he hb
          have := edgesB_spec hed i o (by simpa using hi) e he hb
          omega
        have hbefd : ∀ (D : Nat → Bool) i j o, (∀ k o', ops.toArray[k]? = some o' → D k = true → ∀ e ∈ o'.after, Region.binds .any e = true → D e.on = true) → ops.toArray[i]? = some o → (∀ e ∈ o.after, Region.binds .any e = true → D e.on = true) → bef masks i j = true → D j = true := by
          intro D i j o hc hi hp hb
          exact bef_down D hc i o j hi hp (by rw [List.toList_toArray, hmasks]; exact hb)
        have hlt : ∀ i j, bef masks i j = true → j < i := by
          intro i
          induction i using Nat.strongRecOn with
          | _ i ih =>
            intro j hb
            have hin : i < n := by
              rcases Nat.lt_or_ge i n with q | q
              · exact q
              · exfalso
                have hl : ∀ (l : List Oper) (acc : List Nat), (befsAux l acc).length = acc.length + l.length := by
                  intro l
                  induction l with
                  | nil => intro acc; rfl
                  | cons o l ihl => intro acc; show (befsAux l (acc ++ [maskOf acc o])).length = _; rw [ihl]; simp; omega
                have : masks.length = n := by rw [← hmasks]; unfold befs; rw [hl]; simp [hn]
                unfold bef at hb
                rw [List.getD_eq_getElem?_getD, List.getElem?_eq_none (by omega)] at hb
                simp at hb
            have hoi : ops[i]? = some (ops[i]'(by omega)) := List.getElem?_eq_getElem (by omega)
            obtain ⟨e, he, hbn, q⟩ := bef_spec (l := ops) hoi (by rw [hmasks]; exact hb)
            have h1 := hedge i _ (by rw [hopsA]; exact hoi) e he hbn
            rcases q with q | ⟨q1, q2⟩
            · omega
            · have := ih e.on q1 j (by rw [← hmasks]; exact q2)
              omega
        -- each operation
        have hgood : ∀ i o, ops.toArray[i]? = some o → GoodOp P cx ops.toArray I mem0 st.tm (fun t => (tabs dst I st.tm n).getD t .any) (base + K) (bef masks) i o.dst := by
          intro i o hi env a w mem K' Q hdef hvis hvis0 hml hmem hm hnh hr hrn hKK
          have hi' : ops[i]? = some o := by rw [← hopsA]; exact hi
          have hin := hlt_n i o hi'
          obtain ⟨x, orc1, d, e1, e2, e3, e4, e5, e6⟩ := hall i o hi'
          obtain ⟨f1, f2, f3, f4⟩ := drawStep_facts e2 e4
          simp only [Nat.zero_add] at e2
          have hIx : I i = d.inf := by rw [hI i x e1, e3]
          rw [hIx] at hnh hKK
          have hnheq : d.inf.nh = (if mkq Γ o.op then N i else base + K) := f1
          refine drawStep_good hΓ hi e2 e4 ?_ ?_ hm ?_ ?_ ?_
          · intro y hy
            cases y with
            | const v => exact ofConst_rel env v
            | func f => rfl
            | global g => rfl
            | tmp t =>
              show ((T i).getD t .any).rel env (a.tmps.getD t undef)
              have hy0 : (visAux (masks.getD i 0) t dsts 0 || visAft masks i t dsts 0) = true := hy
              refine (hT i (by omega)).2 t env _ ?_
              rcases Bool.or_eq_true_iff.1 hy0 with hy' | hy'
              · have hw : ∀ j o', ops[j]? = some o' → o'.dst = some t → bef masks i j = true := by
                  intro j o' hj hd
                  have := visAux_spec hy' j (by rw [hdstsg j o' hj, hd])
                  simpa [bef] using this
                rw [← tabs_after (i := i) (n := n) (by omega) (fun k hik hkn hd => by
                  have hok : ops[k]? = some (ops[k]'(by omega)) := List.getElem?_eq_getElem (by omega)
                  have := hlt i k (hw k _ hok (by rw [← hdst k _ hok]; exact hd))
                  omega)]
                exact hvis t (fun j o' hj hd => hw j o' (by rw [← hopsA]; exact hj) hd)
              · have hw : ∀ j o', ops[j]? = some o' → o'.dst = some t → bef masks j i = true := by
                  intro j o' hj hd
                  have := visAft_spec hy' j (by rw [hdstsg j o' hj, hd])
                  simpa using this
                rw [tabs_after (i := 0) (n := i) (by omega) (fun k hik hkn hd => by
                  have hok : ops[k]? = some (ops[k]'(by omega)) := List.getElem?_eq_getElem (by omega)
                  have := hlt k i (hw k _ hok (by rw [← hdst k _ hok]; exact hd))
                  omega)]
                exact hvis0 t (fun j o' hj hd => hw j o' (by rw [← hopsA]; exact hj) hd)
          · intro c s hc
            rcases maskMem_get masks i _ 0 _ c s hc with q | ⟨q1, q2⟩
            · exact .inl q
            · refine .inr ?_
              rw [hmem c (fun j hj hne hjt => ?_), hsz, hMlt i (by omega)]
              · exact q1
              · have hjn : j < n := by rw [hsz] at hj; exact hj
                have hxj : infs[j]? = some (infs[j]'(by omega)) := List.getElem?_eq_getElem (by omega)
                rw [hI j _ hxj] at hjt
                have := q2 j _ (by rw [List.getElem?_map, hxj]; rfl) hjt
                simp only [Nat.zero_add] at this
                rcases this with q | q | q
                · exact absurd q hne
                · exact .inl q
                · exact .inr q
          · intro q
            rw [if_neg (by rw [q]; simp)]
            exact ⟨hr, hrn⟩
          · exact hnh
          · intro env' u w' hle hoth hv hm'
            refine hKK env' u w' hle (fun c hc => hoth c hc) hv ?_
            unfold Inf.app
            rw [hnheq]
            exact hm'
        rw [hsz]
        refine draw_any (I := I) (mem0 := mem0) (tm0 := st.tm) (TB := fun t => (tabs dst I st.tm n).getD t .any) (r := base + K) (bef := bef masks) hgood ?_ ?_ ?_ hedge hbefd hlt ?_ ?_ ?_ ?_ ?_ ?_ ?_ n (Array.replicate n false) env a _ ?_ ?_
        · -- hdst
          intro i j o o' t hi hj h1 h2
          rw [hopsA] at hi hj
          rcases Nat.lt_trichotomy i j with q | q | q
          · exact absurd h2 ((pair i j o o' hi hj q).1 t h1)
          · exact q
          · exact absurd h1 ((pair j i o' o hj hi q).1 t h2)
        · -- hTB
          intro i o t hi hd htl
          rw [hopsA] at hi
          have hin := hlt_n i o hi
          have : (tabs dst I st.tm n).getD t .any = (tabs dst I st.tm (i + 1)).getD t .any := tabs_after (by omega) (fun k hik hkn hdk => by
            have hok : ops[k]? = some (ops[k]'(by omega)) := List.getElem?_eq_getElem (by omega)
            rw [hdst k _ hok] at hdk
            exact (pair i k o _ hi hok (by omega)).1 t hd hdk)
          rw [this]
          show (put (tabs dst I st.tm i) (dst i) (I i).v).getD t .any = _
          rw [hdst i o hi, hd]
          show ((tabs dst I st.tm i).set t (I i).v).getD t .any = _
          rw [List.getD_eq_getElem?_getD, List.getElem?_set_self (by rw [tabs_length]; exact htl)]; rfl
        · intro t ht
          rw [List.getD_eq_getElem?_getD, List.getElem?_eq_none (by rw [tabs_length]; exact ht)]; rfl
        · -- htouch
          intro i j c hij hj h1 h2
          rw [hsz] at hj
          exact (pair i j _ _ (List.getElem?_eq_getElem (by omega)) (List.getElem?_eq_getElem (by omega)) hij).2.1 c h1 h2
        · -- hfresh
          intro i j hi hj hne c h1 h2
          rw [hsz] at hi hj
          rcases Nat.lt_or_gt_of_ne hne with q | q
          · exact (pair i j _ _ (List.getElem?_eq_getElem (by omega)) (List.getElem?_eq_getElem (by omega)) q).2.2 c h1 (Inf.news_touch h2)
          · exact (pair j i _ _ (List.getElem?_eq_getElem (by omega)) (List.getElem?_eq_getElem (by omega)) q).2.2 c h2 (Inf.news_touch h1)
        · -- hmk
          intro i j hij hj c h1
          rw [hsz] at hj
          exact (pair i j _ _ (List.getElem?_eq_getElem (by omega)) (List.getElem?_eq_getElem (by omega)) hij).2.2 c h1
        · -- hnh
          intro i hi c hmk
          rw [hsz] at hi
          obtain ⟨q1, q2, q3⟩ := (one i hi).1 c hmk
          have := hk.long
          exact ⟨hgoneAt _ q1 q3, by omega, q2⟩
        · exact hgoneAt _ (by omega) (by omega)
        · intro i hi; rw [hsz] at hi; exact (one i hi).2
        · -- the end
          intro env' a' w' hrs
          have hfin : foldE I mem0 (fun _ => true) ops.toArray.size = memF := by
            rw [hsz, ← hM n (Nat.le_refl _)]; exact mF
          have hmemF := hrs.mem
          rw [hfin] at hmemF
          have hlF : memF.length = base + K + 1 := by rw [← hfin, foldE_length]; exact hm0len
          have hlast : memF[base + K]? = some .gone := by
            rw [← hfin]
            have : (foldE I mem0 (fun _ => true) ops.toArray.size)[base + K]? = (foldE I mem0 (fun _ => false) ops.toArray.size)[base + K]? := foldE_agree (fun j hj hjt => by rw [hsz] at hj; exact absurd hjt (one j hj).2)
            rw [this, foldE_none (fun _ _ => rfl)]
            exact hgoneAt _ (by omega) (by omega)
          have hsplit : memF = memF.take (base + K) ++ [.gone] := by
            apply List.ext_getElem?
            intro c
            by_cases q : c < base + K
            · rw [List.getElem?_append_left (by simp; omega), List.getElem?_take, if_pos q]
            · rw [List.getElem?_append_right (by simp; omega)]
              have hl2 : (memF.take (base + K)).length = base + K := by simp; omega
              rw [hl2]
              by_cases q2 : c = base + K
              · subst q2; simp [hlast]
              · rw [List.getElem?_eq_none (by omega), List.getElem?_eq_none (by simp; omega)]
          have hl2 : (memF.take (base + K)).length = base + K := by simp; omega
          refine hQ env' a' w' ⟨hrs.defers, ?_, ?_, ?_, hrs.fix⟩
          · refine all_of_getD ?_ (fun t ht => ?_)
            · rw [← tF, (hT n (Nat.le_refl _)).1]; simpa using hrs.size.symm
            · rw [← tF]
              have := (hT n (Nat.le_refl _)).2 t env' _ (hrs.slots t (fun _ _ _ _ => rfl))
              simpa [Array.getD_eq_getD_getElem?, List.getD_eq_getElem?_getD] using this
          · refine MemOk.unpad (by rw [← hsplit]; exact hmemF) ?_
            rw [hl2]; exact hrs.spare
          · show cx.m0 ≤ (memF.take (base + K)).length
            have := hk.long
            omega
        · rw [hsz]; exact un_none (Nat.le_refl _)
        · -- the start
          have hD : ∀ j, j < n → (Array.replicate n false).getD j true = false := fun j hj => by
            rw [Array.getD_eq_getD_getElem?, Array.getElem?_replicate, if_pos hj]; rfl
          have hsize : a.tmps.size = st.tm.length := by
            have := hk.tm.length; simpa using this.symm
          refine ⟨hk.defers, hsize, fun t ht => ?_, ?_, fun j hj hDj c hmk => ?_, ?_, fun j o hj hDj => ?_, hk.fix, fun t _ => getD_tmps hk.tm t⟩
          · show ((tabs dst I st.tm n).getD t .any).rel env _
            rw [tabs_after (i := 0) (n := n) (Nat.zero_le _) (fun k _ hkn hd => by
              have hok : ops[k]? = some (ops[k]'(by omega)) := List.getElem?_eq_getElem (by omega)
              rw [hdst k _ hok] at hd
              have := ht k _ (by rw [hopsA]; exact hok) hd
              rw [hD k hkn] at this
              cases this)]
            exact getD_tmps hk.tm t
          · rw [hsz, foldE_none (fun j hj => hD j hj), ← hmem0]
            exact (hk.mem.pads (K + 1)).trans (Ext.refl w).drew
          · rw [hsz] at hj
            obtain ⟨q1, _, _⟩ := (one j hj).1 c hmk
            exact hk.mem.top _ (by omega)
          · exact hk.mem.top _ (by omega)
          · rw [hopsA] at hj
            rw [hD j (hlt_n j o hj)] at hDj
            cases hDj
      · cases h
    · cases h
  · cases h
theorem drawOpsS_sound {s : Nat} (hΓ : CtxOk P Γ) (hmo : P.follows .mixedOrders = true) {ops : List Oper} {st st' : St} {orc orc' : List Bool} {obl : List Prop} {id : Nat} {env : Env} {a : Act} {w : World} {Q : Exit → Act → World → Prop}
    (h : drawOpsS s P Γ ops st orc = some (st', obl, orc')) (ho : AllT obl) (hk : Ok cx env st a w) (hQ : ∀ env' a' w', Ok cx env' st' a' w' → Q .normal a' w') : (Code.region id ops.toArray true).wp P Q a w :=
  wp_region_any hmo (drawOpsS_any hΓ h ho hk hQ)
theorem drawOps_any (hΓ : CtxOk P Γ) {ops : List Oper} {st st' : St} {orc orc' : List Bool} {obl : List Prop} {env : Env} {a : Act} {w : World} {Q : Exit → Act → World → Prop}
    (h : drawOps P Γ ops st orc = some (st', obl, orc')) (ho : AllT obl) (hk : Ok cx env st a w) (hQ : ∀ env' a' w', Ok cx env' st' a' w' → Q .normal a' w') : wpAny P .any ops.toArray Q ops.toArray.size (Array.replicate ops.toArray.size false) a { w with drawn := w.drawn + 1 } := by
  unfold drawOps at h
  split at h
  · rename_i r hr
    cases h
    exact drawOpsS_any hΓ hr ho hk hQ
  · exact drawOpsS_any hΓ h ho hk hQ
theorem drawOps_sound (hΓ : CtxOk P Γ) (hmo : P.follows .mixedOrders = true) {ops : List Oper} {st st' : St} {orc orc' : List Bool} {obl : List Prop} {id : Nat} {env : Env} {a : Act} {w : World} {Q : Exit → Act → World → Prop}
    (h : drawOps P Γ ops st orc = some (st', obl, orc')) (ho : AllT obl) (hk : Ok cx env st a w) (hQ : ∀ env' a' w', Ok cx env' st' a' w' → Q .normal a' w') : (Code.region id ops.toArray true).wp P Q a w := by
  unfold drawOps at h
  split at h
  · rename_i r hr
    cases h
    exact drawOpsS_sound hΓ hmo hr ho hk hQ
  · exact drawOpsS_sound hΓ hmo h ho hk hQ
end
end E
end Go.Proofs.Ytajdkbgbekdbmaa

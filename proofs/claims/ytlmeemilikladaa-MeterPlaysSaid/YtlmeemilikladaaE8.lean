/- A symbolic run of Go code: code, loops, functions. No condition. -/
import Derived.Test.YtlmeemilikladaaEH
import Derived.LoopN
namespace Go.Proofs.Ytlmeemilikladaa
set_option linter.unusedVariables false
set_option linter.unusedSimpArgs false
namespace E
open Go.RowKit

/-! one state says more than another -/
/-- Handles of the one state, by those of the other. -/
def rn (ρ : List (Nat × Option Nat)) (h : Nat) : Option Nat := match ρ.lookup h with | some k => k | none => some h
def leAt (ρ : List (Nat × Option Nat)) (m : Nat) : At → At → List Prop
  | _, .any => []
  | .val (.int k a), .val (.int k' b) => if k = k' then [a = b] else [False]
  | .val (.bool a), .val (.bool b) => [a = b]
  | .bit a, .val (.bool b) => [a = b]
  | .val (.bool a), .bit b => [a = b]
  | .bit a, .bit b => [a = b]
  | .val (.string a), .val (.string b) => [a = b]
  | .val a, .val b => [a = b]
  | .ptr h j, .ptr h' j' => if rn ρ h' = some h ∧ h' < m then [j = j'] else [False]
  | .eptr h wd i j, .eptr h' wd' i' j' => if rn ρ h' = some h ∧ wd = wd' ∧ h' < m then [i = i', j = j'] else [False]
  | .own h, .own h' => if rn ρ h' = some h ∧ h' < m then [] else [False]
  | .val (.slice none 0 0), .own h' => if rn ρ h' = none ∧ h' < m then [] else [False]
  | _, _ => [False]
def leAts (ρ : List (Nat × Option Nat)) (m : Nat) : List At → List At → List Prop
  | [], [] => []
  | x :: xs, y :: ys => leAt ρ m x y ++ leAts ρ m xs ys
  | _, _ => [False]
def leNV (ρ : List (Nat × Option Nat)) (m : Nat) : NV → NV → List Prop
  | .one a, .one b => leAt ρ m a b
  | .agg a, .agg b => leAts ρ m a b
  | _, _ => [False]
def leNVs (ρ : List (Nat × Option Nat)) (m : Nat) : List NV → List NV → List Prop
  | [], [] => []
  | x :: xs, y :: ys => leNV ρ m x y ++ leNVs ρ m xs ys
  | _, _ => [False]
def leSV (ρ : List (Nat × Option Nat)) (m : Nat) : SV → SV → List Prop
  | _, .any => []
  | .nv a, .nv b => leNV ρ m a b
  | .tup a, .tup b => leNVs ρ m a b
  | _, _ => [False]
def leTm (ρ : List (Nat × Option Nat)) (m : Nat) : List SV → List SV → List Prop
  | [], [] => []
  | x :: xs, y :: ys => leSV ρ m x y ++ leTm ρ m xs ys
  | _, _ => [False]
def leSeg (ρ : List (Nat × Option Nat)) (m : Nat) : Seg → Seg → List Prop
  | _, .gone => []
  | .box t a, .box t' b => if t = t' then leAts ρ m a b else [False]
  | .ro wd n g, .ro wd' n' g' => if wd = wd' then [n = n', ∀ i, i < n → AllT (leAts ρ m (g i) (g' i))] else [False]
  | .row e wd n g, .row e' wd' n' g' => if e = e' ∧ wd = wd' then [n = n', ∀ i, i < n → AllT (leAts ρ m (g i) (g' i))] else [False]
  | _, _ => [False]
/-- The memory of the other state, from its handle j on. -/
def leMem (ρ : List (Nat × Option Nat)) (m : Nat) (xs : List Seg) : Nat → List Seg → List Prop
  | _, [] => []
  | j, y :: ys => (match rn ρ j with
    | some i => match xs[i]? with
      | some x => leSeg ρ m x y
      | none => match y with
        | .gone => []
        | _ => [False]
    | none => match y with
      | .gone => []
      | .row _ _ n _ => [n = 0]
      | _ => [False]) ++ leMem ρ m xs (j + 1) ys
def matchAt : At → At → List (Nat × Option Nat)
  | .ptr h _, .ptr h' _ => [(h', some h)]
  | .eptr h _ _ _, .eptr h' _ _ _ => [(h', some h)]
  | .own h, .own h' => [(h', some h)]
  | .val (.slice none 0 0), .own h' => [(h', none)]
  | _, _ => []
def matchAts : List At → List At → List (Nat × Option Nat)
  | x :: xs, y :: ys => matchAt x y ++ matchAts xs ys
  | _, _ => []
def matchTm : List SV → List SV → List (Nat × Option Nat)
  | .nv (.one x) :: xs, .nv (.one y) :: ys => matchAt x y ++ matchTm xs ys
  | .nv (.agg x) :: xs, .nv (.agg y) :: ys => matchAts x y ++ matchTm xs ys
  | _ :: xs, _ :: ys => matchTm xs ys
  | _, _ => []
def matchMem (xs ys : List Seg) : List (Nat × Option Nat) → List (Nat × Option Nat)
  | [] => []
  | (j, some i) :: l => (match xs[i]?, ys[j]? with
    | some (.box _ a), some (.box _ b) => matchAts a b
    | _, _ => []) ++ matchMem xs ys l
  | (_, none) :: l => matchMem xs ys l
/-- Which handles are which. -/
def renOf (x y : St) : List (Nat × Option Nat) :=
  let r0 := matchTm x.tm y.tm
  let r1 := matchMem x.mem y.mem r0
  let r2 := matchMem x.mem y.mem r1
  r0 ++ (r1 ++ (r2 ++ matchMem x.mem y.mem r2))
def freshB (i : Nat) (ρ : List (Nat × Option Nat)) : Nat → List Seg → Bool
  | _, [] => true
  | j, .gone :: ys => freshB i ρ (j + 1) ys
  | j, _ :: ys => (rn ρ j != some i) && freshB i ρ (j + 1) ys
/-- No two handles, that are not gone, are one. -/
def injB (ρ : List (Nat × Option Nat)) : Nat → List Seg → Bool
  | _, [] => true
  | j, .gone :: ys => injB ρ (j + 1) ys
  | j, _ :: ys => (match rn ρ j with | some i => freshB i ρ (j + 1) ys | none => true) && injB ρ (j + 1) ys
def fixB (ρ : List (Nat × Option Nat)) : Nat → Bool
  | 0 => true
  | n + 1 => (rn ρ n == some n) && fixB ρ n
def leSt (m0 : Nat) (x y : St) : List Prop :=
  let ρ := renOf x y
  if fixB ρ m0 && injB ρ 0 y.mem then leTm ρ y.mem.length x.tm y.tm ++ leMem ρ y.mem.length x.mem 0 y.mem else [False]

def Env.cut (env : Env) (m : Nat) : Env := fun h => if h < m then env h else none
theorem le_if {ρ : List (Nat × Option Nat)} {m n N : Nat} {c : List At} {g g' : Nat → List At} (h : ∀ i, i < N → i ≠ n → AllT (leAts ρ m (g i) (g' i))) (hc : AllT (leAts ρ m c (g' n))) :
    ∀ i, i < N → AllT (leAts ρ m (if i = n then c else g i) (g' i)) := by
  intro i hi
  split
  · rename_i e; subst e; exact hc
  · rename_i e; exact h i hi e
def Env.cutR (env : Env) (ρ : List (Nat × Option Nat)) (m : Nat) : Env := fun h => if h < m then (match rn ρ h with | some k => env k | none => some (.slice none 0 0)) else none

section
variable {env : Env} {ρ : List (Nat × Option Nat)} {m : Nat}
theorem Env.cut_lt {h : Nat} (k : h < m) : env.cut m h = env h := by simp [Env.cut, k]
theorem Env.cutR_lt {h i : Nat} (e : rn ρ h = some i) (k : h < m) : env.cutR ρ m h = env i := by simp [Env.cutR, k, e]
theorem Env.cutR_nil {h : Nat} (e : rn ρ h = none) (k : h < m) : env.cutR ρ m h = some (.slice none 0 0) := by simp [Env.cutR, k, e]

theorem leAt_sound {x y : At} {v : Value} (h : AllT (leAt ρ m x y)) (k : x.rel env v) : y.rel (env.cutR ρ m) v := by
  unfold leAt at h
  split at h
  · trivial
  · split at h
    · rename_i e
      simp only [AllT, and_true] at h
      subst e; subst h; exact k
    · exact h.1.elim
  · simp only [AllT, and_true] at h
    subst h; exact k
  · simp only [AllT, and_true] at h
    subst h; exact k
  · simp only [AllT, and_true] at h
    subst h; exact k
  · simp only [AllT, and_true] at h
    subst h; exact k
  · simp only [AllT, and_true] at h
    subst h; exact k
  · simp only [AllT, and_true] at h
    subst h; exact k
  · split at h
    · rename_i e
      obtain ⟨er, hl⟩ := e
      simp only [AllT, and_true] at h
      subst h
      obtain ⟨u, a, e1, e2, e3⟩ := k
      exact ⟨u, a, by rw [Env.cutR_lt er hl]; exact e1, e2, e3⟩
    · exact h.1.elim
  · split at h
    · rename_i e
      obtain ⟨er, rfl, hl⟩ := e
      simp only [AllT, and_true] at h
      obtain ⟨rfl, rfl⟩ := h
      obtain ⟨u, a, e1, e2, e3⟩ := k
      exact ⟨u, a, by rw [Env.cutR_lt er hl]; exact e1, e2, e3⟩
    · exact h.1.elim
  · split at h
    · rename_i e
      obtain ⟨er, hl⟩ := e
      exact ⟨by rw [Env.cutR_lt er hl]; exact k.1, k.2⟩
    · exact h.1.elim
  · split at h
    · rename_i e
      obtain ⟨er, hl⟩ := e
      cases k
      exact ⟨Env.cutR_nil er hl, _, _, _, rfl⟩
    · exact h.1.elim
  · exact h.1.elim
theorem leAts_sound : ∀ {l r : List At} {vs : List Value}, AllT (leAts ρ m l r) → AllRel env l vs → AllRel (env.cutR ρ m) r vs
  | [], [], [], _, _ => trivial
  | x :: xs, y :: ys, v :: vs, h, k => by
    obtain ⟨h1, h2⟩ := AllT.append.1 h
    exact ⟨leAt_sound h1 k.1, leAts_sound h2 k.2⟩
  | [], y :: ys, _, h, _ => h.1.elim
  | x :: xs, [], _, h, _ => h.1.elim
theorem leNV_sound {x y : NV} {v : Value} (h : AllT (leNV ρ m x y)) (k : x.rel env v) : y.rel (env.cutR ρ m) v := by
  cases x <;> cases y
  · exact leAt_sound h k
  · exact h.1.elim
  · exact h.1.elim
  · obtain ⟨cs, rfl, k⟩ := k
    exact ⟨cs, rfl, leAts_sound h k⟩
theorem leNVs_sound : ∀ {l r : List NV} {vs : List Value}, AllT (leNVs ρ m l r) → AllNV env l vs → AllNV (env.cutR ρ m) r vs
  | [], [], [], _, _ => trivial
  | x :: xs, y :: ys, v :: vs, h, k => by
    obtain ⟨h1, h2⟩ := AllT.append.1 h
    exact ⟨leNV_sound h1 k.1, leNVs_sound h2 k.2⟩
  | [], y :: ys, _, h, _ => h.1.elim
  | x :: xs, [], _, h, _ => h.1.elim
theorem leSV_sound {x y : SV} {v : Value} (h : AllT (leSV ρ m x y)) (k : x.rel env v) : y.rel (env.cutR ρ m) v := by
  unfold leSV at h
  split at h
  · trivial
  · exact leNV_sound h k
  · obtain ⟨cs, rfl, k⟩ := k
    exact ⟨cs, rfl, leNVs_sound h k⟩
  · exact h.1.elim
theorem leTm_sound : ∀ {l r : List SV} {vs : List Value}, AllT (leTm ρ m l r) → AllSV env l vs → AllSV (env.cutR ρ m) r vs
  | [], [], [], _, _ => trivial
  | x :: xs, y :: ys, v :: vs, h, k => by
    obtain ⟨h1, h2⟩ := AllT.append.1 h
    exact ⟨leSV_sound h1 k.1, leTm_sound h2 k.2⟩
  | [], y :: ys, _, h, _ => h.1.elim
  | x :: xs, [], _, h, _ => h.1.elim
theorem leMem_get {l : List Seg} : ∀ {r : List Seg} {j : Nat}, AllT (leMem ρ m l j r) → ∀ (h : Nat) (s : Seg), r[h]? = some s →
    s = .gone ∨ (∃ i t, rn ρ (j + h) = some i ∧ l[i]? = some t ∧ AllT (leSeg ρ m t s)) ∨ (rn ρ (j + h) = none ∧ ∃ e wd g, s = .row e wd 0 g)
  | [], j, _, h, s, e => by simp at e
  | y :: ys, j, k, 0, s, e => by
    obtain ⟨h1, h2⟩ := AllT.append.1 k
    simp at e; subst e
    split at h1
    · rename_i i hi
      split at h1
      · rename_i x hx; exact .inr (.inl ⟨i, x, hi, hx, h1⟩)
      · split at h1
        · exact .inl rfl
        · exact h1.1.elim
    · rename_i hi
      split at h1
      · exact .inl rfl
      · simp only [AllT, and_true] at h1; subst h1; exact .inr (.inr ⟨hi, _, _, _, rfl⟩)
      · exact h1.1.elim
  | y :: ys, j, k, h + 1, s, e => by
    obtain ⟨h1, h2⟩ := AllT.append.1 k
    simp at e
    have := leMem_get h2 h s e
    rwa [show j + 1 + h = j + (h + 1) by omega] at this
theorem freshB_sound {i : Nat} : ∀ {r : List Seg} {j : Nat}, freshB i ρ j r = true → ∀ (h : Nat) (s : Seg), r[h]? = some s → s ≠ .gone → rn ρ (j + h) ≠ some i
  | [], j, _, h, s, e, _ => by simp at e
  | y :: ys, j, k, 0, s, e, hg => by
    simp at e; subst e
    cases y <;> simp only [freshB, Bool.and_eq_true, bne_iff_ne, ne_eq] at k <;> first | exact k.1 | exact (hg rfl).elim
  | y :: ys, j, k, h + 1, s, e, hg => by
    simp at e
    have k' : freshB i ρ (j + 1) ys = true := by cases y <;> simp only [freshB, Bool.and_eq_true] at k <;> first | exact k.2 | exact k
    have := freshB_sound k' h s e hg
    rwa [show j + 1 + h = j + (h + 1) by omega] at this
theorem injB_sound : ∀ {r : List Seg} {j : Nat}, injB ρ j r = true → ∀ (h k i : Nat) (s t : Seg), r[h]? = some s → r[k]? = some t → h < k → s ≠ .gone → t ≠ .gone → rn ρ (j + h) = some i → rn ρ (j + k) ≠ some i
  | [], j, _, h, _, _, s, _, e, _, _, _, _, _ => by simp at e
  | y :: ys, j, q, 0, k + 1, i, s, t, e, e', _, hg, hg', hi => by
    simp at e e'; subst e
    rw [Nat.add_zero] at hi
    have q' : freshB i ρ (j + 1) ys = true := by cases y <;> simp only [injB, Bool.and_eq_true, hi] at q <;> first | exact q.1 | exact (hg rfl).elim
    have := freshB_sound q' k t e' hg'
    rwa [show j + 1 + k = j + (k + 1) by omega] at this
  | y :: ys, j, q, h + 1, k + 1, i, s, t, e, e', hl, hg, hg', hi => by
    simp at e e'
    have q' : injB ρ (j + 1) ys = true := by cases y <;> simp only [injB, Bool.and_eq_true] at q <;> first | exact q.2 | exact q
    have := injB_sound q' h k i s t e e' (by omega) hg hg' (by rwa [show j + 1 + h = j + (h + 1) by omega])
    rwa [show j + 1 + k = j + (k + 1) by omega] at this
  | y :: ys, j, q, _, 0, _, s, t, e, e', hl, _, _, _ => by omega
theorem fixB_sound : ∀ {n : Nat}, fixB ρ n = true → ∀ h, h < n → rn ρ h = some h
  | n + 1, q, h, hl => by
    simp only [fixB, Bool.and_eq_true, beq_iff_eq] at q
    by_cases e : h = n
    · rw [e]; exact q.1
    · exact fixB_sound q.2 h (by omega)
theorem leElems {wd n : Nat} {g g' : Nat → List At} {cs : List Value} (h : ∀ i, i < n → AllT (leAts ρ m (g i) (g' i))) (k : Elems env wd n g cs) : Elems (env.cutR ρ m) wd n g' cs :=
  ⟨k.1, fun i hi => leAts_sound (h i hi) (k.2.1 i hi), k.2.2⟩
theorem leSeg_sound {s t : Seg} {w : World} {h i : Nat} (hs : AllT (leSeg ρ m s t)) (hl : h < m) (er : rn ρ h = some i) (k : SegOk env w i s) : SegOk (env.cutR ρ m) w h t := by
  unfold leSeg at hs
  split at hs
  · trivial
  · split at hs
    · rename_i e
      subst e
      obtain ⟨b, cs, h1, h2, h3⟩ := k
      exact ⟨b, cs, by rw [Env.cutR_lt er hl]; exact h1, h2, leAts_sound hs h3⟩
    · exact hs.1.elim
  · split at hs
    · rename_i e
      subst e
      simp only [AllT, and_true] at hs
      obtain ⟨rfl, hs⟩ := hs
      obtain ⟨ao, cap, cs, h1, h2, h3, h4, h5, h6⟩ := k
      exact ⟨ao, cap, cs, by rw [Env.cutR_lt er hl]; exact h1, h2, h3, h4, leElems hs h5, h6⟩
    · exact hs.1.elim
  · split at hs
    · rename_i e
      obtain ⟨rfl, rfl⟩ := e
      simp only [AllT, and_true] at hs
      obtain ⟨rfl, hs⟩ := hs
      obtain ⟨v, cs, h1, h2, h3⟩ := k
      exact ⟨v, cs, by rw [Env.cutR_lt er hl]; exact h1, h2, leElems hs h3⟩
    · exact hs.1.elim
  · exact hs.1.elim
theorem leSeg_excl {s t : Seg} (hs : AllT (leSeg ρ m s t)) (h : t.excl = true) : s.excl = true := by
  unfold leSeg at hs
  split at hs <;> first | rfl | (cases h; done) | exact hs.1.elim
theorem leSeg_live {s t : Seg} (hs : AllT (leSeg ρ m s t)) (h : t.live) : s.live := by
  unfold leSeg at hs
  split at hs
  · exact h.elim
  · trivial
  · split at hs
    · rename_i e
      subst e
      simp only [AllT, and_true] at hs
      obtain ⟨rfl, _⟩ := hs
      exact h
    · exact hs.1.elim
  · trivial
  · exact hs.1.elim

theorem leSt_sound {cx : Cx} {x y : St} {a : Act} {w : World} (h : AllT (leSt cx.m0 x y)) (hm0 : cx.m0 ≤ y.mem.length) (k : Ok cx env x a w) : Ok cx (env.cutR (renOf x y) y.mem.length) y a w := by
  unfold leSt at h
  simp only at h
  generalize renOf x y = ρ at h ⊢
  split at h
  · rename_i hb
    rw [Bool.and_eq_true] at hb
    obtain ⟨hfix, hinj⟩ := hb
    obtain ⟨h1, h2⟩ := AllT.append.1 h
    have hget : ∀ (c : Nat) (s : Seg), y.mem[c]? = some s → s = .gone ∨ (∃ i t, rn ρ c = some i ∧ x.mem[i]? = some t ∧ AllT (leSeg ρ y.mem.length t s)) ∨ (rn ρ c = none ∧ ∃ e wd g, s = .row e wd 0 g) := fun c s e => by
      have := leMem_get h2 c s e
      rwa [Nat.zero_add] at this
    have blk_cut : ∀ c i, rn ρ c = some i → c < y.mem.length → blk (env.cutR ρ y.mem.length) c = blk env i := fun c i er hc => by simp [blk, Env.cutR_lt er hc]
    have blk_nil : ∀ c, rn ρ c = none → c < y.mem.length → blk (env.cutR ρ y.mem.length) c = none := fun c er hc => by simp [blk, Env.cutR_nil er hc, baseOf]
    have ng : ∀ s : Seg, s.excl = true → s ≠ .gone := by rintro s hs rfl; cases hs
    have ng' : ∀ s : Seg, s.live → s ≠ .gone := by rintro s hs rfl; exact hs
    refine ⟨k.defers, leTm_sound h1 k.tm, ⟨?_, ?_, ?_, ?_, k.mem.os, k.mem.tape, k.mem.output, k.mem.grow, k.mem.frame⟩, hm0, fun c hc => by rw [Env.cutR_lt (fixB_sound hfix c hc) (Nat.lt_of_lt_of_le hc hm0)]; exact k.fix c hc⟩
    · intro c s hc
      rcases hget c s hc with rfl | ⟨i, t, er, e1, e2⟩ | ⟨er, e, wd, g, rfl⟩
      · trivial
      · exact leSeg_sound e2 (List.getElem?_eq_some_iff.1 hc).1 er (k.mem.ok _ t e1)
      · exact ⟨_, [], Env.cutR_nil er (List.getElem?_eq_some_iff.1 hc).1, World.ownsRow_nil w 0 e wd, by simp, fun i hi => by omega, fun v hv => by cases hv⟩
    · intro c hc
      simp [Env.cutR, Nat.not_lt.2 hc]
    · intro c d s t b hc hd hne hx hl hb
      have lc := (List.getElem?_eq_some_iff.1 hc).1
      have ld := (List.getElem?_eq_some_iff.1 hd).1
      rcases hget c s hc with rfl | ⟨i, s', ei, e1, e2⟩ | ⟨er, _⟩
      · cases hx
      · rcases hget d t hd with rfl | ⟨i', t', ei', e3, e4⟩ | ⟨er, _⟩
        · exact hl.elim
        · have hne' : i ≠ i' := by
            rintro rfl
            rcases Nat.lt_or_ge c d with q | q
            · have := injB_sound hinj c d i s t hc hd q (ng _ hx) (ng' _ hl) (by simpa using ei)
              exact this (by simpa using ei')
            · have := injB_sound hinj d c i t s hd hc (by omega) (ng' _ hl) (ng _ hx) (by simpa using ei')
              exact this (by simpa using ei)
          rw [blk_cut c i ei lc] at hb
          rw [blk_cut d i' ei' ld]
          exact k.mem.sep _ _ s' t' b e1 e3 hne' (leSeg_excl e2 hx) (leSeg_live e4 hl) hb
        · rw [blk_nil d er ld]; simp
      · rw [blk_nil c er lc] at hb; cases hb
    · intro c s b hc hx hb
      have lc := (List.getElem?_eq_some_iff.1 hc).1
      rcases hget c s hc with rfl | ⟨i, s', ei, e1, e2⟩ | ⟨er, _⟩
      · cases hx
      · rw [blk_cut c i ei lc] at hb
        exact k.mem.own _ s' b e1 (leSeg_excl e2 hx) hb
      · rw [blk_nil c er lc] at hb; cases hb
  · exact h.1.elim
end

/-! code -/
inductive Ex where
  | normal
  | exit (id : Nat)
  | ret
def Ex.to : Ex → Exit
  | .normal => .normal
  | .exit id => .exit id
  | .ret => .ret

/-- What is told of a loop: the state ahead of it, how it ends, and the state behind it. -/
structure LoopSpec where
  pre : St
  ex : Ex
  post : St
/-- Code that begins in a state ends so, in another one. -/
def CodeOk (P : Program) (m0 : Nat) (c : Code) (pre : St) (ex : Ex) (post : St) : Prop :=
  ∀ (cx : Cx) (env : Env) (a : Act) (w : World), cx.m0 = m0 → Ok cx env pre a w →
    c.wp P (fun e a' w' => e = ex.to ∧ ∃ env', Ok cx env' post a' w') a w

structure Orc where
  bits : List Bool
  loops : List LoopSpec

/-- A loop that is run round by round, n times at most. -/
def unroll (n : Nat) : LoopSpec := ⟨⟨[], List.replicate n .gone⟩, .normal, ⟨[], []⟩⟩
def iter (f : St → Orc → Option (Ex × St × List Prop × Orc)) : Nat → St → Orc → Option (Ex × St × List Prop × Orc)
  | 0, _, _ => none
  | n + 1, st, orc => match f st orc with
    | some (.normal, st, obl, orc) => match iter f n st orc with
      | some (e, st, obl', orc) => some (e, st, obl ++ obl', orc)
      | none => none
    | r => r
/-- Runs code. -/
def exec (P : Program) (Γ : List (FuncId × Sp)) (m0 : Nat) : Code → St → Orc → Option (Ex × St × List Prop × Orc)
  | .skip, st, orc => some (.normal, st, [], orc)
  | .region _ ops draw, st, orc => if draw then (if P.follows .mixedOrders then match drawOps P Γ ops.toList st orc.bits with
      | some (st, obl, bits) => some (.normal, st, obl, ⟨bits, orc.loops⟩)
      | none => none
    else none) else match runOps P Γ ops ops.toList st orc.bits with
    | some (st, obl, bits) => some (.normal, st, obl, ⟨bits, orc.loops⟩)
    | none => none
  | .seq x y, st, orc => match exec P Γ m0 x st orc with
    | some (.normal, st, obl, orc) => match exec P Γ m0 y st orc with
      | some (e, st, obl', orc) => some (e, st, obl ++ obl', orc)
      | none => none
    | r => r
  | .cond c x y, st, orc => match decide? st.tm orc.bits c with
    | some (b, tm, obl, bits) => match (if b then exec P Γ m0 x ⟨tm, st.mem⟩ ⟨bits, orc.loops⟩ else exec P Γ m0 y ⟨tm, st.mem⟩ ⟨bits, orc.loops⟩) with
      | some (e, st, obl', orc) => some (e, st, obl ++ obl', orc)
      | none => none
    | none => none
  | .block id c, st, orc => match exec P Γ m0 c st orc with
    | some (.exit id', st, obl, orc) => some (if id' = id then .normal else .exit id', st, obl, orc)
    | r => r
  | .exit id, st, orc => some (.exit id, st, [], orc)
  | .ret, st, orc => some (.ret, st, [], orc)
  | .label _, st, orc => some (.normal, st, [], orc)
  | .loop body, st, orc => match orc.loops with
    | s :: loops => match s.pre.tm with
      | [] => iter (fun st orc => exec P Γ m0 body st orc) s.pre.mem.length st ⟨orc.bits, loops⟩
      | _ :: _ => some (s.ex, s.post, leSt m0 st s.pre ++ [m0 ≤ s.pre.mem.length, CodeOk P m0 (.loop body) s.pre s.ex s.post], ⟨orc.bits, loops⟩)
    | [] => none
  | _, _, _ => none

section
variable {P : Program} {Γ : List (FuncId × Sp)}

theorem Env.cut_le {env : Env} {m : Nat} (h : ∀ k, m ≤ k → env k = none) : env.le (env.cut m) := by
  intro k v hk
  by_cases hl : k < m
  · rw [Env.cut_lt hl]; exact hk
  · rw [h k (by omega)] at hk; cases hk

/-- What a run leaves, seen from the state that it began in: handles of that state stay. -/
theorem exec_sound (hΓ : CtxOk P Γ) {m0 : Nat} {cx : Cx} (hm0 : cx.m0 = m0) : ∀ (c : Code) {st st' : St} {orc orc' : Orc} {e : Ex} {obl : List Prop} {a : Act} {w : World} {env : Env}, exec P Γ m0 c st orc = some (e, st', obl, orc') → AllT obl → Ok cx env st a w →
    c.wp P (fun e' a' w' => e' = e.to ∧ ∃ env', Ok cx env' st' a' w') a w := by
  intro c
  induction c with
  | skip =>
    intro st st' orc orc' e obl a w env h ho hk
    simp only [exec, Option.some.injEq, Prod.mk.injEq] at h
    obtain ⟨rfl, rfl, rfl, rfl⟩ := h
    exact wp_skip ⟨rfl, env, hk⟩
  | region id ops draw =>
    intro st st' orc orc' e obl a w env h ho hk
    simp only [exec] at h
    split at h
    · rename_i hd
      subst hd
      split at h
      · rename_i hmo
        split at h
        · rename_i st1 obl1 bits h1
          simp only [Option.some.injEq, Prod.mk.injEq] at h
          obtain ⟨rfl, rfl, rfl, rfl⟩ := h
          have := drawOps_sound (id := id) (Q := fun e' a' w' => e' = Ex.normal.to ∧ ∃ env', Ok cx env' st1 a' w') hΓ hmo h1 ho hk (fun env' a' w' hk' => ⟨rfl, env', hk'⟩)
          rwa [Array.toArray_toList] at this
        · cases h
      · cases h
    · rename_i hd
      split at h
      · rename_i st1 obl1 bits h1
        simp only [Option.some.injEq, Prod.mk.injEq] at h
        obtain ⟨rfl, rfl, rfl, rfl⟩ := h
        have hd' : draw = false := by simpa using hd
        subst hd'
        exact wp_region_list (runOps_sound hΓ ops.toList h1 ho hk (fun env' a' w' _ hk' => ⟨rfl, env', hk'⟩))
      · cases h
  | seq x y ihx ihy =>
    intro st st' orc orc' e obl a w env h ho hk
    simp only [exec] at h
    split at h
    · rename_i st1 obl1 orc1 h1
      split at h
      · rename_i e2 st2 obl2 orc2 h2
        simp only [Option.some.injEq, Prod.mk.injEq] at h
        obtain ⟨rfl, rfl, rfl, rfl⟩ := h
        obtain ⟨o1, o2⟩ := AllT.append.1 ho
        refine wp_seq (wp_mono (ihx h1 o1 hk) ?_)
        rintro e' a' w' ⟨rfl, env', hk'⟩
        exact ihy h2 o2 hk'
      · cases h
    · rename_i hn
      refine wp_seq (wp_mono (ihx h ho hk) ?_)
      rintro e' a' w' ⟨rfl, env', hk'⟩
      cases e with
      | normal => exact (hn _ _ _ h).elim
      | exit id => exact ⟨rfl, env', hk'⟩
      | ret => exact ⟨rfl, env', hk'⟩
  | cond c x y ihx ihy =>
    intro st st' orc orc' e obl a w env h ho hk
    simp only [exec] at h
    split at h
    · rename_i b tm obl0 bits hdec
      split at h
      · rename_i e1 st1 obl1 orc1 h1
        simp only [Option.some.injEq, Prod.mk.injEq] at h
        obtain ⟨rfl, rfl, rfl, rfl⟩ := h
        obtain ⟨o1, o2⟩ := AllT.append.1 ho
        obtain ⟨hb, htm⟩ := decide?_sound hdec o1 hk.tm
        refine wp_cond hb ?_
        cases b with
        | true => exact ihx h1 o2 ⟨hk.defers, htm, hk.mem, hk.long, hk.fix⟩
        | false => exact ihy h1 o2 ⟨hk.defers, htm, hk.mem, hk.long, hk.fix⟩
      · cases h
    · cases h
  | block id c ih =>
    intro st st' orc orc' e obl a w env h ho hk
    simp only [exec] at h
    split at h
    · rename_i id' st1 obl1 orc1 h1
      simp only [Option.some.injEq, Prod.mk.injEq] at h
      obtain ⟨rfl, rfl, rfl, rfl⟩ := h
      refine wp_block (wp_mono (ih h1 ho hk) ?_)
      rintro e' a' w' ⟨rfl, env', hk'⟩
      by_cases hid : id' = id
      · simp only [Exit.inBlock, Ex.to, if_pos hid]
        exact ⟨trivial, env', hk'⟩
      · simp only [Exit.inBlock, Ex.to, if_neg hid]
        exact ⟨trivial, env', hk'⟩
    · rename_i hn
      refine wp_block (wp_mono (ih h ho hk) ?_)
      rintro e' a' w' ⟨rfl, env', hk'⟩
      cases e with
      | normal => exact ⟨rfl, env', hk'⟩
      | exit id => exact (hn _ _ _ _ h).elim
      | ret => exact ⟨rfl, env', hk'⟩
  | exit id =>
    intro st st' orc orc' e obl a w env h ho hk
    simp only [exec, Option.some.injEq, Prod.mk.injEq] at h
    obtain ⟨rfl, rfl, rfl, rfl⟩ := h
    exact wp_exit ⟨rfl, env, hk⟩
  | ret =>
    intro st st' orc orc' e obl a w env h ho hk
    simp only [exec, Option.some.injEq, Prod.mk.injEq] at h
    obtain ⟨rfl, rfl, rfl, rfl⟩ := h
    exact wp_ret ⟨rfl, env, hk⟩
  | label l =>
    intro st st' orc orc' e obl a w env h ho hk
    simp only [exec, Option.some.injEq, Prod.mk.injEq] at h
    obtain ⟨rfl, rfl, rfl, rfl⟩ := h
    exact wp_label ⟨rfl, env, hk⟩
  | loop body ih =>
    intro st st' orc orc' e obl a w env h ho hk
    simp only [exec] at h
    split at h
    · rename_i s loops hs
      split at h
      · have key : ∀ (n : Nat) {st st' : St} {orc orc' : Orc} {e : Ex} {obl : List Prop} {a : Act} {w : World} {env : Env}, iter (fun st orc => exec P Γ m0 body st orc) n st orc = some (e, st', obl, orc') → AllT obl → Ok cx env st a w →
            Code.rounds P body (fun e' a' w' => e' = e.to ∧ ∃ env', Ok cx env' st' a' w') n a w := by
          intro n
          induction n with
          | zero => intro st st' orc orc' e obl a w env h; cases h
          | succ n ihn =>
            intro st st' orc orc' e obl a w env h ho hk
            simp only [iter] at h
            split at h
            · rename_i st1 obl1 orc1 h1
              split at h
              · rename_i e2 st2 obl2 orc2 h2
                simp only [Option.some.injEq, Prod.mk.injEq] at h
                obtain ⟨rfl, rfl, rfl, rfl⟩ := h
                obtain ⟨o1, o2⟩ := AllT.append.1 ho
                rw [rounds_succ]
                refine wp_mono (ih h1 o1 hk) ?_
                rintro e' a' w' ⟨rfl, env', hk'⟩
                exact ihn h2 o2 hk'
              · cases h
            · rename_i hn
              rw [rounds_succ]
              refine wp_mono (ih h ho hk) ?_
              rintro e' a' w' ⟨rfl, env', hk'⟩
              cases e with
              | normal => exact (hn _ _ _ h).elim
              | exit id => exact ⟨rfl, env', hk'⟩
              | ret => exact ⟨rfl, env', hk'⟩
        exact wp_loop_rounds _ (key _ h ho hk)
      simp only [Option.some.injEq, Prod.mk.injEq] at h
      obtain ⟨rfl, rfl, rfl, rfl⟩ := h
      obtain ⟨o1, o2⟩ := AllT.append.1 ho
      obtain ⟨o3, o4, _⟩ := o2
      refine wp_mono (o4 cx _ a w hm0 (leSt_sound (by rw [hm0]; exact o1) (by rw [hm0]; exact o3) hk)) ?_
      rintro e' a' w' ⟨rfl, env', hk'⟩
      exact ⟨rfl, env', hk'⟩
    · cases h
  | _ => intro st st' orc orc' e obl a w env h; simp [exec] at h
end
end E
end Go.Proofs.Ytlmeemilikladaa

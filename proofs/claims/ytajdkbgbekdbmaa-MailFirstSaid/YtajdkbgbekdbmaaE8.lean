/- A symbolic run of Go code: one state says more than another; a function's run, seen from its caller. No condition. -/
import Derived.Test.YtajdkbgbekdbmaaE7
namespace Go.Proofs.Ytajdkbgbekdbmaa
set_option linter.unusedVariables false
set_option linter.unusedSimpArgs false
namespace E
open Go.RowKit

def MemLe (m m' : List Seg) : Prop := ∀ (h : Nat) (s : Seg), m[h]? = some s → s = Seg.gone ∨ m'[h]? = some s

/-! one state says more than another -/
/-- What a handle of the one state is in the other: nothing (an empty row), a handle, the first n elements of a handle's row. -/
inductive Bd where
  | nil
  | same (i : Nat)
  | cut (i n : Nat)
def bdOf (ρ : List (Nat × Bd)) (h : Nat) : Bd := match ρ.lookup h with | some b => b | none => .same h
def isSame : Bd → Nat → Bool
  | .same i, h => Nat.beq i h
  | _, _ => false
def Bd.ix : Bd → Option Nat
  | .nil => none
  | .same i => some i
  | .cut i _ => some i
theorem isSame_eq {b : Bd} {h : Nat} (e : isSame b h = true) : b = .same h := by
  cases b <;> simp only [isSame, Bool.false_eq_true] at e
  rw [Nat.eq_of_beq_eq_true e]

def leA0 (ρ : List (Nat × Bd)) (m : Nat) : A0 → A0 → List Prop
  | .val a, .val b => [a = b]
  | .ptr h j, .ptr h' j' => if isSame (bdOf ρ h') h = true ∧ h' < m then [j = j'] else [False]
  | .own h, .own h' => if isSame (bdOf ρ h') h = true ∧ h' < m then [] else [False]
  | _, _ => [False]
def leA0s (ρ : List (Nat × Bd)) (m : Nat) : List A0 → List A0 → List Prop
  | [], [] => []
  | x :: xs, y :: ys => leA0 ρ m x y ++ leA0s ρ m xs ys
  | _, _ => [False]
def leAt (ρ : List (Nat × Bd)) (m : Nat) : At → At → List Prop
  | _, .any => []
  | .val (.int k a), .val (.int k' b) => if k = k' then [a = b] else [False]
  | .val (.bool a), .val (.bool b) => [a = b]
  | .bit a, .val (.bool b) => [a = b]
  | .val (.bool a), .bit b => [a = b]
  | .val (.string a), .val (.string b) => [a = b]
  | .val (.pointer none), .optr _ => []
  | .val a, .val b => [a = b]
  | .bit a, .bit b => [a = b]
  | .ptr h j, .optr h' => if isSame (bdOf ρ h') h = true ∧ h' < m then [j = 0] else [False]
  | .optr h, .optr h' => if isSame (bdOf ρ h') h = true ∧ h' < m then [] else [False]
  | .chn h, .chn h' => if isSame (bdOf ρ h') h = true ∧ h' < m then [] else [False]
  | .root h k nn, .root h' k' nn' => if isSame (bdOf ρ h') h = true ∧ h' < m ∧ (!nn' || nn) = true then [k = k'] else [False]
  | .ptr h j, .ptr h' j' => if isSame (bdOf ρ h') h = true ∧ h' < m then [j = j'] else [False]
  | .eptr h wd i j, .eptr h' wd' i' j' => if isSame (bdOf ρ h') h = true ∧ wd = wd' ∧ h' < m then [i = i', j = j'] else [False]
  | .own h, .own h' => if isSame (bdOf ρ h') h = true ∧ h' < m then [] else [False]
  | .sub h wd off n, .sub h' wd' off' n' => if isSame (bdOf ρ h') h = true ∧ wd = wd' ∧ h' < m then [off = off', n = n'] else [False]
  | .sub h _ off n, .own h' => match bdOf ρ h' with
    | .cut i k => if Nat.beq i h = true ∧ h' < m then [off = 0, n = k] else [False]
    | _ => [False]
  | .clo f l, .clo f' l' => if f = f' then leA0s ρ m l l' else [False]
  | .val (.slice none 0 0), .own h' => match bdOf ρ h' with
    | .nil => if h' < m then [] else [False]
    | _ => [False]
  | _, _ => [False]
def leAts (ρ : List (Nat × Bd)) (m : Nat) : List At → List At → List Prop
  | [], [] => []
  | x :: xs, y :: ys => leAt ρ m x y ++ leAts ρ m xs ys
  | _, _ => [False]
def leNV (ρ : List (Nat × Bd)) (m : Nat) : NV → NV → List Prop
  | .one a, .one b => leAt ρ m a b
  | .agg a, .agg b => leAts ρ m a b
  | _, _ => [False]
def leNVs (ρ : List (Nat × Bd)) (m : Nat) : List NV → List NV → List Prop
  | [], [] => []
  | x :: xs, y :: ys => leNV ρ m x y ++ leNVs ρ m xs ys
  | _, _ => [False]
def leSV (ρ : List (Nat × Bd)) (m : Nat) : SV → SV → List Prop
  | _, .any => []
  | .nv a, .nv b => leNV ρ m a b
  | .tup a, .tup b => leNVs ρ m a b
  | _, _ => [False]
def leTm (ρ : List (Nat × Bd)) (m : Nat) : List SV → List SV → List Prop
  | [], [] => []
  | x :: xs, y :: ys => leSV ρ m x y ++ leTm ρ m xs ys
  | _, _ => [False]
def leG (ρ : List (Nat × Bd)) (m n : Nat) (g g' : Nat → List At) : Prop := ∀ i, i < n → AllT (leAts ρ m (g i) (g' i))
def leSeg (ρ : List (Nat × Bd)) (m : Nat) : Seg → Seg → List Prop
  | _, .gone => []
  | .box t a, .box t' b => if t = t' then leAts ρ m a b else [False]
  | .box t a, .robox t' b => if t = t' then leAts ρ m a b else [False]
  | .robox t a, .robox t' b => if t = t' then leAts ρ m a b else [False]
  | .ro wd n g, .ro wd' n' g' => if wd = wd' then [n = n', leG ρ m n g g'] else [False]
  | .row _ wd n g, .ro wd' n' g' => if wd = wd' then [n = n', leG ρ m n g g'] else [False]
  | .row e wd n g, .row e' wd' n' g' => if e = e' ∧ wd = wd' then [n = n', leG ρ m n g g'] else [False]
  | .chan c b cl, .chan c' b' cl' => [c = c', b = b', cl = cl']
  | .abs A, .abs A' => [A = A']
  | .abs A, .roabs A' => [A = A']
  | .roabs A, .roabs A' => [A = A']
  | _, _ => [False]
def leCut (ρ : List (Nat × Bd)) (m k : Nat) : Seg → Seg → List Prop
  | _, .gone => []
  | .row e wd n g, .row e' wd' n' g' => if e = e' ∧ wd = wd' then [k = n', k ≤ n, leG ρ m k g g'] else [False]
  | _, _ => [False]
/-- The memory of the other state, from its handle j on. -/
def leMem (ρ : List (Nat × Bd)) (m : Nat) (xs : List Seg) : Nat → List Seg → List Prop
  | _, [] => []
  | j, y :: ys => (match bdOf ρ j with
    | .same i => match xs[i]? with
      | some x => leSeg ρ m x y
      | none => match y with
        | .gone => []
        | _ => [False]
    | .cut i k => match xs[i]? with
      | some x => leCut ρ m k x y
      | none => match y with
        | .gone => []
        | _ => [False]
    | .nil => match y with
      | .gone => []
      | .row _ _ n _ => [n = 0]
      | .ro _ n _ => [n = 0]
      | _ => [False]) ++ leMem ρ m xs (j + 1) ys
def matchA0s : List A0 → List A0 → List (Nat × Bd)
  | .ptr h _ :: xs, .ptr h' _ :: ys => (h', .same h) :: matchA0s xs ys
  | .own h :: xs, .own h' :: ys => (h', .same h) :: matchA0s xs ys
  | _ :: xs, _ :: ys => matchA0s xs ys
  | _, _ => []
def matchAt : At → At → List (Nat × Bd)
  | .ptr h _, .ptr h' _ => [(h', .same h)]
  | .ptr h _, .optr h' => [(h', .same h)]
  | .optr h, .optr h' => [(h', .same h)]
  | .chn h, .chn h' => [(h', .same h)]
  | .root h _ _, .root h' _ _ => [(h', .same h)]
  | .eptr h _ _ _, .eptr h' _ _ _ => [(h', .same h)]
  | .own h, .own h' => [(h', .same h)]
  | .sub h _ _ _, .sub h' _ _ _ => [(h', .same h)]
  | .sub h _ _ n, .own h' => [(h', .cut h n)]
  | .clo _ l, .clo _ l' => matchA0s l l'
  | .val (.slice none 0 0), .own h' => [(h', .nil)]
  | _, _ => []
def matchAts : List At → List At → List (Nat × Bd)
  | x :: xs, y :: ys => matchAt x y ++ matchAts xs ys
  | _, _ => []
def matchNVs : List NV → List NV → List (Nat × Bd)
  | .one x :: xs, .one y :: ys => matchAt x y ++ matchNVs xs ys
  | .agg x :: xs, .agg y :: ys => matchAts x y ++ matchNVs xs ys
  | _ :: xs, _ :: ys => matchNVs xs ys
  | _, _ => []
def matchTm : List SV → List SV → List (Nat × Bd)
  | .nv (.one x) :: xs, .nv (.one y) :: ys => matchAt x y ++ matchTm xs ys
  | .nv (.agg x) :: xs, .nv (.agg y) :: ys => matchAts x y ++ matchTm xs ys
  | .tup x :: xs, .tup y :: ys => matchNVs x y ++ matchTm xs ys
  | _ :: xs, _ :: ys => matchTm xs ys
  | _, _ => []
def boxCells : Seg → Option (List At)
  | .box _ a => some a
  | .robox _ a => some a
  | _ => none
def matchMem (xs ys : List Seg) : List (Nat × Bd) → List (Nat × Bd)
  | [] => []
  | (j, .same i) :: l => (match xs[i]?, ys[j]? with
    | some x, some y => match boxCells x, boxCells y with
      | some a, some b => matchAts a b
      | _, _ => []
    | _, _ => []) ++ matchMem xs ys l
  | (_, _) :: l => matchMem xs ys l
def idSeeds : Nat → List (Nat × Bd)
  | 0 => []
  | n + 1 => (n, .same n) :: idSeeds n
/-- Which handles are which; the first m0 are themselves. -/
def renL (m0 : Nat) (xt : List SV) (xm : List Seg) (yt : List SV) (ym : List Seg) : List (Nat × Bd) :=
  let r0 := idSeeds m0 ++ matchTm xt yt
  let r1 := matchMem xm ym r0
  let r2 := matchMem xm ym r1
  r0 ++ (r1 ++ (r2 ++ matchMem xm ym r2))
def freshB (i : Nat) (ex : Bool) (ρ : List (Nat × Bd)) : Nat → List Seg → Bool
  | _, [] => true
  | j, .gone :: ys => freshB i ex ρ (j + 1) ys
  | j, y :: ys => (!(ex || y.excl) || (match (bdOf ρ j).ix with | some k => !Nat.beq k i | none => true)) && freshB i ex ρ (j + 1) ys
/-- No two handles, that are not gone, are one, if one may be written. -/
def injB (ρ : List (Nat × Bd)) : Nat → List Seg → Bool
  | _, [] => true
  | j, .gone :: ys => injB ρ (j + 1) ys
  | j, y :: ys => (match (bdOf ρ j).ix with | some i => freshB i y.excl ρ (j + 1) ys | none => true) && injB ρ (j + 1) ys
def fixB (ρ : List (Nat × Bd)) : Nat → Bool
  | 0 => true
  | n + 1 => isSame (bdOf ρ n) n && fixB ρ n

def cutV : Option Value → Nat → Option Value
  | some (.slice ao _ cap), n => some (.slice ao n cap)
  | _, _ => none
def Env.cutR (env : Env) (ρ : List (Nat × Bd)) (m : Nat) : Env := fun h => if h < m then (match bdOf ρ h with | .same k => env k | .nil => some (.slice none 0 0) | .cut k n => cutV (env k) n) else none

theorem le_if {ρ : List (Nat × Bd)} {m n N : Nat} {c : List At} {g g' : Nat → List At} (h : ∀ i, i < N → i ≠ n → AllT (leAts ρ m (g i) (g' i))) (hc : AllT (leAts ρ m c (g' n))) :
    leG ρ m N (fun i => if i = n then c else g i) g' := by
  intro i hi
  simp only
  split
  · rename_i e; subst e; exact hc
  · rename_i e; exact h i hi e

section
variable {env : Env} {ρ : List (Nat × Bd)} {m : Nat}
theorem Env.cutR_lt {h i : Nat} (e : bdOf ρ h = .same i) (k : h < m) : env.cutR ρ m h = env i := by simp [Env.cutR, k, e]
theorem Env.cutR_nil {h : Nat} (e : bdOf ρ h = .nil) (k : h < m) : env.cutR ρ m h = some (.slice none 0 0) := by simp [Env.cutR, k, e]
theorem Env.cutR_cut {h i n : Nat} (e : bdOf ρ h = .cut i n) (k : h < m) : env.cutR ρ m h = cutV (env i) n := by simp [Env.cutR, k, e]

theorem leA0_sound {x y : A0} {v : Value} (h : AllT (leA0 ρ m x y)) (k : x.rel env v) : y.rel (env.cutR ρ m) v := by
  unfold leA0 at h
  split at h
  · simp only [AllT, and_true] at h
    subst h; exact k
  · split at h
    · rename_i e
      obtain ⟨er, hl⟩ := e
      simp only [AllT, and_true] at h
      subst h
      obtain ⟨u, a, e1, e2, e3⟩ := k
      exact ⟨u, a, by rw [Env.cutR_lt (isSame_eq er) hl]; exact e1, e2, e3⟩
    · exact h.1.elim
  · split at h
    · rename_i e
      obtain ⟨er, hl⟩ := e
      exact ⟨by rw [Env.cutR_lt (isSame_eq er) hl]; exact k.1, k.2⟩
    · exact h.1.elim
  · exact h.1.elim
theorem leA0s_sound : ∀ {l r : List A0} {vs : List Value}, AllT (leA0s ρ m l r) → A0s.rel env l vs → A0s.rel (env.cutR ρ m) r vs
  | [], [], [], _, _ => trivial
  | x :: xs, y :: ys, v :: vs, h, k => by
    obtain ⟨h1, h2⟩ := AllT.append.1 h
    exact ⟨leA0_sound h1 k.1, leA0s_sound h2 k.2⟩
  | [], y :: ys, _, h, _ => h.1.elim
  | x :: xs, [], _, h, _ => h.1.elim
theorem leAt_sound {x y : At} {v : Value} (h : AllT (leAt ρ m x y)) (k : x.rel env v) : y.rel (env.cutR ρ m) v := by
  unfold leAt at h
  split at h
  · trivial
  · split at h
    · rename_i e
      simp only [AllT, and_true] at h
      subst e; subst h; exact k
    · exact h.1.elim
  · simp only [AllT, and_true] at h
    subst h; exact k
  · simp only [AllT, and_true] at h
    subst h; exact k
  · simp only [AllT, and_true] at h
    subst h; exact k
  · simp only [AllT, and_true] at h
    subst h; exact k
  · exact .inl k
  · simp only [AllT, and_true] at h
    subst h; exact k
  · simp only [AllT, and_true] at h
    subst h; exact k
  · split at h
    · rename_i e
      obtain ⟨er, hl⟩ := e
      simp only [AllT, and_true] at h
      subst h
      obtain ⟨u, a, e1, e2, e3⟩ := k
      exact .inr ⟨u, a, by rw [Env.cutR_lt (isSame_eq er) hl]; exact e1, e2, e3⟩
    · exact h.1.elim
  · split at h
    · rename_i e
      obtain ⟨er, hl⟩ := e
      rcases k with k | ⟨u, a, e1, e2, e3⟩
      · exact .inl k
      · exact .inr ⟨u, a, by rw [Env.cutR_lt (isSame_eq er) hl]; exact e1, e2, e3⟩
    · exact h.1.elim
  · split at h
    · rename_i e
      obtain ⟨er, hl⟩ := e
      obtain ⟨b, e1, e2⟩ := k
      exact ⟨b, by rw [Env.cutR_lt (isSame_eq er) hl]; exact e1, e2⟩
    · exact h.1.elim
  · split at h
    · rename_i e
      obtain ⟨er, hl, hn⟩ := e
      simp only [AllT, and_true] at h
      subst h
      obtain ⟨vs, b, e1, e2, e3, e4⟩ := k
      refine ⟨vs, b, by rw [Env.cutR_lt (isSame_eq er) hl]; exact e1, e2, e3, fun q => e4 ?_⟩
      subst q
      simpa using hn
    · exact h.1.elim
  · split at h
    · rename_i e
      obtain ⟨er, hl⟩ := e
      simp only [AllT, and_true] at h
      subst h
      obtain ⟨u, a, e1, e2, e3⟩ := k
      exact ⟨u, a, by rw [Env.cutR_lt (isSame_eq er) hl]; exact e1, e2, e3⟩
    · exact h.1.elim
  · split at h
    · rename_i e
      obtain ⟨er, rfl, hl⟩ := e
      simp only [AllT, and_true] at h
      obtain ⟨rfl, rfl⟩ := h
      obtain ⟨u, a, e1, e2, e3⟩ := k
      exact ⟨u, a, by rw [Env.cutR_lt (isSame_eq er) hl]; exact e1, e2, e3⟩
    · exact h.1.elim
  · split at h
    · rename_i e
      obtain ⟨er, hl⟩ := e
      exact ⟨by rw [Env.cutR_lt (isSame_eq er) hl]; exact k.1, k.2⟩
    · exact h.1.elim
  · split at h
    · rename_i e
      obtain ⟨er, rfl, hl⟩ := e
      simp only [AllT, and_true] at h
      obtain ⟨rfl, rfl⟩ := h
      obtain ⟨ao, len, cap, bo, c, e1, e2⟩ := k
      exact ⟨ao, len, cap, bo, c, by rw [Env.cutR_lt (isSame_eq er) hl]; exact e1, e2⟩
    · exact h.1.elim
  · split at h
    · rename_i i k' hb
      split at h
      · rename_i e
        obtain ⟨er, hl⟩ := e
        have er := Nat.eq_of_beq_eq_true er
        subst er
        simp only [AllT, and_true] at h
        obtain ⟨rfl, rfl⟩ := h
        obtain ⟨ao, len, cap, bo, c, e1, rfl, hnc, e2, e3⟩ := k
        obtain ⟨rfl, rfl⟩ := e2 rfl
        exact ⟨by rw [Env.cutR_cut hb hl, e1]; rfl, _, _, _, rfl⟩
      · exact h.1.elim
    · exact h.1.elim
  · split at h
    · rename_i e
      subst e
      obtain ⟨cs, rfl, k⟩ := k
      exact ⟨cs, rfl, leA0s_sound h k⟩
    · exact h.1.elim
  · split at h
    · rename_i hb
      split at h
      · rename_i hl
        cases k
        exact ⟨Env.cutR_nil hb hl, _, _, _, rfl⟩
      · exact h.1.elim
    · exact h.1.elim
  · exact h.1.elim
theorem leAts_sound : ∀ {l r : List At} {vs : List Value}, AllT (leAts ρ m l r) → AllRel env l vs → AllRel (env.cutR ρ m) r vs
  | [], [], [], _, _ => trivial
  | x :: xs, y :: ys, v :: vs, h, k => by
    obtain ⟨h1, h2⟩ := AllT.append.1 h
    exact ⟨leAt_sound h1 k.1, leAts_sound h2 k.2⟩
  | [], y :: ys, _, h, _ => h.1.elim
  | x :: xs, [], _, h, _ => h.1.elim
theorem leNV_sound {x y : NV} {v : Value} (h : AllT (leNV ρ m x y)) (k : x.rel env v) : y.rel (env.cutR ρ m) v := by
  cases x <;> cases y
  · exact leAt_sound h k
  · exact h.1.elim
  · exact h.1.elim
  · obtain ⟨cs, rfl, k⟩ := k
    exact ⟨cs, rfl, leAts_sound h k⟩
theorem leNVs_sound : ∀ {l r : List NV} {vs : List Value}, AllT (leNVs ρ m l r) → AllNV env l vs → AllNV (env.cutR ρ m) r vs
  | [], [], [], _, _ => trivial
  | x :: xs, y :: ys, v :: vs, h, k => by
    obtain ⟨h1, h2⟩ := AllT.append.1 h
    exact ⟨leNV_sound h1 k.1, leNVs_sound h2 k.2⟩
  | [], y :: ys, _, h, _ => h.1.elim
  | x :: xs, [], _, h, _ => h.1.elim
theorem leSV_sound {x y : SV} {v : Value} (h : AllT (leSV ρ m x y)) (k : x.rel env v) : y.rel (env.cutR ρ m) v := by
  unfold leSV at h
  split at h
  · trivial
  · exact leNV_sound h k
  · obtain ⟨cs, rfl, k⟩ := k
    exact ⟨cs, rfl, leNVs_sound h k⟩
  · exact h.1.elim
theorem leTm_sound : ∀ {l r : List SV} {vs : List Value}, AllT (leTm ρ m l r) → AllSV env l vs → AllSV (env.cutR ρ m) r vs
  | [], [], [], _, _ => trivial
  | x :: xs, y :: ys, v :: vs, h, k => by
    obtain ⟨h1, h2⟩ := AllT.append.1 h
    exact ⟨leSV_sound h1 k.1, leTm_sound h2 k.2⟩
  | [], y :: ys, _, h, _ => h.1.elim
  | x :: xs, [], _, h, _ => h.1.elim

/-- What a handle of the other state has in the one. -/
def leEntry (ρ : List (Nat × Bd)) (m : Nat) (xs : List Seg) (j : Nat) (y : Seg) : List Prop :=
  match bdOf ρ j with
    | .same i => match xs[i]? with
      | some x => leSeg ρ m x y
      | none => match y with
        | .gone => []
        | _ => [False]
    | .cut i k => match xs[i]? with
      | some x => leCut ρ m k x y
      | none => match y with
        | .gone => []
        | _ => [False]
    | .nil => match y with
      | .gone => []
      | .row _ _ n _ => [n = 0]
      | .ro _ n _ => [n = 0]
      | _ => [False]
theorem leMem_get {l : List Seg} : ∀ {r : List Seg} {j : Nat}, AllT (leMem ρ m l j r) → ∀ (h : Nat) (s : Seg), r[h]? = some s → AllT (leEntry ρ m l (j + h) s)
  | [], j, _, h, s, e => by simp at e
  | y :: ys, j, k, 0, s, e => by
    obtain ⟨h1, h2⟩ := AllT.append.1 k
    simp at e; subst e
    exact h1
  | y :: ys, j, k, h + 1, s, e => by
    obtain ⟨h1, h2⟩ := AllT.append.1 k
    simp at e
    have := leMem_get h2 h s e
    rwa [show j + 1 + h = j + (h + 1) by omega] at this
theorem leMem_mk {l : List Seg} : ∀ {r : List Seg} {j : Nat}, (∀ (h : Nat) (s : Seg), r[h]? = some s → AllT (leEntry ρ m l (j + h) s)) → AllT (leMem ρ m l j r)
  | [], j, _ => trivial
  | y :: ys, j, k => AllT.append.2 ⟨k 0 y (by simp), leMem_mk (fun h s e => by
      have := k (h + 1) s (by simpa using e)
      rwa [show j + (h + 1) = j + 1 + h by omega] at this)⟩
theorem leSeg_gone {y : Seg} (h : AllT (leSeg ρ m .gone y)) : y = .gone := by
  cases y <;> first | rfl | exact h.1.elim
theorem leCut_gone {k : Nat} {y : Seg} (h : AllT (leCut ρ m k .gone y)) : y = .gone := by
  cases y <;> first | rfl | exact h.1.elim
theorem leEntry_gone {xs : List Seg} {j : Nat} : AllT (leEntry ρ m xs j .gone) := by
  unfold leEntry
  split
  · split
    · rename_i x _; cases x <;> trivial
    · trivial
  · split
    · rename_i x _; cases x <;> trivial
    · trivial
  · trivial
theorem leEntry_mono {xs xs' : List Seg} {j : Nat} {y : Seg} (hle : MemLe xs xs') (h : AllT (leEntry ρ m xs j y)) : AllT (leEntry ρ m xs' j y) := by
  by_cases hy : y = .gone
  · subst hy; exact leEntry_gone
  · unfold leEntry at h ⊢
    split
    · rename_i i hb
      rw [hb] at h
      simp only at h
      split at h
      · rename_i x hx
        rcases hle i x hx with e | e
        · subst e; exact (hy (leSeg_gone h)).elim
        · rw [e]; exact h
      · exact absurd h (by cases y <;> first | exact (hy rfl).elim | exact fun q => q.1)
    · rename_i i k hb
      rw [hb] at h
      simp only at h
      split at h
      · rename_i x hx
        rcases hle i x hx with e | e
        · subst e; exact (hy (leCut_gone h)).elim
        · rw [e]; exact h
      · exact absurd h (by cases y <;> first | exact (hy rfl).elim | exact fun q => q.1)
    · rename_i hb
      rw [hb] at h
      exact h
theorem leMem_mono {xs xs' ys : List Seg} {j : Nat} (hle : MemLe xs xs') (h : AllT (leMem ρ m xs j ys)) : AllT (leMem ρ m xs' j ys) :=
  leMem_mk (fun c s e => leEntry_mono hle (leMem_get h c s e))

theorem freshB_sound {i : Nat} {ex : Bool} : ∀ {r : List Seg} {j : Nat}, freshB i ex ρ j r = true → ∀ (h : Nat) (s : Seg), r[h]? = some s → s ≠ .gone → ex = true ∨ s.excl = true → (bdOf ρ (j + h)).ix ≠ some i
  | [], j, _, h, s, e, _, _ => by simp at e
  | y :: ys, j, k, 0, s, e, hg, hx => by
    simp at e; subst e
    have k' : (!(ex || y.excl) || (match (bdOf ρ j).ix with | some k => !Nat.beq k i | none => true)) = true := by
      cases y <;> simp only [freshB, Bool.and_eq_true] at k <;> first | exact k.1 | exact (hg rfl).elim
    have hx' : (ex || y.excl) = true := by rcases hx with e | e <;> simp [e]
    rw [hx'] at k'
    simp only [Bool.not_true, Bool.false_or] at k'
    intro e
    rw [Nat.add_zero] at e
    rw [e] at k'
    simp only [Bool.not_eq_true'] at k'
    have : Nat.beq i i = true := Nat.beq_refl i
    rw [this] at k'
    cases k'
  | y :: ys, j, k, h + 1, s, e, hg, hx => by
    simp at e
    have k' : freshB i ex ρ (j + 1) ys = true := by cases y <;> simp only [freshB, Bool.and_eq_true] at k <;> first | exact k.2 | exact k
    have := freshB_sound k' h s e hg hx
    rwa [show j + 1 + h = j + (h + 1) by omega] at this
theorem injB_sound : ∀ {r : List Seg} {j : Nat}, injB ρ j r = true → ∀ (h k i : Nat) (s t : Seg), r[h]? = some s → r[k]? = some t → h < k → s ≠ .gone → t ≠ .gone → s.excl = true ∨ t.excl = true → (bdOf ρ (j + h)).ix = some i → (bdOf ρ (j + k)).ix ≠ some i
  | [], j, _, h, _, _, s, _, e, _, _, _, _, _, _ => by simp at e
  | y :: ys, j, q, 0, k + 1, i, s, t, e, e', _, hg, hg', hx, hi => by
    simp at e e'; subst e
    rw [Nat.add_zero] at hi
    have q' : freshB i y.excl ρ (j + 1) ys = true := by cases y <;> simp only [injB, Bool.and_eq_true, hi] at q <;> first | exact q.1 | exact (hg rfl).elim
    have := freshB_sound q' k t e' hg' hx
    rwa [show j + 1 + k = j + (k + 1) by omega] at this
  | y :: ys, j, q, h + 1, k + 1, i, s, t, e, e', hl, hg, hg', hx, hi => by
    simp at e e'
    have q' : injB ρ (j + 1) ys = true := by cases y <;> simp only [injB, Bool.and_eq_true] at q <;> first | exact q.2 | exact q
    have := injB_sound q' h k i s t e e' (by omega) hg hg' hx (by rwa [show j + 1 + h = j + (h + 1) by omega])
    rwa [show j + 1 + k = j + (k + 1) by omega] at this
  | y :: ys, j, q, _, 0, _, s, t, e, e', hl, _, _, _, _ => by omega
theorem fixB_sound : ∀ {n : Nat}, fixB ρ n = true → ∀ h, h < n → bdOf ρ h = .same h
  | n + 1, q, h, hl => by
    simp only [fixB, Bool.and_eq_true] at q
    by_cases e : h = n
    · rw [e]; exact isSame_eq q.1
    · exact fixB_sound q.2 h (by omega)
theorem leElems {wd n : Nat} {g g' : Nat → List At} {cs : List Value} (h : leG ρ m n g g') (k : Elems env wd n g cs) : Elems (env.cutR ρ m) wd n g' cs :=
  ⟨k.1, fun i hi => leAts_sound (h i hi) (k.2.1 i hi), k.2.2⟩

/-- A row may be read. -/
theorem row_reads {w : World} {h wd n : Nat} {e : TypeId} {v : Value} {cs : List Value} (h2 : w.ownsRow 0 e wd v n cs) :
    ∃ ao cap, v = .slice ao n cap ∧ n ≤ cap ∧ cap ≤ maxLen ∧ (ao = none → n = 0 ∧ cap = 0) ∧ ∀ i u, cs[i]? = some u → ∃ a, ao = some a ∧ w.cell? (a.add i) = some u := by
  have hcells := fun b => h2.cells (g := b)
  rcases h2.2 with ⟨rfl, rfl⟩ | ⟨b, cap, cur, rfl, _, _, hnc, hcm, _⟩
  · refine ⟨none, 0, rfl, Nat.le_refl _, Nat.zero_le _, fun _ => ⟨rfl, rfl⟩, fun i u hi => ?_⟩
    have := h2.1
    have hlt := (List.getElem?_eq_some_iff.1 hi).1
    omega
  · exact ⟨_, cap, rfl, hnc, hcm, (fun e => by cases e), fun i u hi => ⟨_, rfl, hcells b rfl i u hi⟩⟩
theorem SegOk.slice {w : World} {i : Nat} {e : TypeId} {wd n : Nat} {g : Nat → List At} (k : SegOk env w i (.row e wd n g)) : ∃ ao cap, env i = some (.slice ao n cap) := by
  obtain ⟨v, cs, h1, h2, h3⟩ := k
  obtain ⟨ao, cap, rfl, _⟩ := row_reads (h := 0) h2
  exact ⟨ao, cap, h1⟩

theorem leSeg_sound {s t : Seg} {w : World} {h i : Nat} (hs : AllT (leSeg ρ m s t)) (hl : h < m) (er : bdOf ρ h = .same i) (k : SegOk env w i s) : SegOk (env.cutR ρ m) w h t := by
  unfold leSeg at hs
  split at hs
  · trivial
  · split at hs
    · rename_i e
      subst e
      obtain ⟨b, cs, h1, h2, h3⟩ := k
      exact ⟨b, cs, by rw [Env.cutR_lt er hl]; exact h1, h2, leAts_sound hs h3⟩
    · exact hs.1.elim
  · split at hs
    · rename_i e
      subst e
      obtain ⟨b, cs, h1, h2, h3⟩ := k
      exact ⟨b, cs, by rw [Env.cutR_lt er hl]; exact h1, h2, leAts_sound hs h3⟩
    · exact hs.1.elim
  · split at hs
    · rename_i e
      subst e
      obtain ⟨b, cs, h1, h2, h3⟩ := k
      exact ⟨b, cs, by rw [Env.cutR_lt er hl]; exact h1, h2, leAts_sound hs h3⟩
    · exact hs.1.elim
  · split at hs
    · rename_i e
      subst e
      simp only [AllT, and_true] at hs
      obtain ⟨rfl, hs⟩ := hs
      obtain ⟨ao, cap, cs, h1, h2, h3, h4, h5, h6⟩ := k
      exact ⟨ao, cap, cs, by rw [Env.cutR_lt er hl]; exact h1, h2, h3, h4, leElems hs h5, h6⟩
    · exact hs.1.elim
  · split at hs
    · rename_i e
      subst e
      simp only [AllT, and_true] at hs
      obtain ⟨rfl, hs⟩ := hs
      obtain ⟨v, cs, h1, h2, h3⟩ := k
      obtain ⟨ao, cap, rfl, q1, q2, q3, q4⟩ := row_reads (h := 0) h2
      exact ⟨ao, cap, cs, by rw [Env.cutR_lt er hl]; exact h1, q1, q2, q3, leElems hs h3, q4⟩
    · exact hs.1.elim
  · split at hs
    · rename_i e
      obtain ⟨rfl, rfl⟩ := e
      simp only [AllT, and_true] at hs
      obtain ⟨rfl, hs⟩ := hs
      obtain ⟨v, cs, h1, h2, h3⟩ := k
      exact ⟨v, cs, by rw [Env.cutR_lt er hl]; exact h1, h2, leElems hs h3⟩
    · exact hs.1.elim
  · simp only [AllT, and_true] at hs
    obtain ⟨rfl, rfl, rfl⟩ := hs
    obtain ⟨b, s, r, h1, h2⟩ := k
    exact ⟨b, s, r, by rw [Env.cutR_lt er hl]; exact h1, h2⟩
  · simp only [AllT, and_true] at hs
    subst hs
    obtain ⟨vs, h1, h2⟩ := k
    exact ⟨vs, by rw [Env.cutR_lt er hl]; exact h1, h2⟩
  · simp only [AllT, and_true] at hs
    subst hs
    obtain ⟨vs, h1, h2⟩ := k
    exact ⟨vs, by rw [Env.cutR_lt er hl]; exact h1, h2⟩
  · simp only [AllT, and_true] at hs
    subst hs
    obtain ⟨vs, h1, h2⟩ := k
    exact ⟨vs, by rw [Env.cutR_lt er hl]; exact h1, h2⟩
  · exact hs.1.elim
theorem leCut_sound {s t : Seg} {w : World} {h i n : Nat} (hs : AllT (leCut ρ m n s t)) (hl : h < m) (er : bdOf ρ h = .cut i n) (k : SegOk env w i s) : SegOk (env.cutR ρ m) w h t := by
  unfold leCut at hs
  split at hs
  · trivial
  · split at hs
    · rename_i e
      obtain ⟨rfl, rfl⟩ := e
      simp only [AllT, and_true] at hs
      obtain ⟨rfl, hle, hs⟩ := hs
      obtain ⟨v, cs, h1, h2, h3⟩ := k
      obtain ⟨ao, cap, rfl, q1, q2, q3, q4⟩ := row_reads (h := 0) h2
      refine ⟨.slice ao n cap, _, by rw [Env.cutR_cut er hl, h1]; rfl, ownsRow_cut h2 hle, ?_⟩
      have := h3.window (off := 0) (k := n) (by omega)
      simp only [Nat.zero_mul, List.drop_zero, Nat.zero_add] at this
      exact leElems hs this
    · exact hs.1.elim
  · exact hs.1.elim
theorem leSeg_excl {s t : Seg} (hs : AllT (leSeg ρ m s t)) (h : t.excl = true) : s.excl = true := by
  unfold leSeg at hs
  split at hs <;> first | rfl | (cases h; done) | exact hs.1.elim
theorem leCut_excl {k : Nat} {s t : Seg} (hs : AllT (leCut ρ m k s t)) (h : t.excl = true) : s.excl = true := by
  unfold leCut at hs
  split at hs <;> first | rfl | (cases h; done) | exact hs.1.elim
theorem leSeg_live {s t : Seg} (hs : AllT (leSeg ρ m s t)) (h : t.live) : s.live := by
  unfold leSeg at hs
  split at hs
  · exact h.elim
  · trivial
  · trivial
  · trivial
  · split at hs
    · rename_i e
      subst e
      simp only [AllT, and_true] at hs
      obtain ⟨rfl, _⟩ := hs
      exact h
    · exact hs.1.elim
  · trivial
  · trivial
  · trivial
  · trivial
  · trivial
  · trivial
  · exact hs.1.elim
theorem leCut_live {k : Nat} {s t : Seg} (hs : AllT (leCut ρ m k s t)) (h : t.live) : s.live := by
  unfold leCut at hs
  split at hs
  · exact h.elim
  · trivial
  · exact hs.1.elim

/-- What the handle c of the other state is. -/
theorem entry_sound {xs : List Seg} {w0 w : World} {S : Nat → Prop} (hm : MemOk env xs w0 w S) {c : Nat} {s : Seg} (hc : c < m) (h : AllT (leEntry ρ m xs c s)) (hg : s ≠ .gone) : SegOk (env.cutR ρ m) w c s ∧
    ((∃ i x, (bdOf ρ c).ix = some i ∧ xs[i]? = some x ∧ (s.excl = true → x.excl = true) ∧ (s.live → x.live) ∧ blk (env.cutR ρ m) c = blk env i) ∨ ∀ b, ¬ blk (env.cutR ρ m) c b) := by
  unfold leEntry at h
  split at h
  · rename_i i hb
    split at h
    · rename_i x hx
      exact ⟨leSeg_sound h hc hb (hm.ok i x hx), .inl ⟨i, x, by rw [hb]; rfl, hx, leSeg_excl h, leSeg_live h, blk_congr (Env.cutR_lt hb hc)⟩⟩
    · split at h
      · exact (hg rfl).elim
      · exact h.1.elim
  · rename_i i k hb
    split at h
    · rename_i x hx
      have hk := hm.ok i x hx
      refine ⟨leCut_sound h hc hb hk, .inl ⟨i, x, by rw [hb]; rfl, hx, leCut_excl h, leCut_live h, ?_⟩⟩
      unfold leCut at h
      split at h
      · exact (hg rfl).elim
      · obtain ⟨ao, cap, e⟩ := hk.slice
        funext q; simp [blk, Env.cutR_cut hb hc, e, cutV, blksOf, baseOf]
      · exact h.1.elim
    · split at h
      · exact (hg rfl).elim
      · exact h.1.elim
  · rename_i hb
    have hn : ∀ b, ¬ blk (env.cutR ρ m) c b := by intro b; simp [blk, Env.cutR_nil hb hc, blksOf, baseOf]
    split at h
    · exact (hg rfl).elim
    · rename_i e wd n g
      simp only [AllT, and_true] at h
      subst h
      exact ⟨⟨_, [], Env.cutR_nil hb hc, World.ownsRow_nil w 0 e wd, by simp, fun i hi => by omega, fun v hv => by cases hv⟩, .inr hn⟩
    · rename_i wd n g
      simp only [AllT, and_true] at h
      subst h
      exact ⟨⟨none, 0, [], Env.cutR_nil hb hc, Nat.le_refl _, Nat.zero_le _, fun _ => ⟨rfl, rfl⟩, ⟨by simp, fun i hi => by omega, fun v hv => by cases hv⟩, fun i v hv => by simp at hv⟩, .inr hn⟩
    · exact h.1.elim

theorem excl_ng {s : Seg} (h : s.excl = true) : s ≠ .gone := by rintro rfl; cases h
theorem live_ng {s : Seg} (h : s.live) : s ≠ .gone := by rintro rfl; exact h

theorem leMem_sound {xs ys : List Seg} {w0 w : World} {S : Nat → Prop} (hm : MemOk env xs w0 w S) (hlen : m = ys.length) (h : AllT (leMem ρ m xs 0 ys)) (hinj : injB ρ 0 ys = true) : MemOk (env.cutR ρ m) ys w0 w S := by
  have hent : ∀ (c : Nat) (s : Seg), ys[c]? = some s → s ≠ .gone → SegOk (env.cutR ρ m) w c s ∧
      ((∃ i x, (bdOf ρ c).ix = some i ∧ xs[i]? = some x ∧ (s.excl = true → x.excl = true) ∧ (s.live → x.live) ∧ blk (env.cutR ρ m) c = blk env i) ∨ ∀ b, ¬ blk (env.cutR ρ m) c b) := fun c s e hg =>
    entry_sound hm (c := c) (s := s) (by have := (List.getElem?_eq_some_iff.1 e).1; omega) (by have := leMem_get h c s e; rwa [Nat.zero_add] at this) hg
  refine ⟨?_, ?_, ?_, ?_, hm.os, hm.tape, hm.output, hm.grow, hm.frame⟩
  · intro c s hc
    by_cases hg : s = .gone
    · subst hg; trivial
    · exact (hent c s hc hg).1
  · intro c hc
    simp [Env.cutR, Nat.not_lt.2 (show m ≤ c by omega)]
  · intro c d s t b hc hd hne hx hl hb
    obtain ⟨_, e1⟩ := hent c s hc (excl_ng hx)
    obtain ⟨_, e2⟩ := hent d t hd (live_ng hl)
    rcases e1 with ⟨i, x, i1, i2, i3, i4, i5⟩ | e1
    · rcases e2 with ⟨i', x', j1, j2, j3, j4, j5⟩ | e2
      · have hne' : i ≠ i' := by
          rintro rfl
          rcases Nat.lt_or_gt_of_ne hne with q | q
          · exact injB_sound hinj c d i s t hc hd q (excl_ng hx) (live_ng hl) (.inl hx) (by simpa using i1) (by simpa using j1)
          · exact injB_sound hinj d c i t s hd hc q (live_ng hl) (excl_ng hx) (.inr hx) (by simpa using j1) (by simpa using i1)
        rw [i5] at hb
        rw [j5]
        exact hm.sep i i' x x' b i2 j2 hne' (i3 hx) (j4 hl) hb
      · exact e2 b
    · exact (e1 b hb).elim
  · intro c s b hc hx hb
    obtain ⟨_, e1⟩ := hent c s hc (excl_ng hx)
    rcases e1 with ⟨i, x, i1, i2, i3, i4, i5⟩ | e1
    · rw [i5] at hb
      exact hm.own i x b i2 (i3 hx) hb
    · exact (e1 b hb).elim
end
end E
end Go.Proofs.Ytajdkbgbekdbmaa

/- A symbolic run of Go code: a function's run, seen from its caller. No condition. -/
namespace Go.Proofs.Ytajdkbgbekdbmaa
set_option linter.unusedVariables false
set_option linter.unusedSimpArgs false
namespace E
open Go.RowKit

/-- What a run of a function says of its calls. -/
def FnOk (P : Program) (f : FuncId) (args : List SV) (mem : List Seg) (r : SV) (mem' : List Seg) : Prop :=
  ∀ (env : Env) (w0 w : World) (S : Nat → Prop) (vals : List Value), AllSV env args vals → MemOk env mem w0 w S →
    Calls P f vals.toArray w fun e w' => ∃ v env', e = .returned v ∧ env.le env' ∧ (∀ h, h < mem.length → env' h = env h) ∧ mem.length ≤ mem'.length ∧ r.rel env' v ∧ MemOk env' mem' w0 w' S

/-- A function's run, with its own handles. -/
structure CS where
  args : List SV
  mem : List Seg
  r : SV
  mem' : List Seg

def At.plain : At → Bool
  | .val _ | .bit _ | .any => true
  | _ => false
theorem At.plain_rel {env env' : Env} {a : At} {v : Value} (h : a.plain = true) (k : a.rel env v) : a.rel env' v := by
  cases a <;> first | exact k | cases h
theorem AllRel.plain {env env' : Env} : ∀ {l : List At} {vs : List Value}, l.all At.plain = true → AllRel env l vs → AllRel env' l vs
  | [], [], _, _ => trivial
  | a :: l, v :: vs, h, k => by
    simp only [List.all_cons, Bool.and_eq_true] at h
    exact ⟨At.plain_rel h.1 k.1, AllRel.plain h.2 k.2⟩

/-! handles get other names -/
section
variable (τ : Nat → Option Nat)
def renA0s : List A0 → Option (List A0)
  | [] => some []
  | .val v :: l => (renA0s l).map (.val v :: ·)
  | .ptr h j :: l => match τ h with
    | some h' => (renA0s l).map (.ptr h' j :: ·)
    | none => none
  | .own h :: l => match τ h with
    | some h' => (renA0s l).map (.own h' :: ·)
    | none => none
def renAt : At → At
  | .ptr h j => match τ h with | some h' => .ptr h' j | none => .any
  | .eptr h wd i j => match τ h with | some h' => .eptr h' wd i j | none => .any
  | .own h => match τ h with | some h' => .own h' | none => .any
  | .sub h wd off n => match τ h with | some h' => .sub h' wd off n | none => .any
  | .clo f l => match renA0s τ l with | some l' => .clo f l' | none => .any
  | .val v => .val v
  | .bit b => .bit b
  | .optr h => match τ h with | some h' => .optr h' | none => .any
  | .chn h => match τ h with | some h' => .chn h' | none => .any
  | .root h k nn => match τ h with | some h' => .root h' k nn | none => .any
  | .any => .any
def renAts : List At → List At
  | [] => []
  | a :: l => renAt τ a :: renAts l
def renNV : NV → NV
  | .one a => .one (renAt τ a)
  | .agg l => .agg (renAts τ l)
def renNVs : List NV → List NV
  | [] => []
  | a :: l => renNV τ a :: renNVs l
def renSV : SV → SV
  | .nv x => .nv (renNV τ x)
  | .tup l => .tup (renNVs τ l)
  | .any => .any
def renSeg : Seg → Seg
  | .box t l => .box t (renAts τ l)
  | .robox t l => .robox t (renAts τ l)
  | .ro wd n g => .ro wd n g
  | .row e wd n g => .row e wd n g
  | .chan c b cl => .chan c b cl
  | .abs A => .abs A
  | .roabs A => .roabs A
  | .gone => .gone
end
def plainL : List At → Bool
  | [] => true
  | a :: l => a.plain && plainL l
theorem plainL_all : ∀ {l : List At}, plainL l = true → l.all At.plain = true
  | [], _ => rfl
  | a :: l, h => by
    simp only [plainL, Bool.and_eq_true] at h
    simp only [List.all_cons, Bool.and_eq_true]
    exact ⟨h.1, plainL_all h.2⟩
def plainG (n : Nat) (g : Nat → List At) : Prop := ∀ i, i < n → plainL (g i) = true
def plainSeg : Seg → List Prop
  | .ro _ n g => [plainG n g]
  | .row _ _ n g => [plainG n g]
  | _ => []

theorem Elems.plain {env env' : Env} {wd n : Nat} {g : Nat → List At} {cs : List Value} (h : plainG n g) (k : Elems env wd n g cs) : Elems env' wd n g cs :=
  ⟨k.1, fun i hi => (k.2.1 i hi).plain (plainL_all (h i hi)), k.2.2⟩

section
variable {τ : Nat → Option Nat} {env env' : Env} (hτ : ∀ j p v, τ j = some p → env j = some v → env' p = some v)
include hτ
theorem renA0s_rel : ∀ {l l' : List A0} {vs : List Value}, renA0s τ l = some l' → A0s.rel env l vs → A0s.rel env' l' vs
  | [], l', [], h, _ => by simp only [renA0s, Option.some.injEq] at h; subst h; trivial
  | a :: l, l', v :: vs, h, k => by
    cases a with
    | val u =>
      simp only [renA0s] at h
      rw [Option.map_eq_some_iff] at h; obtain ⟨l2, h1, rfl⟩ := h
      exact ⟨k.1, renA0s_rel h1 k.2⟩
    | ptr c j =>
      simp only [renA0s] at h
      split at h
      · rename_i c' hc
        rw [Option.map_eq_some_iff] at h; obtain ⟨l2, h1, rfl⟩ := h
        obtain ⟨u, b, e1, e2, e3⟩ := k.1
        exact ⟨⟨u, b, hτ _ _ _ hc e1, e2, e3⟩, renA0s_rel h1 k.2⟩
      · cases h
    | own c =>
      simp only [renA0s] at h
      split at h
      · rename_i c' hc
        rw [Option.map_eq_some_iff] at h; obtain ⟨l2, h1, rfl⟩ := h
        exact ⟨⟨hτ _ _ _ hc k.1.1, k.1.2⟩, renA0s_rel h1 k.2⟩
      · cases h
theorem renAt_rel {a : At} {v : Value} (k : a.rel env v) : (renAt τ a).rel env' v := by
  cases a with
  | val u => exact k
  | bit b => exact k
  | any => trivial
  | optr c =>
    simp only [renAt]
    split
    · rename_i c' hc
      rcases k with k | ⟨u, b, e1, e2, e3⟩
      · exact .inl k
      · exact .inr ⟨u, b, hτ _ _ _ hc e1, e2, e3⟩
    · trivial
  | chn c =>
    simp only [renAt]
    split
    · rename_i c' hc
      obtain ⟨b, e1, e2⟩ := k
      exact ⟨b, hτ _ _ _ hc e1, e2⟩
    · trivial
  | root c _ _ =>
    simp only [renAt]
    split
    · rename_i c' hc
      obtain ⟨vs, b, e1, e2⟩ := k
      exact ⟨vs, b, hτ _ _ _ hc e1, e2⟩
    · trivial
  | ptr c j =>
    simp only [renAt]
    split
    · rename_i c' hc
      obtain ⟨u, b, e1, e2, e3⟩ := k
      exact ⟨u, b, hτ _ _ _ hc e1, e2, e3⟩
    · trivial
  | eptr c wd i j =>
    simp only [renAt]
    split
    · rename_i c' hc
      obtain ⟨u, b, e1, e2, e3⟩ := k
      exact ⟨u, b, hτ _ _ _ hc e1, e2, e3⟩
    · trivial
  | own c =>
    simp only [renAt]
    split
    · rename_i c' hc
      exact ⟨hτ _ _ _ hc k.1, k.2⟩
    · trivial
  | sub c wd off n =>
    simp only [renAt]
    split
    · rename_i c' hc
      obtain ⟨ao, len, cap, bo, d, e1, e2⟩ := k
      exact ⟨ao, len, cap, bo, d, hτ _ _ _ hc e1, e2⟩
    · trivial
  | clo f l =>
    simp only [renAt]
    split
    · rename_i l' hl
      obtain ⟨cs, e1, e2⟩ := k
      exact ⟨cs, e1, renA0s_rel hτ hl e2⟩
    · trivial
theorem renAts_rel : ∀ {l : List At} {vs : List Value}, AllRel env l vs → AllRel env' (renAts τ l) vs
  | [], [], _ => trivial
  | a :: l, v :: vs, k => ⟨renAt_rel hτ k.1, renAts_rel k.2⟩
theorem renNV_rel {x : NV} {v : Value} (k : x.rel env v) : (renNV τ x).rel env' v := by
  cases x with
  | one a => exact renAt_rel hτ k
  | agg l => obtain ⟨cs, e, k⟩ := k; exact ⟨cs, e, renAts_rel hτ k⟩
theorem renNVs_rel : ∀ {l : List NV} {vs : List Value}, AllNV env l vs → AllNV env' (renNVs τ l) vs
  | [], [], _ => trivial
  | a :: l, v :: vs, k => ⟨renNV_rel hτ k.1, renNVs_rel k.2⟩
theorem renSV_rel {x : SV} {v : Value} (k : x.rel env v) : (renSV τ x).rel env' v := by
  cases x with
  | nv x => exact renNV_rel hτ k
  | tup l => obtain ⟨cs, e, k⟩ := k; exact ⟨cs, e, renNVs_rel hτ k⟩
  | any => trivial
theorem renSeg_ok {s : Seg} {w : World} {j p : Nat} (hp : AllT (plainSeg s)) (hj : τ j = some p) (k : SegOk env w j s) : SegOk env' w p (renSeg τ s) := by
  cases s with
  | box t l => obtain ⟨b, cs, h1, h2, h3⟩ := k; exact ⟨b, cs, hτ _ _ _ hj h1, h2, renAts_rel hτ h3⟩
  | robox t l => obtain ⟨b, cs, h1, h2, h3⟩ := k; exact ⟨b, cs, hτ _ _ _ hj h1, h2, renAts_rel hτ h3⟩
  | ro wd n g => obtain ⟨ao, cap, cs, h1, h2, h3, h4, h5, h6⟩ := k; exact ⟨ao, cap, cs, hτ _ _ _ hj h1, h2, h3, h4, Elems.plain hp.1 h5, h6⟩
  | row e wd n g => obtain ⟨v, cs, h1, h2, h3⟩ := k; exact ⟨v, cs, hτ _ _ _ hj h1, h2, Elems.plain hp.1 h3⟩
  | chan c b' cl => obtain ⟨b, s, r, h1, h2⟩ := k; exact ⟨b, s, r, hτ _ _ _ hj h1, h2⟩
  | abs A => obtain ⟨vs, h1, h2⟩ := k; exact ⟨vs, hτ _ _ _ hj h1, h2⟩
  | roabs A => obtain ⟨vs, h1, h2⟩ := k; exact ⟨vs, hτ _ _ _ hj h1, h2⟩
  | gone => trivial
end
theorem renSeg_excl {τ : Nat → Option Nat} {s : Seg} : (renSeg τ s).excl = s.excl := by cases s <;> rfl
theorem renSeg_live {τ : Nat → Option Nat} {s : Seg} (h : (renSeg τ s).live) : s.live := by cases s <;> exact h
theorem SegOk.some {env : Env} {w : World} {j : Nat} {s : Seg} (h : SegOk env w j s) (hg : s ≠ .gone) : ∃ v, env j = some v := by
  cases s with
  | box t l => obtain ⟨b, cs, h1, _⟩ := h; exact ⟨_, h1⟩
  | robox t l => obtain ⟨b, cs, h1, _⟩ := h; exact ⟨_, h1⟩
  | ro wd n g => obtain ⟨ao, cap, cs, h1, _⟩ := h; exact ⟨_, h1⟩
  | row e wd n g => obtain ⟨v, cs, h1, _⟩ := h; exact ⟨_, h1⟩
  | chan c b' cl => obtain ⟨b, s, r, h1, _⟩ := h; exact ⟨_, h1⟩
  | abs A => obtain ⟨vs, h1, _⟩ := h; exact ⟨_, h1⟩
  | roabs A => obtain ⟨vs, h1, _⟩ := h; exact ⟨_, h1⟩
  | gone => exact (hg rfl).elim

/-! the call -/
def isGone : Seg → Bool
  | .gone => true
  | _ => false
theorem isGone_eq {s : Seg} (h : isGone s = true) : s = .gone := by cases s <;> first | rfl | cases h
theorem isGone_ne {s : Seg} (h : isGone s = false) : s ≠ .gone := by rintro rfl; cases h
def sameAny : Bd → Bool
  | .same _ => true
  | _ => false
/-- The callee's handles that the caller did not know, from j on. -/
def newsOf (ρ : List (Nat × Bd)) (m : Nat) : Nat → List Seg → List Nat
  | _, [] => []
  | j, s :: l => if isGone s || (decide (j < m) && sameAny (bdOf ρ j)) then newsOf ρ m (j + 1) l else j :: newsOf ρ m (j + 1) l
def posOf (j : Nat) : List Nat → Nat → Option Nat
  | [], _ => none
  | k :: ks, n => if Nat.beq k j then some n else posOf j ks (n + 1)
def tauOf (ρ : List (Nat × Bd)) (m : Nat) (js : List Nat) (nh : Nat) (j : Nat) : Option Nat :=
  if j < m then match bdOf ρ j with
    | .same i => some i
    | _ => posOf j js nh
  else posOf j js nh
/-- What becomes of the caller's handles: the handle, the callee's one, what it has. -/
def setsOf (ρ : List (Nat × Bd)) (τ : Nat → Option Nat) (mem' : List Seg) : Nat → List Seg → List (Nat × Option Nat × Seg)
  | _, [] => []
  | j, s :: l => (if s.excl then match bdOf ρ j with
    | .same i => [(i, some j, renSeg τ (mem'.getD j .gone))]
    | .cut i _ => [(i, none, .gone)]
    | .nil => []
    else []) ++ setsOf ρ τ mem' (j + 1) l
def newSegs (τ : Nat → Option Nat) (mem' : List Seg) : List Nat → Nat → List (Nat × Option Nat × Seg)
  | [], _ => []
  | j :: js, n => (n, some j, renSeg τ (mem'.getD j .gone)) :: newSegs τ mem' js (n + 1)
def putAll (mem : List Seg) : List (Nat × Option Nat × Seg) → List Seg
  | [] => mem
  | (h, _, s) :: l => putAll (mem.set h s) l
def keysOk : List (Nat × Option Nat × Seg) → Bool
  | [] => true
  | (h, _, _) :: l => l.all (fun x => !Nat.beq x.1 h) && keysOk l
def okSeg (mem' : List Seg) : List (Nat × Option Nat × Seg) → Bool
  | [] => true
  | (_, some j, _) :: l => (isGone (mem'.getD j .gone) || (mem'.getD j .gone).excl) && okSeg mem' l
  | (_, none, _) :: l => okSeg mem' l
def plainObl (mem' : List Seg) : List (Nat × Option Nat × Seg) → List Prop
  | [] => []
  | (_, some j, _) :: l => plainSeg (mem'.getD j .gone) ++ plainObl mem' l
  | (_, none, _) :: l => plainObl mem' l
structure Lift where
  r : SV
  sets : List (Nat × Option Nat × Seg)
  js : List Nat
def liftOf (ρ : List (Nat × Bd)) (cs : CS) (nh : Nat) : Lift :=
  let m := cs.mem.length
  let js := newsOf ρ m 0 cs.mem'
  let τ := tauOf ρ m js nh
  ⟨renSV τ cs.r, setsOf ρ τ cs.mem' 0 cs.mem ++ newSegs τ cs.mem' js nh, js⟩
/-- A call: the result, what becomes of the caller's memory, how many handles are new (from nh on), what is to be shown. -/
def callCS (cs : CS) (args : List SV) (mem : List Seg) (nh : Nat) : Option (SV × List (Nat × Option Nat × Seg) × Nat × List Prop) :=
  let m := cs.mem.length
  let ρ := renL 0 args mem cs.args cs.mem
  let L := liftOf ρ cs nh
  if injB ρ 0 cs.mem && keysOk L.sets && okSeg cs.mem' L.sets then
    some (L.r, L.sets, L.js.length, leTm ρ m args cs.args ++ (leMem ρ m mem 0 cs.mem ++ plainObl cs.mem' L.sets))
  else none

theorem putAll_length : ∀ (l : List (Nat × Option Nat × Seg)) (mem : List Seg), (putAll mem l).length = mem.length
  | [], _ => rfl
  | (h, _, s) :: l, mem => by rw [putAll, putAll_length, List.length_set]
theorem putAll_other : ∀ (l : List (Nat × Option Nat × Seg)) (mem : List Seg) (c : Nat), (∀ x ∈ l, x.1 ≠ c) → (putAll mem l)[c]? = mem[c]?
  | [], _, _, _ => rfl
  | (h, o, s) :: l, mem, c, hn => by
    rw [putAll, putAll_other l _ c (fun x hx => hn x (by simp [hx])), List.getElem?_set_ne (hn (h, o, s) (by simp))]
theorem putAll_get : ∀ (l : List (Nat × Option Nat × Seg)) (mem : List Seg), keysOk l = true → ∀ c o s, (c, o, s) ∈ l → c < mem.length → (putAll mem l)[c]? = some s
  | (h, o', s') :: l, mem, hk, c, o, s, hm, hc => by
    simp only [keysOk, Bool.and_eq_true] at hk
    rw [putAll]
    rcases List.mem_cons.1 hm with e | hm
    · obtain ⟨rfl, rfl, rfl⟩ : c = h ∧ o = o' ∧ s = s' := by simpa using e
      rw [putAll_other l _ c (fun x hx e => by
        have := List.all_eq_true.1 hk.1 x hx
        rw [e] at this
        simp [Nat.beq_refl] at this)]
      exact List.getElem?_set_self hc
    · exact putAll_get l _ hk.2 c o s hm (by simpa using hc)
theorem putAll_cases (l : List (Nat × Option Nat × Seg)) (mem : List Seg) (hk : keysOk l = true) {c : Nat} {t : Seg} (h : (putAll mem l)[c]? = some t) : (∃ o, (c, o, t) ∈ l) ∨ ((∀ x ∈ l, x.1 ≠ c) ∧ mem[c]? = some t) := by
  have hc : c < mem.length := by
    have := (List.getElem?_eq_some_iff.1 h).1
    rwa [putAll_length] at this
  by_cases q : ∀ x ∈ l, x.1 ≠ c
  · exact .inr ⟨q, by rw [putAll_other l mem c q] at h; exact h⟩
  · simp only [ne_eq, Classical.not_forall, Classical.not_not] at q
    obtain ⟨⟨c', o, s⟩, hx, e⟩ := q
    simp only at e
    subst e
    rw [putAll_get l mem hk _ o s hx hc] at h
    exact .inl ⟨o, by rw [← Option.some.inj h]; exact hx⟩

theorem posOf_spec {j : Nat} : ∀ {l : List Nat} {n p : Nat}, posOf j l n = some p → n ≤ p ∧ p < n + l.length ∧ l[p - n]? = some j
  | [], n, p, h => by cases h
  | k :: ks, n, p, h => by
    unfold posOf at h
    split at h
    · rename_i e
      have e := Nat.eq_of_beq_eq_true e
      simp only [Option.some.injEq] at h
      subst h; subst e
      exact ⟨Nat.le_refl _, by simp, by simp⟩
    · obtain ⟨h1, h2, h3⟩ := posOf_spec h
      refine ⟨by omega, by simp; omega, ?_⟩
      rw [show p - n = (p - (n + 1)) + 1 by omega]
      simpa using h3
theorem newsOf_nodup {ρ : List (Nat × Bd)} {m : Nat} : ∀ {l : List Seg} {j : Nat}, ∀ k ∈ newsOf ρ m j l, j ≤ k ∧ k < j + l.length ∧ (∃ s, l[k - j]? = some s ∧ s ≠ .gone) ∧ ¬ (k < m ∧ sameAny (bdOf ρ k) = true)
  | [], j, k, h => by cases h
  | s :: l, j, k, h => by
    unfold newsOf at h
    split at h
    · obtain ⟨h1, h2, ⟨s', h3, h4⟩, h5⟩ := newsOf_nodup k h
      refine ⟨by omega, by simp; omega, ⟨s', ?_, h4⟩, h5⟩
      rw [show k - j = (k - (j + 1)) + 1 by omega]
      simpa using h3
    · rename_i hc
      simp only [Bool.or_eq_true, Bool.and_eq_true, decide_eq_true_eq, not_or, not_and, Bool.not_eq_true] at hc
      rcases List.mem_cons.1 h with e | h
      · subst e
        refine ⟨Nat.le_refl _, by simp, ⟨s, by simp, isGone_ne hc.1⟩, fun q => ?_⟩
        have := hc.2 q.1
        rw [q.2] at this; cases this
      · obtain ⟨h1, h2, ⟨s', h3, h4⟩, h5⟩ := newsOf_nodup k h
        refine ⟨by omega, by simp; omega, ⟨s', ?_, h4⟩, h5⟩
        rw [show k - j = (k - (j + 1)) + 1 by omega]
        simpa using h3
theorem posOf_at {ρ : List (Nat × Bd)} {m : Nat} : ∀ {l : List Seg} {j0 n i j : Nat}, (newsOf ρ m j0 l)[i]? = some j → posOf j (newsOf ρ m j0 l) n = some (n + i)
  | [], j0, n, i, j, h => by simp [newsOf] at h
  | s :: l, j0, n, i, j, h => by
    unfold newsOf at h ⊢
    split at h
    · rename_i hc; rw [if_pos hc]; exact posOf_at h
    · rename_i hc
      rw [if_neg hc]
      cases i with
      | zero =>
        simp at h; subst h
        unfold posOf
        rw [if_pos (Nat.beq_refl _)]; rfl
      | succ i =>
        simp at h
        have hmem := newsOf_nodup j (List.mem_of_getElem? h)
        unfold posOf
        rw [if_neg (by intro e; have := Nat.eq_of_beq_eq_true e; omega), posOf_at h]
        congr 1; omega
theorem newSegs_mem {τ : Nat → Option Nat} {mem' : List Seg} : ∀ {js : List Nat} {n : Nat} {c : Nat} {o : Option Nat} {s : Seg}, (c, o, s) ∈ newSegs τ mem' js n → ∃ i j, c = n + i ∧ js[i]? = some j ∧ o = some j ∧ s = renSeg τ (mem'.getD j .gone)
  | [], n, c, o, s, h => by cases h
  | j :: js, n, c, o, s, h => by
    unfold newSegs at h
    rcases List.mem_cons.1 h with e | h
    · obtain ⟨rfl, rfl, rfl⟩ : c = n ∧ o = some j ∧ s = _ := by simpa using e
      exact ⟨0, j, rfl, rfl, rfl, rfl⟩
    · obtain ⟨i, j', e1, e2, e3⟩ := newSegs_mem h
      exact ⟨i + 1, j', by omega, by simpa using e2, e3⟩
theorem newSegs_get {τ : Nat → Option Nat} {mem' : List Seg} : ∀ {js : List Nat} {n i j : Nat}, js[i]? = some j → (n + i, some j, renSeg τ (mem'.getD j .gone)) ∈ newSegs τ mem' js n
  | [], n, i, j, h => by simp at h
  | k :: js, n, i, j, h => by
    unfold newSegs
    cases i with
    | zero => simp at h; subst h; simp
    | succ i =>
      simp at h
      have := newSegs_get (τ := τ) (mem' := mem') (n := n + 1) h
      rw [show n + 1 + i = n + (i + 1) by omega] at this
      exact List.mem_cons_of_mem _ this
theorem setsOf_mem {ρ : List (Nat × Bd)} {τ : Nat → Option Nat} {mem' : List Seg} : ∀ {l : List Seg} {j0 c : Nat} {o : Option Nat} {s : Seg}, (c, o, s) ∈ setsOf ρ τ mem' j0 l →
    ∃ i x, l[i]? = some x ∧ x.excl = true ∧ ((bdOf ρ (j0 + i) = .same c ∧ o = some (j0 + i) ∧ s = renSeg τ (mem'.getD (j0 + i) .gone)) ∨ (∃ k, bdOf ρ (j0 + i) = .cut c k ∧ o = none ∧ s = .gone))
  | [], j0, c, o, s, h => by cases h
  | x :: l, j0, c, o, s, h => by
    unfold setsOf at h
    rcases List.mem_append.1 h with h | h
    · split at h
      · rename_i hx
        split at h
        · rename_i i hb
          simp only [List.mem_singleton, Prod.mk.injEq] at h
          obtain ⟨rfl, rfl, rfl⟩ := h
          exact ⟨0, x, by simp, hx, .inl ⟨hb, rfl, rfl⟩⟩
        · rename_i i k hb
          simp only [List.mem_singleton, Prod.mk.injEq] at h
          obtain ⟨rfl, rfl, rfl⟩ := h
          exact ⟨0, x, by simp, hx, .inr ⟨k, hb, rfl, rfl⟩⟩
        · cases h
      · cases h
    · obtain ⟨i, y, e1, e2, e3⟩ := setsOf_mem h
      refine ⟨i + 1, y, by simpa using e1, e2, ?_⟩
      rw [show j0 + (i + 1) = j0 + 1 + i by omega]
      exact e3
theorem setsOf_has {ρ : List (Nat × Bd)} {τ : Nat → Option Nat} {mem' : List Seg} : ∀ {l : List Seg} {j0 i c : Nat} {x : Seg}, l[i]? = some x → x.excl = true → (bdOf ρ (j0 + i)).ix = some c → ∃ o s, (c, o, s) ∈ setsOf ρ τ mem' j0 l
  | [], j0, i, c, x, h, _, _ => by simp at h
  | y :: l, j0, i, c, x, h, hx, hb => by
    unfold setsOf
    cases i with
    | zero =>
      simp at h; subst h
      rw [if_pos hx]
      rw [Nat.add_zero] at hb
      cases hq : bdOf ρ j0 with
      | nil => rw [hq] at hb; cases hb
      | same i => rw [hq] at hb; obtain rfl := Option.some.inj hb; exact ⟨_, _, List.mem_append.2 (.inl (by simp; exact ⟨rfl, rfl⟩))⟩
      | cut i k => rw [hq] at hb; obtain rfl := Option.some.inj hb; exact ⟨_, _, List.mem_append.2 (.inl (by simp; exact ⟨rfl, rfl⟩))⟩
    | succ i =>
      simp at h
      obtain ⟨o, s, q⟩ := setsOf_has (ρ := ρ) (τ := τ) (mem' := mem') (j0 := j0 + 1) h hx (by rwa [show j0 + 1 + i = j0 + (i + 1) by omega])
      exact ⟨o, s, List.mem_append.2 (.inr q)⟩
theorem okSeg_mem {mem' : List Seg} : ∀ {l : List (Nat × Option Nat × Seg)}, okSeg mem' l = true → ∀ c j s, (c, some j, s) ∈ l → (mem'.getD j .gone).excl = true ∨ mem'.getD j .gone = .gone
  | (h, some j', s') :: l, hk, c, j, s, hm => by
    simp only [okSeg, Bool.and_eq_true, Bool.or_eq_true] at hk
    rcases List.mem_cons.1 hm with e | hm
    · obtain ⟨rfl, rfl, rfl⟩ : c = h ∧ j = j' ∧ s = s' := by simpa using e
      rcases hk.1 with q | q
      · exact .inr (isGone_eq q)
      · exact .inl q
    · exact okSeg_mem hk.2 c j s hm
  | (h, none, s') :: l, hk, c, j, s, hm => by
    rcases List.mem_cons.1 hm with e | hm
    · simp at e
    · exact okSeg_mem (l := l) hk c j s hm
theorem plainObl_mem {mem' : List Seg} : ∀ {l : List (Nat × Option Nat × Seg)}, AllT (plainObl mem' l) → ∀ c j s, (c, some j, s) ∈ l → AllT (plainSeg (mem'.getD j .gone))
  | (h, some j', s') :: l, hk, c, j, s, hm => by
    obtain ⟨h1, h2⟩ := AllT.append.1 hk
    rcases List.mem_cons.1 hm with e | hm
    · obtain ⟨rfl, rfl, rfl⟩ : c = h ∧ j = j' ∧ s = s' := by simpa using e
      exact h1
    · exact plainObl_mem h2 c j s hm
  | (h, none, s') :: l, hk, c, j, s, hm => by
    rcases List.mem_cons.1 hm with e | hm
    · simp at e
    · exact plainObl_mem (l := l) hk c j s hm

section
variable {P : Program} {env : Env} {w0 w : World} {S : Nat → Prop}
/-- The blocks that a callee may write. -/
def ownS (env1 : Env) (mem : List Seg) : Nat → Prop := fun b => ∃ j s, mem[j]? = some s ∧ s.excl = true ∧ blk env1 j b
theorem MemOk.narrow {env1 : Env} {mem : List Seg} (h : MemOk env1 mem w0 w S) : MemOk env1 mem w w (ownS env1 mem) :=
  ⟨h.ok, h.top, h.sep, fun c s b hc hx hb => .inr ⟨c, s, hc, hx, hb⟩, rfl, rfl, rfl, Nat.le_refl _, fun _ _ _ => rfl⟩

theorem lift_sound {f : FuncId} {cs : CS} {ρ : List (Nat × Bd)} {nh : Nat} (hf : FnOk P f cs.args cs.mem cs.r cs.mem') {args : List SV} {mem : List Seg} (h1 : AllT (leTm ρ cs.mem.length args cs.args)) (h2 : AllT (leMem ρ cs.mem.length mem 0 cs.mem))
    (hinj : injB ρ 0 cs.mem = true) (hkeys : keysOk (liftOf ρ cs nh).sets = true) (hok : okSeg cs.mem' (liftOf ρ cs nh).sets = true) (hpl : AllT (plainObl cs.mem' (liftOf ρ cs nh).sets)) {vals : List Value} (hv : AllSV env args vals) (hm : MemOk env mem w0 w S)
    (hfresh : ∀ k, k < (liftOf ρ cs nh).js.length → mem[nh + k]? = some .gone ∧ env (nh + k) = none) :
    Calls P f vals.toArray w fun e w' => ∃ v env', e = .returned v ∧ env.le env' ∧ (∀ h, ¬ (nh ≤ h ∧ h < nh + (liftOf ρ cs nh).js.length) → env' h = env h) ∧ (liftOf ρ cs nh).r.rel env' v ∧ MemOk env' (putAll mem (liftOf ρ cs nh).sets) w0 w' S := by
  have hm1 := leMem_sound hm rfl h2 hinj
  have hv1 := leTm_sound h1 hv
  generalize hM : cs.mem.length = m at *
  generalize hE : env.cutR ρ m = env1 at *
  refine (hf env1 w w (ownS env1 cs.mem) vals hv1 hm1.narrow).mono ?_
  rintro e w' ⟨v, env1', rfl, hle1, hsame1, hlen1, hr, hm'⟩
  generalize hL : liftOf ρ cs nh = L at *
  have hjs : L.js = newsOf ρ m 0 cs.mem' := by rw [← hL, ← hM]; rfl
  generalize hτ : tauOf ρ m L.js nh = τ
  have hLr : L.r = renSV τ cs.r := by rw [← hτ, hjs, ← hL, ← hM]; rfl
  have hLs : L.sets = setsOf ρ τ cs.mem' 0 cs.mem ++ newSegs τ cs.mem' L.js nh := by rw [← hτ, hjs, ← hL, ← hM]; rfl
  rw [hM] at hsame1 hlen1
  let env2 : Env := fun h => if nh ≤ h ∧ h < nh + L.js.length then env1' (L.js.getD (h - nh) 0) else env h
  have hin : ∀ {i j : Nat}, L.js[i]? = some j → env2 (nh + i) = env1' j := by
    intro i j hi
    have hlt := (List.getElem?_eq_some_iff.1 hi).1
    show (if nh ≤ nh + i ∧ nh + i < nh + L.js.length then env1' (L.js.getD (nh + i - nh) 0) else env (nh + i)) = _
    rw [if_pos ⟨by omega, by omega⟩, Nat.add_sub_cancel_left, List.getD_eq_getElem?_getD, hi]; rfl
  have hout : ∀ h, ¬ (nh ≤ h ∧ h < nh + L.js.length) → env2 h = env h := fun h hh => if_neg hh
  have hle2 : env.le env2 := by
    intro h u hu
    by_cases q : nh ≤ h ∧ h < nh + L.js.length
    · have := (hfresh (h - nh) (by omega)).2
      rw [show nh + (h - nh) = h by omega, hu] at this
      cases this
    · rw [hout h q]; exact hu
  have hbound : ∀ {j i : Nat}, j < m → bdOf ρ j = .same i → env1 j = env i := fun {j i} hj hb => by rw [← hE]; exact Env.cutR_lt hb hj
  have hτrel : ∀ j p u, τ j = some p → env1' j = some u → env2 p = some u := by
    intro j p u hp hu
    rw [← hτ] at hp
    unfold tauOf at hp
    have hpos : posOf j L.js nh = some p → env2 p = some u := fun hp => by
      obtain ⟨q1, q2, q3⟩ := posOf_spec hp
      have := hin q3
      rw [show nh + (p - nh) = p by omega] at this
      rw [this]; exact hu
    split at hp
    · rename_i hj
      split at hp
      · rename_i i hb
        obtain rfl := Option.some.inj hp
        have : env i = some u := by rw [← hbound hj hb, ← hsame1 j hj]; exact hu
        exact hle2 _ _ this
      · exact hpos hp
    · exact hpos hp
  -- each entry
  have hent : ∀ c o t, (c, o, t) ∈ L.sets → (o = none ∧ t = .gone) ∨ ∃ j, o = some j ∧ t = renSeg τ (cs.mem'.getD j .gone) ∧ τ j = some c := by
    intro c o t hx
    rw [hLs] at hx
    rcases List.mem_append.1 hx with hx | hx
    · obtain ⟨i, x, e1, e2, e3⟩ := setsOf_mem hx
      rw [Nat.zero_add] at e3
      have hi : i < m := by rw [← hM]; exact (List.getElem?_eq_some_iff.1 e1).1
      rcases e3 with ⟨q1, q2, q3⟩ | ⟨k, q1, q2, q3⟩
      · refine .inr ⟨i, q2, q3, ?_⟩
        rw [← hτ]
        unfold tauOf
        rw [if_pos hi, q1]
      · exact .inl ⟨q2, q3⟩
    · obtain ⟨i, j, rfl, e2, e3, e4⟩ := newSegs_mem hx
      refine .inr ⟨j, e3, e4, ?_⟩
      have hpos : posOf j L.js nh = some (nh + i) := by
        rw [hjs] at e2 ⊢
        exact posOf_at e2
      have hn : ¬ (j < m ∧ sameAny (bdOf ρ j) = true) := (newsOf_nodup j (by rw [← hjs]; exact List.mem_of_getElem? e2)).2.2.2
      rw [← hτ]
      unfold tauOf
      split
      · rename_i hj
        split
        · rename_i i' hb
          exact (hn ⟨hj, by rw [hb]; rfl⟩).elim
        · exact hpos
      · exact hpos
  have hsegs : ∀ (c : Nat) (o : Option Nat) (t : Seg), (c, o, t) ∈ L.sets → t ≠ .gone → ∃ j s, cs.mem'[j]? = some s ∧ t = renSeg τ s ∧ τ j = some c ∧ s.excl = true ∧ blk env2 c = blk env1' j ∧ SegOk env2 w' c t := by
    intro c o t hx hg
    rcases hent c o t hx with ⟨_, q⟩ | ⟨j, rfl, rfl, q3⟩
    · exact (hg q).elim
    · cases hs : cs.mem'[j]? with
      | none => rw [List.getD_eq_getElem?_getD, hs] at hg; exact (hg rfl).elim
      | some s =>
        have hgd : cs.mem'.getD j .gone = s := by rw [List.getD_eq_getElem?_getD, hs]; rfl
        have hsg : s ≠ .gone := by rintro rfl; rw [hgd] at hg; exact hg rfl
        have hx2 : s.excl = true := by
          rcases okSeg_mem hok c j _ hx with q | q
          · rw [hgd] at q; exact q
          · rw [hgd] at q; exact (hsg q).elim
        have hk := hm'.ok j s hs
        obtain ⟨u, hu⟩ := hk.some hsg
        refine ⟨j, s, hs, by rw [hgd], q3, hx2, ?_, ?_⟩
        · exact blk_congr (by rw [hu, hτrel j c u q3 hu])
        · have hp := plainObl_mem hpl c j _ hx
          rw [hgd] at hp ⊢
          exact renSeg_ok hτrel hp q3 hk
  -- what is not touched
  have hS1 : ∀ b, ownS env1 cs.mem b → ∃ i x o t, mem[i]? = some x ∧ x.excl = true ∧ blk env i b ∧ (i, o, t) ∈ L.sets := by
    rintro b ⟨j, s, hj, hx, hb⟩
    have hjm : j < m := by rw [← hM]; exact (List.getElem?_eq_some_iff.1 hj).1
    obtain ⟨_, e1⟩ := entry_sound hm (c := j) (s := s) hjm (by have := leMem_get h2 j s hj; rwa [Nat.zero_add] at this) (excl_ng hx)
    rw [hE] at e1
    rcases e1 with ⟨i, x, i1, i2, i3, i4, i5⟩ | e1
    · obtain ⟨o, t, q⟩ := setsOf_has (ρ := ρ) (τ := τ) (mem' := cs.mem') (j0 := 0) hj hx (by rw [Nat.zero_add]; exact i1)
      exact ⟨i, x, o, t, i2, i3 hx, by rw [← i5]; exact hb, by rw [hLs]; exact List.mem_append.2 (.inl q)⟩
    · exact (e1 b hb).elim
  have hold : ∀ (c : Nat) (t : Seg) (b : Nat), mem[c]? = some t → (∀ x ∈ L.sets, x.1 ≠ c) → t.live → blk env c b → ¬ ownS env1 cs.mem b := by
    intro c t b hc hn hl hb hs
    obtain ⟨i, x, o, t', i1, i2, i3, i4⟩ := hS1 b hs
    have hne : i ≠ c := hn _ i4
    exact hm.sep i c x t b i1 hc hne i2 hl i3 hb
  have hheap : ∀ b, b < w.heap.size → ¬ ownS env1 cs.mem b → w'.heap[b]? = w.heap[b]? := fun b hb hs => hm'.frame b hb hs
  have hnew : ∀ c, (∀ x ∈ L.sets, x.1 ≠ c) → ∀ t, mem[c]? = some t → t ≠ .gone → env2 c = env c := by
    intro c hn t hc hg
    refine hout c (fun q => ?_)
    have := (hfresh (c - nh) (by omega)).1
    rw [show nh + (c - nh) = c by omega, hc] at this
    exact hg (Option.some.inj this)
  refine ⟨v, env2, rfl, hle2, hout, ?_, ?_⟩
  · rw [hLr]; exact renSV_rel hτrel hr
  refine ⟨?_, ?_, ?_, ?_, hm'.os.trans hm.os, hm'.tape.trans hm.tape, hm'.output.trans hm.output, Nat.le_trans hm.grow hm'.grow, ?_⟩
  · intro c t hc
    by_cases hg : t = .gone
    · subst hg; trivial
    rcases putAll_cases L.sets mem hkeys hc with ⟨o, hx⟩ | ⟨hn, hc⟩
    · obtain ⟨j, s, _, _, _, _, _, q⟩ := hsegs c o t hx hg
      exact q
    · have hk := (hm.ok c t hc).le hle2
      have e := hnew c hn t hc hg
      refine hk.heap (fun b hb hl hlt => hheap b hlt ?_)
      exact hold c t b hc hn hl (by rw [← blk_congr e]; exact hb)
  · intro c hc
    rw [putAll_length] at hc
    rw [hout c (fun q => by
      have := (hfresh (c - nh) (by omega)).1
      rw [show nh + (c - nh) = c by omega, List.getElem?_eq_none hc] at this
      cases this)]
    exact hm.top c hc
  · intro c d s t b hc hd hne hx hl hb
    rcases putAll_cases L.sets mem hkeys hc with ⟨o, hxs⟩ | ⟨hn, hc⟩ <;> rcases putAll_cases L.sets mem hkeys hd with ⟨o', hxt⟩ | ⟨hn', hd⟩
    · obtain ⟨j, s', e1, rfl, e3, e4, e5, _⟩ := hsegs c o s hxs (excl_ng hx)
      obtain ⟨j', t', d1, rfl, d3, d4, d5, _⟩ := hsegs d o' t hxt (live_ng hl)
      have hj : j ≠ j' := by rintro rfl; rw [e3] at d3; exact hne (Option.some.inj d3)
      rw [e5] at hb
      rw [d5]
      exact hm'.sep j j' s' t' b e1 d1 hj e4 (renSeg_live hl) hb
    · obtain ⟨j, s', e1, rfl, e3, e4, e5, _⟩ := hsegs c o s hxs (excl_ng hx)
      rw [e5] at hb
      have e := hnew d hn' t hd (live_ng hl)
      intro hbd
      have hbd' : blk env d b := by rw [← blk_congr e]; exact hbd
      rcases hm'.own j s' b e1 e4 hb with q | q
      · have := (hm.ok d t hd).lt hl hbd'
        omega
      · exact hold d t b hd hn' hl hbd' q
    · obtain ⟨j', t', d1, rfl, d3, d4, d5, _⟩ := hsegs d o' t hxt (live_ng hl)
      have e := hnew c hn s hc (excl_ng hx)
      have hb' : blk env c b := by rw [← blk_congr e]; exact hb
      rw [d5]
      intro hbd
      rcases hm'.own j' t' b d1 d4 hbd with q | q
      · have := (hm.ok c s hc).lt (excl_live hx) hb'
        omega
      · exact hold c s b hc hn (excl_live hx) hb' q
    · have e := hnew c hn s hc (excl_ng hx)
      have e' := hnew d hn' t hd (live_ng hl)
      have hb' : blk env c b := by rw [← blk_congr e]; exact hb
      have := hm.sep c d s t b hc hd hne hx hl hb'
      rw [blk_congr e']; exact this
  · intro c s b hc hx hb
    rcases putAll_cases L.sets mem hkeys hc with ⟨o, hxs⟩ | ⟨hn, hc⟩
    · obtain ⟨j, s', e1, rfl, e3, e4, e5, _⟩ := hsegs c o s hxs (excl_ng hx)
      rw [e5] at hb
      rcases hm'.own j s' b e1 e4 hb with q | q
      · exact .inl (Nat.le_trans hm.grow q)
      · obtain ⟨i, x, o, t', i1, i2, i3, i4⟩ := hS1 b q
        exact hm.own i x b i1 i2 i3
    · have e := hnew c hn s hc (excl_ng hx)
      exact hm.own c s b hc hx (by rw [← blk_congr e]; exact hb)
  · intro b hb hS
    rw [hheap b (Nat.lt_of_lt_of_le hb hm.grow) (fun q => by
      obtain ⟨i, x, o, t', i1, i2, i3, i4⟩ := hS1 b q
      rcases hm.own i x b i1 i2 i3 with k | k
      · omega
      · exact hS k)]
    exact hm.frame b hb hS
end
end E
end Go.Proofs.Ytajdkbgbekdbmaa

/- A symbolic run of Go code: rows of operations, code, calls. No condition. -/
namespace Go.Proofs.Ytajdkbgbekdbmaa
set_option linter.unusedVariables false
set_option linter.unusedSimpArgs false
namespace E
open Go.RowKit

structure St where
  tm : List SV
  mem : List Seg

/-- The world in which a function began, what it may write of it, and its first handles. -/
structure Cx where
  w0 : World
  S : Nat → Prop
  m0 : Nat
  fix : Env

/-- What a state says of a frame and of a world. -/
structure Ok (cx : Cx) (env : Env) (st : St) (a : Act) (w : World) : Prop where
  defers : a.defers = []
  tm : AllSV env st.tm a.tmps.toList
  mem : MemOk env st.mem cx.w0 w cx.S
  long : cx.m0 ≤ st.mem.length
  fix : ∀ h, h < cx.m0 → env h = none ∨ env h = cx.fix h

/-! specifications of functions -/
abbrev Spec := List SV → List Seg → Option (SV × List Seg × List Prop)
def SpecOk (P : Program) (f : FuncId) (sp : Spec) : Prop :=
  ∀ args mem r mem' obl, sp args mem = some (r, mem', obl) → AllT obl → ∀ (env : Env) (w0 w : World) (S : Nat → Prop) (vals : List Value), AllSV env args vals → MemOk env mem w0 w S →
    Calls P f vals.toArray w fun e w' => ∃ v env', e = .returned v ∧ env.le env' ∧ (∀ h, h < mem.length → env' h = env h) ∧ mem.length ≤ mem'.length ∧ r.rel env' v ∧ MemOk env' mem' w0 w' S
/-- A function that reads at most. -/
def RdOk (P : Program) (f : FuncId) (sp : List SV → List Seg → Option (SV × List Prop)) : Prop :=
  (∀ args mem mem' x, MemLe mem mem' → sp args mem = some x → sp args mem' = some x) ∧
  ∀ args mem r obl, sp args mem = some (r, obl) → AllT obl → ∀ (env : Env) (w0 w : World) (S : Nat → Prop) (vals : List Value), AllSV env args vals → MemOk env mem w0 w S →
    Calls P f vals.toArray w fun e w' => ∃ v, e = .returned v ∧ r.rel env v ∧ Ext w w'
inductive Sp where
  | rd (f : List SV → List Seg → Option (SV × List Prop))
  | wr (f : Spec)
  | lift (g : List SV → List Seg → Option (CS × List Prop))
def SpOk (P : Program) (f : FuncId) : Sp → Prop
  | .rd g => RdOk P f g
  | .wr g => SpecOk P f g
  | .lift g => ∀ args mem cs obl, g args mem = some (cs, obl) → AllT obl → FnOk P f cs.args cs.mem cs.r cs.mem'
def Sp.run : Sp → Spec
  | .rd g => fun args mem => match g args mem with
    | some (r, obl) => some (r, mem, obl)
    | none => none
  | .wr g => g
  | .lift g => fun args mem => match g args mem with
    | some (cs, obl0) => match callCS cs args mem mem.length with
      | some (r, sets, k, obl) => some (r, putAll (mem ++ List.replicate k .gone) sets, obl0 ++ obl)
      | none => none
    | none => none
theorem MemOk.pads {env : Env} {mem : List Seg} {w0 w : World} {S : Nat → Prop} (h : MemOk env mem w0 w S) : ∀ k, MemOk env (mem ++ List.replicate k .gone) w0 w S
  | 0 => by simpa using h
  | k + 1 => by
    rw [List.replicate_succ']
    rw [← List.append_assoc]
    exact (h.pads k).pad
theorem callCS_sound {P : Program} {f : FuncId} {cs : CS} (hf : FnOk P f cs.args cs.mem cs.r cs.mem') {args : List SV} {memM mem : List Seg} {nh k : Nat} {r : SV} {sets : List (Nat × Option Nat × Seg)} {obl : List Prop} (h : callCS cs args memM nh = some (r, sets, k, obl)) (ho : AllT obl)
    (hle : ∀ ys ρ m, AllT (leMem ρ m memM 0 ys) → AllT (leMem ρ m mem 0 ys)) {env : Env} {w0 w : World} {S : Nat → Prop} {vals : List Value} (hv : AllSV env args vals) (hm : MemOk env mem w0 w S) (hfresh : ∀ i, i < k → mem[nh + i]? = some .gone ∧ env (nh + i) = none) :
    Calls P f vals.toArray w fun e w' => ∃ v env', e = .returned v ∧ env.le env' ∧ (∀ h, ¬ (nh ≤ h ∧ h < nh + k) → env' h = env h) ∧ r.rel env' v ∧ MemOk env' (putAll mem sets) w0 w' S := by
  unfold callCS at h
  simp only at h
  split at h
  · rename_i hc
    simp only [Bool.and_eq_true] at hc
    simp only [Option.some.injEq, Prod.mk.injEq] at h
    obtain ⟨rfl, rfl, rfl, rfl⟩ := h
    obtain ⟨o1, o2⟩ := AllT.append.1 ho
    obtain ⟨o2, o3⟩ := AllT.append.1 o2
    exact lift_sound hf o1 (hle _ _ _ o2) hc.1.1 hc.1.2 hc.2 o3 hv hm hfresh
  · cases h
theorem leMem_pad {xs ys : List Seg} {ρ : List (Nat × Bd)} {m j n : Nat} (h : AllT (leMem ρ m xs j ys)) : AllT (leMem ρ m (xs ++ List.replicate n .gone) j ys) :=
  leMem_mono (fun h s e => .inr (by rw [List.getElem?_append_left (List.getElem?_eq_some_iff.1 e).1]; exact e)) h
theorem SpOk.spec {P : Program} {f : FuncId} {sp : Sp} (h : SpOk P f sp) : SpecOk P f sp.run := by
  cases sp with
  | wr g => exact h
  | lift g =>
    intro args mem r mem' obl hs ho env w0 w S vals hv hm
    simp only [Sp.run] at hs
    split at hs
    · rename_i cs obl0 hg
      split at hs
      · rename_i r' sets k obl1 hc
        simp only [Option.some.injEq, Prod.mk.injEq] at hs
        obtain ⟨rfl, rfl, rfl⟩ := hs
        obtain ⟨o0, o1⟩ := AllT.append.1 ho
        refine (callCS_sound (h _ _ _ _ hg o0) hc o1 (fun ys ρ m q => leMem_pad (n := k) q) hv (hm.pads k) (fun i hi => ⟨?_, hm.top _ (by omega)⟩)).mono ?_
        · rw [List.getElem?_append_right (by omega), List.getElem?_replicate, if_pos (by omega)]
        · rintro e w' ⟨v, env', rfl, h1, h2, h3, h4⟩
          exact ⟨v, env', rfl, h1, fun c hc => h2 c (by omega), by rw [putAll_length]; simp, h3, h4⟩
      · cases hs
    · cases hs
  | rd g =>
    intro args mem r mem' obl hs ho env w0 w S vals hv hm
    simp only [Sp.run] at hs
    split at hs
    · rename_i r' obl' hg
      simp only [Option.some.injEq, Prod.mk.injEq] at hs
      obtain ⟨rfl, rfl, rfl⟩ := hs
      refine (h.2 _ _ _ _ hg ho env w0 w S vals hv hm).mono ?_
      rintro e w' ⟨v, rfl, h4, h5⟩
      exact ⟨v, env, rfl, Env.le_refl _, fun _ _ => rfl, Nat.le_refl _, h4, hm.trans h5⟩
    · cases hs
def EnterOk (P : Program) (f : FuncId) : Prop := ∃ fn, P.funcs[f]? = some fn ∧ (fn.name == "runtime.NumGoroutine") = false ∧ fn.body.isNone = false
/-- A function that the machine stands in for, and that reads no memory. -/
def ExtOk (P : Program) (f : FuncId) (sp : Sp) : Prop := ∃ g : List SV → Option (SV × List Prop), sp = .rd (fun args _ => g args) ∧
  ∀ args r obl, g args = some (r, obl) → AllT obl → ∀ (env : Env) (vals : List Value), AllSV env args vals → ∀ w, ∃ v, (callFunc f vals.toArray).run P w = .ok (.value v) w ∧ r.rel env v
def CtxOk (P : Program) (Γ : List (FuncId × Sp)) : Prop := ∀ f sp, Γ.lookup f = some sp → (EnterOk P f ∧ SpOk P f sp) ∨ ExtOk P f sp

/-! tests -/
def decide? (tm : List SV) (orc : List Bool) : Operand → Option (Bool × List SV × List Prop × List Bool)
  | .tmp t => match tm.getD t .any with
    | .nv (.one (.bit b)) => some (b, tm, [], orc)
    | .nv (.one (.val (.bool b))) => match orc with
      | c :: orc => some (c, tm.set t (.nv (.one (.bit c))), [b = c], orc)
      | [] => none
    | _ => none
  | .const (.bool b) => some (b, tm, [], orc)
  | _ => none
theorem getD_tmps {env : Env} {tm : List SV} {a : Act} (h : AllSV env tm a.tmps.toList) (t : Nat) : (tm.getD t .any).rel env (a.tmps.getD t undef) := get_rel h (.tmp t)
theorem decide?_sound {env : Env} {tm tm' : List SV} {orc orc' : List Bool} {x : Operand} {c : Bool} {obl : List Prop} {a : Act} (h : decide? tm orc x = some (c, tm', obl, orc')) (ho : AllT obl) (ht : AllSV env tm a.tmps.toList) :
    a.eval x = .bool c ∧ AllSV env tm' a.tmps.toList := by
  unfold decide? at h
  split at h
  · rename_i t
    split at h
    · rename_i b hb
      simp only [Option.some.injEq, Prod.mk.injEq] at h
      obtain ⟨rfl, rfl, rfl, rfl⟩ := h
      have := getD_tmps ht t
      rw [hb] at this
      exact ⟨this, ht⟩
    · rename_i b hb
      split at h
      · rename_i c' orc'' 
        simp only [Option.some.injEq, Prod.mk.injEq] at h
        obtain ⟨rfl, rfl, rfl, rfl⟩ := h
        simp only [AllT, and_true] at ho
        subst ho
        have hv := getD_tmps ht t
        rw [hb] at hv
        have hv' : a.tmps.getD t undef = .bool b := hv
        refine ⟨hv', ?_⟩
        have hlt : t < a.tmps.size := by
          rcases Nat.lt_or_ge t a.tmps.size with k | k
          · exact k
          · rw [Array.getD_eq_getD_getElem?, Array.getElem?_eq_none k] at hv'
            cases hv'
        have hself : a.tmps.toList.set t (.bool b) = a.tmps.toList := by
          have : a.tmps.toList[t]'(by simpa using hlt) = .bool b := by
            rw [Array.getD_eq_getD_getElem?, Array.getElem?_eq_getElem hlt] at hv'
            exact hv'
          rw [← this, List.set_getElem_self]
        have := ht.set t (a := .nv (.one (.bit b))) (v := .bool b) rfl
        rwa [hself] at this
      · cases h
    · cases h
  · simp only [Option.some.injEq, Prod.mk.injEq] at h
    obtain ⟨rfl, rfl, rfl, rfl⟩ := h
    exact ⟨rfl, ht⟩
  · cases h

def norm : SV → SV
  | .nv (.one (.bit b)) => .nv (.one (.val (.bool b)))
  | x => x
theorem norm_rel {env : Env} {x : SV} {v : Value} (h : x.rel env v) : (norm x).rel env v := by
  unfold norm; split <;> exact h
theorem norms_rel {env : Env} {ρ : Operand → Value} {tm : List SV} : ∀ {l : List Operand}, (∀ x, (get tm x).rel env (ρ x)) → AllSV env (l.map fun x => norm (get tm x)) (l.map ρ)
  | [], _ => trivial
  | x :: l, h => ⟨norm_rel (h x), norms_rel h⟩
theorem gets_rel {env : Env} {ρ : Operand → Value} {tm : List SV} : ∀ {l : List Operand}, (∀ x, (get tm x).rel env (ρ x)) → AllSV env (l.map (get tm)) (l.map ρ)
  | [], _ => trivial
  | x :: l, h => ⟨h x, gets_rel h⟩

def A0.toSV : A0 → SV
  | .val v => .nv (.one (.val v))
  | .ptr h j => .nv (.one (.ptr h j))
  | .own h => .nv (.one (.own h))
/-- Which function is called, with what behind its arguments. -/
def calleeOf (tm : List SV) : Operand → Option (FuncId × List SV)
  | .func f => some (f, [])
  | .tmp t => match tm.getD t .any with
    | .nv (.one (.clo f l)) => some (f, l.map A0.toSV)
    | .nv (.one (.val (.func (.func f) a b))) => if a.toList.isEmpty && b.toList.isEmpty then some (f, []) else none
    | _ => none
  | _ => none
theorem toSV_rel {env : Env} : ∀ {l : List A0} {vs : List Value}, A0s.rel env l vs → AllSV env (l.map A0.toSV) vs
  | [], [], _ => trivial
  | a :: l, v :: vs, k => ⟨by cases a <;> exact k.1, toSV_rel k.2⟩
/-- What a called value is. -/
def CalleeRel (env : Env) (f : FuncId) (caps : List SV) (x : Value) : Prop := ∃ cs : Array Value, x = .func (.func f) #[] cs ∧ AllSV env caps cs.toList
theorem calleeOf_rel {env : Env} {tm : List SV} {ρ : Operand → Value} {x : Operand} {f : FuncId} {caps : List SV} (h : calleeOf tm x = some (f, caps)) (hx : (get tm x).rel env (ρ x)) : CalleeRel env f caps (ρ x) := by
  unfold calleeOf at h
  split at h
  · simp only [Option.some.injEq, Prod.mk.injEq] at h
    obtain ⟨rfl, rfl⟩ := h
    exact ⟨#[], hx, trivial⟩
  · rename_i t
    have hx' : (tm.getD t .any).rel env (ρ (.tmp t)) := hx
    split at h
    · rename_i f' l hl
      simp only [Option.some.injEq, Prod.mk.injEq] at h
      obtain ⟨rfl, rfl⟩ := h
      rw [hl] at hx'
      obtain ⟨cs, e, k⟩ := hx'
      exact ⟨cs, e, toSV_rel k⟩
    · rename_i f' a b hl
      split at h
      · rename_i hc
        simp only [Option.some.injEq, Prod.mk.injEq] at h
        obtain ⟨rfl, rfl⟩ := h
        rw [hl] at hx'
        simp only [Bool.and_eq_true] at hc
        have ha : a = #[] := by apply Array.ext'; simpa using hc.1
        have hb : b = #[] := by apply Array.ext'; simpa using hc.2
        subst ha; subst hb
        exact ⟨#[], hx', trivial⟩
      · cases h
    · cases h
  · cases h
theorem resolve_run {P : Program} {env : Env} {f : FuncId} {caps : List SV} {ρ : Operand → Value} {x : Operand} {args : Array Operand} {ts : Array TypeId} {dst : Option Tmp} {type : TypeId} {pos : String} {after : Array Edge} {guard : Option (Nat × Bool)} (h : CalleeRel env f caps (ρ x)) :
    ∃ cs : List Value, AllSV env caps cs ∧ ∀ w, (execOp ρ ⟨dst, .call { callee := .value x, args := args, argTypes := ts }, type, pos, after, guard⟩).run P w = (callFunc f (args.toList.map ρ ++ cs).toArray).run P w := by
  obtain ⟨cs, e, k⟩ := h
  refine ⟨cs.toList, k, fun w => ?_⟩
  have e2 : (#[] ++ args.map ρ ++ cs) = (args.toList.map ρ ++ cs.toList).toArray := by
    apply Array.ext'; simp
  simp only [execOp, resolve, Sem.run_bind, e, Deferred.ofValue, Sem.run_pure, Result.andThen_ok, invoke, e2]

structure Res where
  v : SV
  st : St
  obl : List Prop
  orc : List Bool

/-- One operation that runs. -/
def stepOp (P : Program) (Γ : List (FuncId × Sp)) (op : Op) (st : St) (orc : List Bool) : Option Res :=
  match op with
  | .pick c x y => match decide? st.tm orc c with
    | some (b, tm, obl, orc) => match get tm (if b then x else y) with
      | .nv r => some ⟨.nv r, ⟨tm, st.mem⟩, obl, orc⟩
      | _ => none
    | none => none
  | .call { callee := .value x, args, argTypes := _ } => match calleeOf st.tm x with
    | some (f, caps) => match Γ.lookup f with
      | some sp => match sp.run ((args.toList.map fun x => norm (get st.tm x)) ++ caps) st.mem with
        | some (r, mem, obl) => some ⟨r, ⟨st.tm, mem⟩, obl, orc⟩
        | none => none
      | none => none
    | none => none
  | op => match evalCore P op (op.operands.toList.map (get st.tm)) (st.mem ++ [.gone]) st.mem.length with
    | some (r, eff, obl) => some ⟨r, ⟨st.tm, if eff.makes then eff.apply st.mem.length (st.mem ++ [.gone]) else eff.apply st.mem.length st.mem⟩, obl, orc⟩
    | none => none

def put (tm : List SV) (d : Option Tmp) (x : SV) : List SV := match d with | some d => tm.set d x | none => tm
theorem put_rel {env : Env} {tm : List SV} {a : Act} {x : SV} {v : Value} (h : AllSV env tm a.tmps.toList) (hx : x.rel env v) (d : Option Tmp) : AllSV env (put tm d x) (a.put d v).tmps.toList := by
  cases d with
  | none => exact h
  | some d =>
    show AllSV env (tm.set d x) (a.tmps.setIfInBounds d v).toList
    rw [Array.toList_setIfInBounds]
    exact h.set d hx

def isUndef : SV → Bool
  | .tup [] => true
  | _ => false
theorem isUndef_rel {env : Env} {x : SV} {v : Value} (h : isUndef x = true) (k : x.rel env v) : v = undef := by
  unfold isUndef at h
  split at h
  · obtain ⟨vs, rfl, k⟩ := k
    have : vs = #[] := by
      cases hl : vs.toList with
      | nil => apply Array.ext'; rw [hl]
      | cons a l => rw [hl] at k; exact k.elim
    subst this; rfl
  · cases h
theorem undef_rel (env : Env) : (SV.tup []).rel env undef := ⟨#[], rfl, trivial⟩

def runOps (P : Program) (Γ : List (FuncId × Sp)) (ops : Array Oper) : List Oper → St → List Bool → Option (St × List Prop × List Bool)
  | [], st, orc => some (st, [], orc)
  | o :: rest, st, orc =>
    match o.guard with
    | none => match stepOp P Γ o.op st orc with
      | some r => match runOps P Γ ops rest ⟨put r.st.tm o.dst r.v, r.st.mem⟩ r.orc with
        | some (st, obl, orc) => some (st, r.obl ++ obl, orc)
        | none => none
      | none => none
    | some (j, want) => match (ops[j]?).bind (·.dst) with
      | some d => if isUndef (st.tm.getD d .any) then match runOps P Γ ops rest ⟨put st.tm o.dst (.tup []), st.mem⟩ orc with
          | some (st, obl, orc) => some (st, obl, orc)
          | none => none
        else match decide? st.tm orc (.tmp d) with
        | some (c, tm, obl0, orc) =>
          if c == want then match stepOp P Γ o.op ⟨tm, st.mem⟩ orc with
            | some r => match runOps P Γ ops rest ⟨put r.st.tm o.dst r.v, r.st.mem⟩ r.orc with
              | some (st, obl, orc) => some (st, obl0 ++ (r.obl ++ obl), orc)
              | none => none
            | none => none
          else match runOps P Γ ops rest ⟨put tm o.dst (.tup []), st.mem⟩ orc with
            | some (st, obl, orc) => some (st, obl0 ++ obl, orc)
            | none => none
        | none => none
      | none => none

section
variable {P : Program} {Γ : List (FuncId × Sp)} {env : Env} {w0 w : World} {S : Nat → Prop} {cx : Cx}

theorem wp_of_yield {o : Oper} {a : Act} {K : Act → World → Prop} {Q : Exit → Act → World → Prop} {u : Value} {w' : World} (h : Yield P a.eval o w u w') (k : K (a.put o.dst u) w') : o.wp P a w K Q := by
  unfold Oper.wp
  rcases h with h | ⟨h, rfl⟩
  · rw [h]; exact k
  · rw [h]; exact k

theorem MemOk.unpad {mem : List Seg} (h : MemOk env (mem ++ [.gone]) w0 w S) (hn : env mem.length = none) : MemOk env mem w0 w S := by
  have get : ∀ (m : Nat) (t : Seg), mem[m]? = some t → (mem ++ [Seg.gone])[m]? = some t := fun m t hm => by
    rw [List.getElem?_append_left (List.getElem?_eq_some_iff.1 hm).1]; exact hm
  refine ⟨fun m t hm => h.ok m t (get m t hm), fun m hm => ?_, fun m k s t b hm hk => h.sep m k s t b (get m s hm) (get k t hk), fun m s b hm => h.own m s b (get m s hm), h.os, h.tape, h.output, h.grow, h.frame⟩
  by_cases e : m = mem.length
  · subst e; exact hn
  · exact h.top m (by simp; omega)

theorem callFunc_run {f : FuncId} (he : EnterOk P f) (args : Array Value) (w : World) : (callFunc f args).run P w = .ok (.enter f args) w := by
  obtain ⟨fn, h1, h2, h3⟩ := he
  unfold callFunc
  simp only [Sem.run_bind, run_program, Result.andThen_ok, h1, h2, h3, Bool.false_eq_true, if_false, Sem.run_pure]

theorem stepOp_sound (hΓ : CtxOk P Γ) {o : Oper} {st : St} {orc : List Bool} {r : Res} {a : Act} (h : stepOp P Γ o.op st orc = some r) (ho : AllT r.obl) (hk : Ok cx env st a w)
    {K : Act → World → Prop} {Q : Exit → Act → World → Prop} (hK : ∀ env' a' w', env.le env' → Ok cx env' ⟨put r.st.tm o.dst r.v, r.st.mem⟩ a' w' → K a' w') : o.wp P a w K Q := by
  obtain ⟨dst, op, type, pos, after, guard⟩ := o
  simp only at h hK
  unfold stepOp at h
  split at h
  · -- pick
    rename_i c x y
    split at h
    · rename_i b tm obl orc' hd
      split at h
      · rename_i r' hr
        simp only [Option.some.injEq] at h; subst h
        obtain ⟨h1, h2⟩ := decide?_sound hd ho hk.tm
        refine wp_of_yield (u := a.eval (if b then x else y)) (w' := w) (.inl ?_) (hK env _ w (Env.le_refl _) ⟨by cases dst <;> exact hk.defers, put_rel h2 (by rw [← hr]; exact get_rel h2 _) dst, hk.mem, hk.long, hk.fix⟩)
        simp only [execOp, h1, asBool, Sem.run_bind, Sem.run_pure, Result.andThen_ok]
        cases b <;> rfl
      · cases h
    · cases h
  · -- call
    rename_i x args ts
    split at h
    · rename_i f caps hcal
      split at h
      · rename_i sp hl
        split at h
        · rename_i r' mem obl hs
          simp only [Option.some.injEq] at h; subst h
          obtain ⟨cs, hcs, hrun⟩ := resolve_run (P := P) (args := args) (ts := ts) (dst := dst) (type := type) (pos := pos) (after := after) (guard := guard) (calleeOf_rel hcal (get_rel hk.tm x))
          have hargs : AllSV env ((args.toList.map fun x => norm (get st.tm x)) ++ caps) (args.toList.map a.eval ++ cs) := (norms_rel (fun x => get_rel hk.tm x)).append hcs
          rcases hΓ f sp hl with ⟨he, hsp⟩ | ⟨g, rfl, hx⟩
          case inr =>
            simp only [Sp.run] at hs
            split at hs
            · rename_i r0 obl0 hg
              simp only [Option.some.injEq, Prod.mk.injEq] at hs
              obtain ⟨rfl, rfl, rfl⟩ := hs
              obtain ⟨v, h1, h2⟩ := hx _ _ _ hg ho env _ hargs w
              refine wp_of_yield (u := v) (w' := w) (.inl ?_) (hK env _ w (Env.le_refl _) ⟨by cases dst <;> exact hk.defers, put_rel hk.tm h2 dst, hk.mem, hk.long, hk.fix⟩)
              rw [hrun]
              exact h1
            · cases hs
          have hc := hsp.spec _ _ _ _ _ hs ho env cx.w0 w cx.S _ hargs hk.mem
          unfold Oper.wp
          rw [hrun, callFunc_run he _ w]
          show Calls P f _ w _
          refine hc.mono ?_
          rintro e w' ⟨v, env', rfl, hle, hsame, hlong, hv, hm⟩
          exact hK env' _ w' hle ⟨by cases dst <;> exact hk.defers, put_rel (hk.tm.le hle) hv dst, hm, Nat.le_trans hk.long hlong, fun h hl => by rw [hsame h (Nat.lt_of_lt_of_le hl hk.long)]; exact hk.fix h hl⟩
        · cases h
      · cases h
    · cases h
  · rename_i op' n1 n2
    split at h
    · rename_i r' eff obl hc
      simp only [Option.some.injEq] at h; subst h
      have hx : AllSV env (op.operands.toList.map (get st.tm)) (op.operands.toList.map a.eval) := gets_rel (fun x => get_rel hk.tm x)
      obtain ⟨u, env', w', h1, h2, h3⟩ := core_sound (o := ⟨dst, op, type, pos, after, guard⟩) (ρ := a.eval) hc ho hx hk.mem.pad (by simp) (hk.mem.top _ (Nat.le_refl _))
      have hal : ∀ mm : List Seg, (eff.apply st.mem.length mm).length = mm.length := fun mm => by cases eff <;> simp [Eff.apply]
      refine wp_of_yield h1 (hK env' _ w' h3.le ⟨by cases dst <;> exact hk.defers, put_rel (hk.tm.le h3.le) h2 dst, ?_, ?_, fun h hl => by rw [h3.other h (Nat.ne_of_lt (Nat.lt_of_lt_of_le hl hk.long))]; exact hk.fix h hl⟩)
      case refine_2 =>
        have := hk.long
        simp only
        split
        · rw [hal]; simp; omega
        · rw [hal]; exact hk.long
      simp only
      split
      · exact h3.ok
      · rename_i hmk
        have hmk' : eff.makes = false := by simpa using hmk
        have hsame := h3.same hmk'
        have hok := h3.ok
        have hap : eff.apply st.mem.length (st.mem ++ [Seg.gone]) = eff.apply st.mem.length st.mem ++ [Seg.gone] := by
          cases eff with
          | none => rfl
          | new s => cases hmk'
          | app h s => cases hmk'
          | set h s =>
            show (st.mem ++ [Seg.gone]).set h s = st.mem.set h s ++ [Seg.gone]
            obtain ⟨t, ht, hx'⟩ := h3.wr h s rfl
            have hlt : h < st.mem.length := by
              rcases Nat.lt_or_ge h st.mem.length with k | k
              · exact k
              · exfalso
                rw [List.getElem?_append_right k] at ht
                obtain ⟨hl, e⟩ := List.getElem?_eq_some_iff.1 ht
                simp at hl
                simp [hl] at e
                subst e
                cases hx'
            rw [List.set_append_left _ _ hlt]
        rw [hap] at hok
        refine MemOk.unpad hok ?_
        have hl : (eff.apply st.mem.length st.mem).length = st.mem.length := by
          cases eff <;> simp [Eff.apply]
        rw [hl, hsame]
        exact hk.mem.top _ (Nat.le_refl _)
    · cases h

theorem LetsOut_or {o : Oper} {a : Act} {w : World} {K : Act → World → Prop} {Q : Exit → Act → World → Prop} (h : o.wp P a w K Q) : o.wp P a w K Q ∨ (o.asks P a w ∧ LetsOut Q) := .inl h

theorem runOps_sound (hΓ : CtxOk P Γ) {ops : Array Oper} {Q : Exit → Act → World → Prop} : ∀ (l : List Oper) {st st' : St} {orc orc' : List Bool} {obl : List Prop} {a : Act} {w : World} {env : Env}, runOps P Γ ops l st orc = some (st', obl, orc') → AllT obl → Ok cx env st a w →
    (∀ env' a' w', env.le env' → Ok cx env' st' a' w' → Q .normal a' w') → wpList P ops Q l a w
  | [], st, st', orc, orc', obl, a, w, env, h, ho, hk, hQ => by
    simp only [runOps, Option.some.injEq, Prod.mk.injEq] at h
    obtain ⟨rfl, rfl, rfl⟩ := h
    exact hQ env a w (Env.le_refl _) hk
  | o :: rest, st, st', orc, orc', obl, a, w, env, h, ho, hk, hQ => by
    simp only [runOps] at h
    unfold wpList
    split at h
    · rename_i hg
      rw [if_pos (by simp [Region.wanted, hg])]
      split at h
      · rename_i r hr
        split at h
        · rename_i st1 obl1 orc1 h1
          simp only [Option.some.injEq, Prod.mk.injEq] at h
          obtain ⟨rfl, rfl, rfl⟩ := h
          obtain ⟨o1, o2⟩ := AllT.append.1 ho
          exact .inl (stepOp_sound hΓ hr o1 hk (fun env' a' w' hle hk' => runOps_sound hΓ rest h1 o2 hk' (fun env2 a2 w2 hl2 hk2 => hQ env2 a2 w2 (Env.le_trans hle hl2) hk2)))
        · cases h
      · cases h
    · rename_i j want hg
      split at h
      · rename_i d hd
        split at h
        · rename_i hun
          split at h
          · rename_i st1 obl1 orc1 h1
            simp only [Option.some.injEq, Prod.mk.injEq] at h
            obtain ⟨rfl, rfl, rfl⟩ := h
            have hw : Region.wanted o (yielded ops a.tmps) = false := by
              have hv := isUndef_rel hun (getD_tmps hk.tm d)
              have hy : yielded ops a.tmps j = none := by
                unfold yielded
                rw [hd]
                simp only [Option.bind_some]
                rw [Array.getD_eq_getD_getElem?] at hv
                cases hq : a.tmps[d]? with
                | none => rfl
                | some u => rw [hq] at hv; have hv' : u = undef := hv; subst hv'; rfl
              simp [Region.wanted, hg, hy]
            rw [hw, if_neg (by simp)]
            exact runOps_sound hΓ rest h1 ho ⟨by cases o.dst <;> exact hk.defers, put_rel (x := .tup []) (v := undef) hk.tm (undef_rel env) o.dst, hk.mem, hk.long, hk.fix⟩ hQ
          · cases h
        split at h
        · rename_i c tm obl0 orc0 hdec
          have hwant : AllT obl0 → Region.wanted o (yielded ops a.tmps) = (c == want) ∧ AllSV env tm a.tmps.toList := by
            intro ho0
            obtain ⟨h1, h2⟩ := decide?_sound hdec ho0 hk.tm
            refine ⟨?_, h2⟩
            have hv : a.tmps[d]? = some (.bool c) := by
              have h1' : a.tmps.getD d undef = .bool c := h1
              rw [Array.getD_eq_getD_getElem?] at h1'
              cases hq : a.tmps[d]? with
              | none => rw [hq] at h1'; cases h1'
              | some u => rw [hq] at h1'; exact congrArg some h1'
            simp [Region.wanted, hg, yielded, hd, hv]
          split at h
          · rename_i hc
            split at h
            · rename_i r hr
              split at h
              · rename_i st1 obl1 orc1 h1
                simp only [Option.some.injEq, Prod.mk.injEq] at h
                obtain ⟨rfl, rfl, rfl⟩ := h
                obtain ⟨o0, o12⟩ := AllT.append.1 ho
                obtain ⟨o1, o2⟩ := AllT.append.1 o12
                obtain ⟨hw, htm⟩ := hwant o0
                rw [hw, if_pos hc]
                exact .inl (stepOp_sound hΓ hr o1 ⟨hk.defers, htm, hk.mem, hk.long, hk.fix⟩ (fun env' a' w' hle hk' => runOps_sound hΓ rest h1 o2 hk' (fun env2 a2 w2 hl2 hk2 => hQ env2 a2 w2 (Env.le_trans hle hl2) hk2)))
              · cases h
            · cases h
          · rename_i hc
            split at h
            · rename_i st1 obl1 orc1 h1
              simp only [Option.some.injEq, Prod.mk.injEq] at h
              obtain ⟨rfl, rfl, rfl⟩ := h
              obtain ⟨o0, o1⟩ := AllT.append.1 ho
              obtain ⟨hw, htm⟩ := hwant o0
              rw [hw, if_neg hc]
              exact runOps_sound hΓ rest h1 o1 ⟨by cases o.dst <;> exact hk.defers, put_rel (x := .tup []) (v := undef) htm (undef_rel env) o.dst, hk.mem, hk.long, hk.fix⟩ hQ
            · cases h
        · cases h
      · cases h
end
end E
end Go.Proofs.Ytajdkbgbekdbmaa

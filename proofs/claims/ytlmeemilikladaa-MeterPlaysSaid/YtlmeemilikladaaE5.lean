/- A symbolic run of Go code: one operation. No condition. -/
import Derived.Test.YtlmeemilikladaaE4
namespace Go.Proofs.Ytlmeemilikladaa
set_option linter.unusedVariables false
set_option linter.unusedSimpArgs false
namespace E
open Go.RowKit

def plain : At → Option Value
  | .val v => some v
  | .bit b => some (.bool b)
  | _ => none
theorem plain_rel {env : Env} {a : At} {u v : Value} (h : plain a = some u) (k : a.rel env v) : v = u := by
  cases a <;> simp only [plain, Option.some.injEq, reduceCtorEq] at h
  · subst h; exact k
  · subst h; exact k

def isPtr : At → Bool
  | .ptr .. | .eptr .. => true
  | _ => false
theorem isPtr_rel {env : Env} {a : At} {v : Value} (h : isPtr a = true) (k : a.rel env v) : ∃ p, v = .pointer (some p) := by
  cases a <;> simp only [isPtr, Bool.false_eq_true] at h
  · obtain ⟨_, _, _, _, rfl⟩ := k; exact ⟨_, rfl⟩
  · obtain ⟨_, _, _, _, rfl⟩ := k; exact ⟨_, rfl⟩

/-- An address against nil. -/
def evNil (P : Program) (op : BinOp) (t : TypeId) : Option Bool :=
  match P.underlying t, op with
  | some (.pointer _), .eql => some false
  | some (.pointer _), .neq => some true
  | _, _ => none
theorem run_evNil {P : Program} {op : BinOp} {t : TypeId} {r : Bool} (h : evNil P op t = some r) (p : Addr) (X Y : Operand) (w : World) :
    (do eqGuard op t X Y (.pointer (some p)) (.pointer none); binOp op t (.pointer (some p)) (.pointer none) : Sem Value).run P w = .ok (.bool r) w ∧
    (do eqGuard op t X Y (.pointer none) (.pointer (some p)); binOp op t (.pointer none) (.pointer (some p)) : Sem Value).run P w = .ok (.bool r) w := by
  have key : ∀ e, P.underlying t = some (.pointer e) → (Op.equal t (.pointer (some p)) (.pointer none)).run P w = .ok false w ∧ (Op.equal t (.pointer none) (.pointer (some p))).run P w = .ok false w := by
    intro e hu
    constructor
    · show (Op.equalIn (9999 + 1) t _ _).run P w = _
      unfold Op.equalIn
      simp only [Sem.run_bind, run_underlying hu, Result.andThen_ok]
      rfl
    · show (Op.equalIn (9999 + 1) t _ _).run P w = _
      unfold Op.equalIn
      simp only [Sem.run_bind, run_underlying hu, Result.andThen_ok]
      rfl
  unfold evNil at h
  split at h
  · rename_i e hu
    simp only [Option.some.injEq] at h; subst h
    obtain ⟨k1, k2⟩ := key e hu
    constructor
    · simp [eqGuard, binOp, k1]
    · simp [eqGuard, binOp, k2]
  · rename_i e hu
    simp only [Option.some.injEq] at h; subst h
    obtain ⟨k1, k2⟩ := key e hu
    constructor
    · simp [eqGuard, binOp, k1]
    · simp [eqGuard, binOp, k2]
  · cases h

def evBinOp (P : Program) (op : BinOp) (t : TypeId) : NV → NV → Option (Value × List Prop)
  | .one a, .one b =>
    match plain a, plain b with
    | some u, some v => evBin P op t u v
    | none, some (.pointer none) => if isPtr a then (evNil P op t).map fun r => (.bool r, []) else none
    | some (.pointer none), none => if isPtr b then (evNil P op t).map fun r => (.bool r, []) else none
    | _, _ => none
  | .agg l, .agg m => (evBinAgg P op t l m).map fun r => (.bool r, [])
  | _, _ => none
theorem run_evBinOp {P : Program} {env : Env} {op : BinOp} {t : TypeId} {a b : NV} {x y v : Value} {obl : List Prop} (h : evBinOp P op t a b = some (v, obl)) (ho : AllT obl) (ha : a.rel env x) (hb : b.rel env y) (X Y : Operand) (w : World) :
    (do eqGuard op t X Y x y; binOp op t x y : Sem Value).run P w = .ok v w := by
  unfold evBinOp at h
  split at h
  · split at h
    · rename_i u v' e1 e2
      rw [plain_rel e1 ha, plain_rel e2 hb]
      exact run_evBin h ho X Y w
    · rename_i e1 e2
      split at h
      · rename_i hp
        rw [Option.map_eq_some_iff] at h
        obtain ⟨r, hr, e⟩ := h
        obtain ⟨rfl, rfl⟩ := Prod.mk.inj e
        obtain ⟨p, rfl⟩ := isPtr_rel hp ha
        rw [plain_rel e2 hb]
        exact (run_evNil hr p X Y w).1
      · cases h
    · rename_i e1 e2
      split at h
      · rename_i hp
        rw [Option.map_eq_some_iff] at h
        obtain ⟨r, hr, e⟩ := h
        obtain ⟨rfl, rfl⟩ := Prod.mk.inj e
        obtain ⟨p, rfl⟩ := isPtr_rel hp hb
        rw [plain_rel e1 ha]
        exact (run_evNil hr p X Y w).2
      · cases h
    · cases h
  · rw [Option.map_eq_some_iff] at h
    obtain ⟨r, hr, e⟩ := h
    obtain ⟨rfl, rfl⟩ := Prod.mk.inj e
    exact run_evBinAgg hr ha hb X Y w
  · cases h

def pairUp : List Nat → List SV → Option (List (Nat × NV))
  | [], [] => some []
  | i :: is, .nv x :: xs => (pairUp is xs).map ((i, x) :: ·)
  | _, _ => none
theorem pairUp_rel {env : Env} {ρ : Operand → Value} : ∀ {ps : List (Nat × Operand)} {xs : List SV} {r : List (Nat × NV)}, pairUp (ps.map (·.1)) xs = some r → AllSV env xs (ps.map fun p => ρ p.2) → AllParts env r (ps.map fun p => (p.1, ρ p.2))
  | [], [], r, h, _ => by simp only [List.map_nil, pairUp, Option.some.injEq] at h; subst h; trivial
  | (i, p) :: ps, .nv x :: xs, r, h, hx => by
    simp only [List.map_cons, pairUp] at h
    rw [Option.map_eq_some_iff] at h
    obtain ⟨r', h1, rfl⟩ := h
    exact ⟨rfl, hx.1, pairUp_rel h1 hx.2⟩
  | (i, p) :: ps, .any :: xs, r, h, hx => by simp [pairUp] at h
  | (i, p) :: ps, .tup _ :: xs, r, h, hx => by simp [pairUp] at h
  | (i, p) :: ps, [], r, h, hx => by simp [pairUp] at h
  | [], _ :: _, r, h, hx => by simp [pairUp] at h

def sliceArgs (lo hi : Option Operand) (xs : List SV) : Option (Option Int × Option Int) :=
  match lo, hi, xs with
  | none, none, [] => some (none, none)
  | some _, none, [l] => (intOf? l).map fun l => (some l.2, none)
  | none, some _, [h] => (intOf? h).map fun h => (none, some h.2)
  | some _, some _, [l, h] => match intOf? l, intOf? h with
    | some l, some h => some (some l.2, some h.2)
    | _, _ => none
  | _, _, _ => none

/-- One operation, that is no call of a Go function. -/
def evalCore (P : Program) (op : Op) (xs : List SV) (mem : List Seg) (nh : Nat) : Option (SV × Eff × List Prop) :=
  match op, xs with
  | .move _, [.nv x] => some (.nv x, .none, [])
  | .move _, [.tup l] => some (.tup l, .none, [])
  | .assign _, [.nv x] => some (.nv x, .none, [])
  | .assign _, [.tup l] => some (.tup l, .none, [])
  | .extract _ i, [.tup l] => match l[i]? with
    | some x => some (.nv x, .none, [])
    | none => none
  | .binOp op t _ _ _, [.nv a, .nv b] => match evBinOp P op t a b with
    | some (v, obl) => some (.nv (.one (.val v)), .none, obl)
    | none => none
  | .unOp op _ _, [.nv (.one a)] => match plain a with
    | some u => match evUn op u with
      | some v => some (.nv (.one (.val v)), .none, [])
      | none => none
    | none => none
  | .convert s d _, [.nv (.one a)] => match plain a with
    | some u => match evConv P s d u with
      | some v => some (.nv (.one (.val v)), .none, [])
      | none => none
    | none => none
  | .field t _ i, [.nv (.agg l)] => match evField P t l i with
    | some r => some (.nv r, .none, [])
    | none => none
  | .index t _ _, [.nv x, i] => match intOf? i with
    | some (_, i) => match evIndex P t x i with
      | some (r, obl) => some (.nv r, .none, obl)
      | none => none
    | none => none
  | .nilCheck _, [.nv (.one a)] => if isPtr a then some (.nv (.one a), .none, []) else none
  | .box t _, [.nv x] => match evBox t x nh with
    | some (r, eff) => some (r, eff, [])
    | none => none
  | .alloc t, [] => match evAlloc P t nh with
    | some (r, eff) => some (r, eff, [])
    | none => none
  | .load t _, [.nv (.one a)] => match evLoad P t mem a with
    | some (r, obl) => some (.nv r, .none, obl)
    | none => none
  | .store t _ _, [.nv (.one a), .nv x] => match evStore P t mem a x with
    | some (h, s, obl) => some (.any, .set h s, obl)
    | none => none
  | .fieldAddr s _ f, [.nv (.one a)] => match evFieldAddr P s f a with
    | some r => some (.nv (.one r), .none, [])
    | none => none
  | .indexAddr t _ _, [.nv (.one a), i] => match intOf? i with
    | some (_, i) => match evIndexAddr P t mem a i with
      | some (r, obl) => some (.nv (.one r), .none, obl)
      | none => none
    | none => none
  | .build t ps, xs => match pairUp (ps.toList.map (·.1)) xs with
    | some l => match evBuild P t l with
      | some r => some (.nv r, .none, [])
      | none => none
    | none => none
  | .buildSlice t len ps, xs => match pairUp (ps.toList.map (·.1)) xs with
    | some l => match evBuildSlice P t len l nh with
      | some (r, eff) => some (r, eff, [])
      | none => none
    | none => none
  | .makeSlice t _ _, [l, c] => match intOf? l, intOf? c with
    | some (_, l), some (_, c) => evMake P t l c nh
    | _, _ => none
  | .slice t _ lo hi none, .nv (.one (.val (.string s))) :: xs => match P.underlying t, sliceArgs lo hi xs with
    | some .string, some (l, h) => some (.nv (.one (.val (.string (evSliceStr s l h).1))), .none, (evSliceStr s l h).2)
    | _, _ => none
  | .call { callee := .builtin .len, args := _, argTypes := ts }, [.nv x] => match ts[0]? with
    | some t => match evLen P t mem x with
      | some n => some (.nv (.one (.val (.int .i64 n))), .none, [])
      | none => none
    | none => none
  | .call { callee := .builtin .min, args := _, argTypes := _ }, xs => match evFold (fun x y => if y < x then y else x) xs with
    | some (k, n) => some (.nv (.one (.val (.int k n))), .none, [])
    | none => none
  | .call { callee := .builtin .max, args := _, argTypes := _ }, xs => match evFold (fun x y => if y > x then y else x) xs with
    | some (k, n) => some (.nv (.one (.val (.int k n))), .none, [])
    | none => none
  | .call { callee := .builtin .append, args := _, argTypes := ts }, [.nv (.one s), .nv (.one x)] =>
    match ts.toList with
    | [t, t'] => if t = t' then evAppend P t mem s x nh else none
    | _ => none
  | _, _ => none

/-- What an operation yields. -/
def Yield (P : Program) (ρ : Operand → Value) (o : Oper) (w : World) (u : Value) (w' : World) : Prop :=
  (execOp ρ o).run P w = .ok (.value u) w' ∨ ((execOp ρ o).run P w = .ok .skip w' ∧ u = undef)

section
variable {P : Program} {env : Env} {mem : List Seg} {w0 w : World} {S : Nat → Prop} {nh : Nat}

theorem all1 {l : List SV} {x : SV} {vs : List Value} (hl : l = [x]) (h : AllSV env l vs) : ∃ v, vs = [v] ∧ x.rel env v := by
  subst hl
  match vs, h with
  | [v], h => exact ⟨v, rfl, h.1⟩
theorem all2 {l : List SV} {x y : SV} {vs : List Value} (hl : l = [x, y]) (h : AllSV env l vs) : ∃ v u, vs = [v, u] ∧ x.rel env v ∧ y.rel env u := by
  subst hl
  match vs, h with
  | [v, u], h => exact ⟨v, u, rfl, h.1, h.2.1⟩

theorem run_pureValue (x : Sem Value) {v : Value} {w w' : World} (h : x.run P w = .ok v w') : (do pure (.value (← x)) : Sem Next).run P w = .ok (.value v) w' := by
  simp only [Sem.run_bind, h, Result.andThen_ok, Sem.run_pure]

theorem After.none (h : MemOk env mem w0 w S) : After env env .none mem w0 w S nh := After.same' h
end
end E
end Go.Proofs.Ytlmeemilikladaa

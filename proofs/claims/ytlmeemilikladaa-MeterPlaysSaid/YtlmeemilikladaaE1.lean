/- A symbolic run of Go code: the operations that touch no memory. No condition. -/
import Derived.Test.YtlmeemilikladaaE0
namespace Go.Proofs.Ytlmeemilikladaa
set_option linter.unusedVariables false
set_option linter.unusedSimpArgs false
namespace E
open Go.RowKit

def ofConst : Value → SV
  | .agg cs => .nv (.agg (cs.toList.map .val))
  | .tuple _ => .any
  | v => .nv (.one (.val v))

def get (tm : List SV) : Operand → SV
  | .tmp t => tm.getD t .any
  | .const v => ofConst v
  | .func f => .nv (.one (.val (.func (.func f) #[] #[])))
  | .global g => .nv (.one (.val (.pointer (some ⟨g, 0, none⟩))))

theorem ofConst_rel (env : Env) (v : Value) : (ofConst v).rel env v := by
  unfold ofConst
  split
  · exact ⟨_, rfl, AllRel.vals _⟩
  · trivial
  · rfl

theorem get_rel {env : Env} {tm : List SV} {a : Act} (h : AllSV env tm a.tmps.toList) (x : Operand) : (get tm x).rel env (a.eval x) := by
  cases x with
  | tmp t =>
    show (tm.getD t .any).rel env (a.tmps.getD t undef)
    by_cases ht : t < tm.length
    · obtain ⟨v, h1, h2⟩ := h.get (List.getElem?_eq_getElem ht)
      have : a.tmps.getD t undef = v := by
        have h1' : a.tmps[t]? = some v := by simpa using h1
        rw [Array.getD_eq_getD_getElem?, h1']; rfl
      rw [this, List.getD_eq_getElem?_getD, List.getElem?_eq_getElem ht]
      exact h2
    · rw [List.getD_eq_getElem?_getD, List.getElem?_eq_none (Nat.le_of_not_lt ht)]
      trivial
  | const v => exact ofConst_rel env v
  | func f => rfl
  | global g => rfl

/-! plain values -/

def evInt (op : BinOp) (k : IntKind) (a b : Int) : Option (Value × List Prop) :=
  match op with
  | .add => some (.int k (k.wrap (a + b)), [])
  | .sub => some (.int k (k.wrap (a - b)), [])
  | .mul => some (.int k (k.wrap (a * b)), [])
  | .quo => some (.int k (k.wrap (a.tdiv b)), [b ≠ 0])
  | .rem => some (.int k (a.tmod b), [b ≠ 0])
  | .and => some (.int k (bits .and k a b), [])
  | .or => some (.int k (bits .or k a b), [])
  | .xor => some (.int k (bits .xor k a b), [])
  | .andNot => some (.int k (bits .andNot k a b), [])
  | .eql => some (.bool (a == b), [])
  | .neq => some (.bool (a != b), [])
  | .lss => some (.bool (decide (a < b)), [])
  | .leq => some (.bool (decide (a ≤ b)), [])
  | .gtr => some (.bool (decide (a > b)), [])
  | .geq => some (.bool (decide (a ≥ b)), [])
  | _ => none

def evBin (P : Program) (op : BinOp) (t : TypeId) : Value → Value → Option (Value × List Prop)
  | .int k a, .int k' b =>
    match op with
    | .shl => some (.int k (k.wrap (a * 2 ^ min b.toNat k.bits)), [0 ≤ b])
    | .shr => some (.int k (a.fdiv (2 ^ min b.toNat k.bits)), [0 ≤ b])
    | op => if k = k' then evInt op k a b else none
  | .bool a, .bool b =>
    match P.underlying t, op with
    | some .bool, .eql => some (.bool (a == b), [])
    | some .bool, .neq => some (.bool (!(a == b)), [])
    | _, _ => none
  | .string a, .string b =>
    match op with
    | .add => some (.string (a ++ b), [((a.size + b.size : Nat) : Int) ≤ IntKind.i64.max])
    | .eql => some (.bool (a.toList == b.toList), [])
    | .neq => some (.bool (!(a.toList == b.toList)), [])
    | .lss => some (.bool (Op.bytesLess a.toList b.toList), [])
    | _ => none
  | .pointer none, .pointer none =>
    match P.underlying t, op with
    | some (.pointer _), .eql => some (.bool true, [])
    | some (.pointer _), .neq => some (.bool false, [])
    | _, _ => none
  | .slice none _ _, .slice none _ _ =>
    match P.underlying t, op with
    | some (.slice _), .eql => some (.bool true, [])
    | some (.slice _), .neq => some (.bool false, [])
    | _, _ => none
  | _, _ => none

theorem run_eql_nil {P : Program} {t e : TypeId} (hu : P.underlying t = some (.pointer e)) (w : World) : (Op.equal t (.pointer none) (.pointer none)).run P w = .ok true w := by
  show (Op.equalIn (9999 + 1) t _ _).run P w = _
  unfold Op.equalIn
  simp only [Sem.run_bind, run_underlying hu, Result.andThen_ok]
  rfl
theorem run_eql_nils {P : Program} {t e : TypeId} (hu : P.underlying t = some (.slice e)) (a b c d : Nat) (w : World) : (Op.equal t (.slice none a b) (.slice none c d)).run P w = .ok true w := by
  show (Op.equalIn (9999 + 1) t _ _).run P w = _
  unfold Op.equalIn
  simp only [Sem.run_bind, run_underlying hu, Result.andThen_ok]
  rfl
theorem run_eql_bool {P : Program} {t : TypeId} (hu : P.underlying t = some .bool) (a b : Bool) (w : World) : (Op.equal t (.bool a) (.bool b)).run P w = .ok (a == b) w :=
  run_equalIn_bool' w 9999 t a b hu

theorem run_evInt {P : Program} {op : BinOp} {k : IntKind} {a b : Int} {t : TypeId} {v : Value} {obl : List Prop} (h : evInt op k a b = some (v, obl)) (ho : AllT obl) (w : World) :
    (binOp op t (.int k a) (.int k b)).run P w = .ok v w := by
  cases op <;> simp only [evInt, reduceCtorEq, Option.some.injEq, Prod.mk.injEq] at h
  all_goals obtain ⟨rfl, rfl⟩ := h
  all_goals simp only [binOp, Op.intArith, Op.intDiv, Op.intBits, Op.intCmp, bits, ne_eq, not_true_eq_false, if_false, Sem.run_pure]
  all_goals first | rfl | (simp only [AllT, ne_eq, and_true] at ho; rw [if_neg ho]; rfl)

theorem run_evBin {P : Program} {op : BinOp} {t : TypeId} {x y v : Value} {obl : List Prop} (h : evBin P op t x y = some (v, obl)) (ho : AllT obl) (X Y : Operand) (w : World) :
    (do eqGuard op t X Y x y; binOp op t x y : Sem Value).run P w = .ok v w := by
  have hg : (eqGuard op t X Y x y).run P w = .ok () w := by
    unfold evBin at h
    unfold eqGuard
    split at h <;> first
      | (split <;> simp; done)
      | cases h
  rw [Sem.run_bind, hg, Result.andThen_ok]
  unfold evBin at h
  split at h
  · rename_i k a k' b
    split at h
    · simp only [Option.some.injEq, Prod.mk.injEq] at h
      obtain ⟨rfl, rfl⟩ := h
      simp only [AllT, and_true] at ho
      simp only [binOp, Op.shift]
      rw [if_neg (by omega)]; rfl
    · simp only [Option.some.injEq, Prod.mk.injEq] at h
      obtain ⟨rfl, rfl⟩ := h
      simp only [AllT, and_true] at ho
      simp only [binOp, Op.shift]
      rw [if_neg (by omega)]; rfl
    · split at h
      · rename_i e; subst e; exact run_evInt h ho w
      · cases h
  · split at h
    · rename_i hu
      simp only [Option.some.injEq, Prod.mk.injEq] at h
      obtain ⟨rfl, rfl⟩ := h
      simp only [binOp, Sem.run_bind, run_eql_bool hu, Result.andThen_ok, Sem.run_pure]
    · rename_i hu
      simp only [Option.some.injEq, Prod.mk.injEq] at h
      obtain ⟨rfl, rfl⟩ := h
      simp only [binOp, Sem.run_bind, run_eql_bool hu, Result.andThen_ok, Sem.run_pure]
    · cases h
  · split at h
    · simp only [Option.some.injEq, Prod.mk.injEq] at h
      obtain ⟨rfl, rfl⟩ := h
      simp only [AllT, and_true] at ho
      simp only [binOp, Op.stringOp]
      rw [if_neg (by omega)]; rfl
    all_goals first
      | (simp only [Option.some.injEq, Prod.mk.injEq] at h
         obtain ⟨rfl, rfl⟩ := h
         simp [binOp, Op.stringOp]; done)
      | cases h
  · split at h
    · rename_i hu
      simp only [Option.some.injEq, Prod.mk.injEq] at h
      obtain ⟨rfl, rfl⟩ := h
      simp only [binOp, Sem.run_bind, run_eql_nil hu, Result.andThen_ok, Sem.run_pure]
    · rename_i hu
      simp only [Option.some.injEq, Prod.mk.injEq] at h
      obtain ⟨rfl, rfl⟩ := h
      simp only [binOp, Sem.run_bind, run_eql_nil hu, Result.andThen_ok, Sem.run_pure]; rfl
    · cases h
  · split at h
    · rename_i hu
      simp only [Option.some.injEq, Prod.mk.injEq] at h
      obtain ⟨rfl, rfl⟩ := h
      simp only [binOp, Sem.run_bind, run_eql_nils hu, Result.andThen_ok, Sem.run_pure]
    · rename_i hu
      simp only [Option.some.injEq, Prod.mk.injEq] at h
      obtain ⟨rfl, rfl⟩ := h
      simp only [binOp, Sem.run_bind, run_eql_nils hu, Result.andThen_ok, Sem.run_pure]; rfl
    · cases h
  · cases h

def evUn (op : UnOp) : Value → Option Value
  | .int k n =>
    match op with
    | .neg => some (.int k (k.wrap (0 - n)))
    | .xor => some (.int k (bits .xor k (if k.signed then -1 else k.max) n))
    | _ => none
  | .bool b =>
    match op with
    | .not => some (.bool !b)
    | _ => none
  | _ => none
theorem run_evUn {P : Program} {op : UnOp} {x v : Value} (h : evUn op x = some v) (w : World) : (Op.unary op x).run P w = .ok v w := by
  unfold evUn at h
  split at h
  · split at h <;> first | (simp only [Option.some.injEq] at h; subst h; rfl) | cases h
  · split at h <;> first | (simp only [Option.some.injEq] at h; subst h; rfl) | cases h
  · cases h

def evConv (P : Program) (src dst : TypeId) : Value → Option Value
  | .int k n => if (P.underlying src).isSome then match P.underlying dst with | some (.int k') => some (.int k' (k'.wrap n)) | _ => none else none
  | .string s => if (P.underlying src).isSome then match P.underlying dst with | some .string => some (.string s) | _ => none else none
  | _ => none
theorem run_evConv {P : Program} {src dst : TypeId} {x v : Value} (h : evConv P src dst x = some v) (w : World) : (convert src dst x).run P w = .ok v w := by
  unfold evConv at h
  split at h
  · split at h
    · rename_i hs
      split at h
      · rename_i k' hd
        simp only [Option.some.injEq] at h; subst h
        obtain ⟨d, hs⟩ := Option.isSome_iff_exists.1 hs
        unfold convert
        simp only [Sem.run_bind, run_underlying hs, Result.andThen_ok, run_underlying hd]
        rfl
      · cases h
    · cases h
  · split at h
    · rename_i hs
      split at h
      · rename_i hd
        simp only [Option.some.injEq] at h; subst h
        obtain ⟨d, hs⟩ := Option.isSome_iff_exists.1 hs
        unfold convert
        simp only [Sem.run_bind, run_underlying hs, Result.andThen_ok, run_underlying hd]
        rfl
      · cases h
    · cases h
  · cases h

/-! parts of aggregates -/

def isAggB (P : Program) (t : TypeId) : Option Bool :=
  match P.underlying t with
  | some (.struct _) => some true
  | some (.array _ _) => some true
  | some _ => some false
  | none => none
theorem run_isAggB {P : Program} {t : TypeId} {b : Bool} (h : isAggB P t = some b) (w : World) : (isAgg t).run P w = .ok b w := by
  unfold isAggB at h
  unfold isAgg
  split at h
  · rename_i hu; simp only [Option.some.injEq] at h; subst h; simp [run_underlying hu]
  · rename_i hu; simp only [Option.some.injEq] at h; subst h; simp [run_underlying hu]
  · rename_i d n1 n2 hu
    simp only [Option.some.injEq] at h; subst h
    simp only [Sem.run_bind, run_underlying hu, Result.andThen_ok]
    cases d <;> first | rfl | exact (n1 _ rfl).elim | exact (n2 _ _ rfl).elim
  · cases h

theorem info_of_underlying {P : Program} {t : TypeId} {d : TypeDesc} (h : P.underlying t = some d) : ∃ i, P.info? t = some i := by
  unfold Program.underlying at h
  split at h
  · exact ⟨_, by assumption⟩
  · exact ⟨_, by assumption⟩
  · cases h
theorem run_sizeOf' {P : Program} {t : TypeId} {d : TypeDesc} (h : P.underlying t = some d) (w : World) : (sizeOf t).run P w = .ok (P.cellsOf t) w := by
  obtain ⟨i, hi⟩ := info_of_underlying h
  unfold sizeOf typeInfo
  simp [hi, Program.cellsOf]
theorem run_sizeOf_agg {P : Program} {t : TypeId} {b : Bool} (h : isAggB P t = some b) (w : World) : (sizeOf t).run P w = .ok (P.cellsOf t) w := by
  cases hu : P.underlying t with
  | none => simp [isAggB, hu] at h
  | some d => exact run_sizeOf' hu w

def evPart (P : Program) (t : TypeId) (l : List At) (off : Nat) : Option NV :=
  match isAggB P t with
  | some true => some (.agg ((l.drop off).take (P.cellsOf t)))
  | some false => match l[off]? with
    | some x => some (.one x)
    | none => none
  | none => none
theorem extract_toList (cs : Array Value) (a n : Nat) : (cs.extract a (a + n)).toList = (cs.toList.drop a).take n := by
  simp [List.extract]
theorem run_evPart {P : Program} {env : Env} {t : TypeId} {l : List At} {off : Nat} {r : NV} {cs : Array Value} (h : evPart P t l off = some r) (hl : AllRel env l cs.toList) (w : World) :
    ∃ v, (part t cs off).run P w = .ok v w ∧ r.rel env v := by
  unfold evPart at h
  unfold part
  split at h
  · rename_i hb
    simp only [Option.some.injEq] at h; subst h
    refine ⟨.agg (cs.extract off (off + P.cellsOf t)), ?_, _, rfl, ?_⟩
    · simp [run_isAggB hb, run_sizeOf_agg hb]
    · rw [extract_toList]; exact (hl.drop off).take _
  · rename_i hb
    split at h
    · rename_i x hx
      simp only [Option.some.injEq] at h; subst h
      obtain ⟨v, h1, h2⟩ := hl.get hx
      refine ⟨v, ?_, h2⟩
      have h1' : cs[off]? = some v := by simpa using h1
      simp [run_isAggB hb, h1']
    · cases h
  · cases h

def evField (P : Program) (t : TypeId) (l : List At) (i : Nat) : Option NV :=
  match P.underlying t with
  | some (.struct fs) => match fs[i]? with
    | some f => evPart P f.type l f.offset
    | none => none
  | _ => none
theorem run_evField {P : Program} {env : Env} {t : TypeId} {l : List At} {i : Nat} {r : NV} {v : Value} (h : evField P t l i = some r) (hl : NV.rel env (.agg l) v) (w : World) :
    ∃ u, (Instr.field t v i).run P w = .ok u w ∧ r.rel env u := by
  obtain ⟨cs, rfl, hl⟩ := hl
  unfold evField at h
  split at h
  · rename_i fs hu
    split at h
    · rename_i f hf
      obtain ⟨u, h1, h2⟩ := run_evPart h hl w
      refine ⟨u, ?_, h2⟩
      unfold Instr.field
      simp [run_underlying hu, hf, asAgg, h1]
    · cases h
  · cases h

def byteAt (s : ByteArray) (i : Int) : Int := ((s.data.toList.getD i.toNat 0).toNat : Int)

def evIndex (P : Program) (t : TypeId) (x : NV) (i : Int) : Option (NV × List Prop) :=
  match P.underlying t, x with
  | some (.array n e), .agg l =>
    match P.underlying e with
    | some _ => match evPart P e l (i.toNat * P.cellsOf e) with
      | some r => some (r, [0 ≤ i, i < n])
      | none => none
    | none => none
  | some .string, .one (.val (.string s)) => some (.one (.val (.int .u8 (byteAt s i))), [0 ≤ i, i < s.size])
  | _, _ => none
theorem run_evIndex {P : Program} {env : Env} {t : TypeId} {x : NV} {k : IntKind} {i : Int} {r : NV} {obl : List Prop} {v : Value} (h : evIndex P t x i = some (r, obl)) (ho : AllT obl) (hl : NV.rel env x v) (w : World) :
    ∃ u, (Instr.index t v (.int k i)).run P w = .ok u w ∧ r.rel env u := by
  unfold evIndex at h
  split at h
  · rename_i n e l hu
    obtain ⟨cs, rfl, hl⟩ := hl
    split at h
    · rename_i d hd
      split at h
      · rename_i r' hp
        simp only [Option.some.injEq, Prod.mk.injEq] at h
        obtain ⟨rfl, rfl⟩ := h
        simp only [AllT, and_true] at ho
        obtain ⟨u, h1, h2⟩ := run_evPart hp hl w
        refine ⟨u, ?_, h2⟩
        unfold Instr.index
        simp [asIntOf, run_underlying hu, ho.1, ho.2, run_sizeOf' hd, h1]
      · cases h
    · cases h
  · rename_i s hu
    simp only [Option.some.injEq, Prod.mk.injEq] at h
    obtain ⟨rfl, rfl⟩ := h
    simp only [AllT, and_true] at ho
    have hv : v = .string s := hl
    subst hv
    refine ⟨_, ?_, rfl⟩
    have hlt : i.toNat < s.size := by omega
    have hb : byteAt s i = ((s[i.toNat]'hlt).toNat : Int) := by
      unfold byteAt
      rw [List.getD_eq_getElem?_getD, List.getElem?_eq_getElem (by simpa using hlt)]
      rfl
    unfold Instr.index
    simp [asIntOf, run_underlying hu, ho.1, hb, hlt]
  · cases h

/-! equality of aggregates -/

def evEqCell : TypeDesc → At → At → Option Bool
  | .bool, .val (.bool a), .val (.bool b) => some (a == b)
  | .int _, .val (.int k a), .val (.int k' b) => if k = k' then some (a == b) else none
  | .string, .val (.string a), .val (.string b) => some (a.toList == b.toList)
  | _, _, _ => none

def evEqFs (P : Program) (eq : TypeId → NV → NV → Option Bool) (l m : List At) : List Field → Option Bool
  | [] => some true
  | f :: fs =>
    if f.name ≠ "_" then
      match evPart P f.type l f.offset, evPart P f.type m f.offset with
      | some a, some b => match eq f.type a b, evEqFs P eq l m fs with
        | some r, some s => some (r && s)
        | _, _ => none
      | _, _ => none
    else evEqFs P eq l m fs
def evEq (P : Program) : Nat → TypeId → NV → NV → Option Bool
  | 0, _, _, _ => none
  | d + 1, t, x, y =>
    match P.underlying t, x, y with
    | some (.struct fs), .agg l, .agg m => if P.stoodInHeld t then none else evEqFs P (evEq P d) l m fs.toList
    | some u, .one a, .one b => evEqCell u a b
    | _, _, _ => none

theorem run_evEqCell {P : Program} {env : Env} {t : TypeId} {u : TypeDesc} {a b : At} {x y : Value} {r : Bool} (hu : P.underlying t = some u) (h : evEqCell u a b = some r) (ha : a.rel env x) (hb : b.rel env y) (d : Nat) (w : World) :
    (Op.equalIn (d + 1) t x y).run P w = .ok r w := by
  unfold evEqCell at h
  split at h
  · simp only [Option.some.injEq] at h; subst h
    cases ha; cases hb
    exact run_equalIn_bool' w d t _ _ hu
  · split at h
    · rename_i e
      subst e
      simp only [Option.some.injEq] at h; subst h
      cases ha; cases hb
      exact run_equalIn_int w d t _ _ _ _ hu
    · cases h
  · simp only [Option.some.injEq] at h; subst h
    cases ha; cases hb
    exact run_equalIn_string w d t _ _ hu
  · cases h

theorem evEq_sound {P : Program} {env : Env} : ∀ (d : Nat),
    (∀ (t : TypeId) (x y : NV) (v u : Value) (r : Bool) (n : Nat) (w : World), evEq P d t x y = some r → x.rel env v → y.rel env u → d ≤ n → (Op.equalIn n t v u).run P w = .ok r w) ∧
    (∀ (fs : List Field) (l m : List At) (xs ys : Array Value) (r : Bool) (n : Nat) (w : World), evEqFs P (evEq P d) l m fs = some r → AllRel env l xs.toList → AllRel env m ys.toList → d ≤ n →
      (Op.eqFields n xs ys fs).run P w = .ok r w) := by
  intro d
  have fields : ∀ d, (∀ (t : TypeId) (x y : NV) (v u : Value) (r : Bool) (n : Nat) (w : World), evEq P d t x y = some r → x.rel env v → y.rel env u → d ≤ n → (Op.equalIn n t v u).run P w = .ok r w) →
      (∀ (fs : List Field) (l m : List At) (xs ys : Array Value) (r : Bool) (n : Nat) (w : World), evEqFs P (evEq P d) l m fs = some r → AllRel env l xs.toList → AllRel env m ys.toList → d ≤ n →
        (Op.eqFields n xs ys fs).run P w = .ok r w) := by
    intro d ih fs
    induction fs with
    | nil =>
      intro l m xs ys r n w h _ _ _
      simp only [evEqFs, Option.some.injEq] at h; subst h; simp [Op.eqFields]
    | cons f fs ihf =>
      intro l m xs ys r n w h hl hm hn
      unfold evEqFs at h
      simp only [Op.eqFields]
      split at h
      · rename_i hname
        rw [if_pos hname]
        split at h
        · rename_i a b ea eb
          obtain ⟨v, hv, rv⟩ := run_evPart ea hl w
          obtain ⟨u, hu, ru⟩ := run_evPart eb hm w
          simp only [Sem.run_bind, hv, hu, Result.andThen_ok]
          split at h
          · rename_i r1 r2 e1 e2
            simp only [Option.some.injEq] at h; subst h
            rw [ih _ _ _ _ _ _ n w e1 rv ru hn]
            simp only [Result.andThen_ok]
            cases r1
            · simp
            · simpa using ihf l m xs ys r2 n w e2 hl hm hn
          · cases h
        · cases h
      · rename_i hname
        rw [if_neg hname]
        exact ihf l m xs ys r n w h hl hm hn
  induction d with
  | zero =>
    have h0 : (∀ (t : TypeId) (x y : NV) (v u : Value) (r : Bool) (n : Nat) (w : World), evEq P 0 t x y = some r → x.rel env v → y.rel env u → 0 ≤ n → (Op.equalIn n t v u).run P w = .ok r w) := by
      intro t x y v u r n w h; simp [evEq] at h
    exact ⟨h0, fields 0 h0⟩
  | succ d ih =>
    have h1 : (∀ (t : TypeId) (x y : NV) (v u : Value) (r : Bool) (n : Nat) (w : World), evEq P (d + 1) t x y = some r → x.rel env v → y.rel env u → d + 1 ≤ n → (Op.equalIn n t v u).run P w = .ok r w) := by
      intro t x y v u r n w h hx hy hn
      obtain ⟨n, rfl⟩ : ∃ k, n = k + 1 := ⟨n - 1, by omega⟩
      unfold evEq at h
      split at h
      · rename_i fs l m hu
        split at h
        · cases h
        · rename_i hs
          obtain ⟨xs, rfl, hl⟩ := hx
          obtain ⟨ys, rfl, hm⟩ := hy
          have hf : P.fieldsOf t = fs := by simp [Program.fieldsOf, hu]
          rw [run_equalIn_struct w n t xs ys (by rw [hf]; exact hu) (by simpa using hs), hf]
          exact ih.2 _ _ _ _ _ _ n w h hl hm (by omega)
      · rename_i u a b hu
        exact run_evEqCell hu h hx hy n w
      · cases h
    exact ⟨h1, fields _ h1⟩

def evBinAgg (P : Program) (op : BinOp) (t : TypeId) (l m : List At) : Option Bool :=
  if P.eqGuardType P.depth t then none else
  match op, evEq P 12 t (.agg l) (.agg m) with
  | .eql, some b => some b
  | .neq, some b => some (!b)
  | _, _ => none
theorem run_evBinAgg {P : Program} {env : Env} {op : BinOp} {t : TypeId} {l m : List At} {x y : Value} {r : Bool} (h : evBinAgg P op t l m = some r) (hl : NV.rel env (.agg l) x) (hm : NV.rel env (.agg m) y) (X Y : Operand) (w : World) :
    (do eqGuard op t X Y x y; binOp op t x y : Sem Value).run P w = .ok (.bool r) w := by
  unfold evBinAgg at h
  split at h
  · cases h
  rename_i hq
  obtain ⟨xs, rfl, hl'⟩ := hl
  obtain ⟨ys, rfl, hm'⟩ := hm
  rw [Sem.run_bind, run_eqGuard_agg w op t X Y xs ys (by simpa using hq), Result.andThen_ok]
  split at h
  · rename_i b hb
    simp only [Option.some.injEq] at h; subst h
    rw [run_eql_struct, (evEq_sound (env := env) 12).1 _ _ _ _ _ _ 10000 w hb ⟨xs, rfl, hl'⟩ ⟨ys, rfl, hm'⟩ (by omega)]
    rfl
  · rename_i b hb
    simp only [Option.some.injEq] at h; subst h
    rw [run_neq_struct, (evEq_sound (env := env) 12).1 _ _ _ _ _ _ 10000 w hb ⟨xs, rfl, hl'⟩ ⟨ys, rfl, hm'⟩ (by omega)]
    rfl
  · cases h
end E
end Go.Proofs.Ytlmeemilikladaa

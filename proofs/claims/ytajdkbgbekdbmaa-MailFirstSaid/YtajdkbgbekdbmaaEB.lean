/- What a reading of an argument says of its value, by the shape of its type. No condition. -/
import Derived.Test.YtajdkbgbekdbmaaE3
import Derived.ProofKit
import Derived.OpenShut
import Derived.Test.YtajdkbgbekdbmaaE9
namespace Go.Proofs.Ytajdkbgbekdbmaa
set_option linter.unusedVariables false
set_option linter.unusedSimpArgs false
open Go.RowKit

mutual
inductive Sh where
  | bool
  | int (k : IntKind)
  | str
  | agg (n : Nat) (ps : Shs)
  | slice (wd : Nat) (s : Sh)
inductive Shs where
  | nil
  | cons (off wd : Nat) (s : Sh) (r : Shs)
end

mutual
/-- The cells of a value of this shape, in a world. -/
def Reads (w : World) : Sh → List Value → Prop
  | .bool, cs => ∃ b, cs = [.bool b]
  | .int k, cs => ∃ n, cs = [.int k n] ∧ (Lit.int k n).wf = true
  | .str, cs => ∃ s : ByteArray, cs = [.string s] ∧ s.size ≤ maxLen
  | .agg n ps, cs => cs.length = n ∧ ReadsAll w ps cs
  | .slice wd s, cs => ∃ (ao : Option Addr) (len cap : Nat) (es : List (List Value)), cs = [.slice ao len cap] ∧ es.length = len ∧ len ≤ cap ∧ cap ≤ maxLen ∧ (ao = none → len = 0 ∧ cap = 0) ∧
      (∀ i e, es[i]? = some e → e.length = wd ∧ Reads w s e ∧ ∃ a, ao = some a ∧ ∀ j v, e[j]? = some v → w.cell? ((a.add (i * wd)).add j) = some v)
def ReadsAll (w : World) : Shs → List Value → Prop
  | .nil, _ => True
  | .cons off wd s r, cs => Reads w s ((cs.drop off).take wd) ∧ ReadsAll w r cs
end

mutual
/-- Does a type have a shape? -/
def fitsB (P : Program) : Sh → TypeId → Bool
  | .bool, t => match P.underlying t with | some .bool => true | _ => false
  | .int k, t => match P.underlying t with | some (.int k') => decide (k = k') | _ => false
  | .str, t => match P.underlying t with | some .string => true | _ => false
  | .agg n ps, t => match P.underlying t with
    | some (.struct fs) => decide (P.cellsOf t = n) && fitsFields P ps fs.toList
    | some (.array m e) => decide (P.cellsOf t = n) && fitsElems P ps 0 m e
    | _ => false
  | .slice wd s, t => match P.underlying t with | some (.slice e) => decide (P.cellsOf e = wd) && fitsB P s e | _ => false
def fitsFields (P : Program) : Shs → List Field → Bool
  | .nil, [] => true
  | .cons off wd s r, f :: fs => decide (f.offset = off) && decide (P.cellsOf f.type = wd) && fitsB P s f.type && fitsFields P r fs
  | _, _ => false
def fitsElems (P : Program) : Shs → Nat → Nat → TypeId → Bool
  | .nil, i, m, _ => decide (i = m)
  | .cons off wd s r, i, m, e => decide (off = i * P.cellsOf e) && decide (wd = P.cellsOf e) && decide (i < m) && fitsB P s e && fitsElems P r (i + 1) m e
end

section
variable {H : Type} {enc : TypeId × Value → H} {P : Program} {w : World}

theorem mapM_some {α β : Type} (f : α → Option β) : ∀ (l : List α) (ys : List β), l.mapM f = some ys → ys.length = l.length ∧ ∀ (i : Nat) (x : α), l[i]? = some x → f x = ys[i]? := by
  intro l
  induction l with
  | nil => intro ys h; simp at h; subst h; simp
  | cons a l ih =>
    intro ys h
    simp only [List.mapM_cons] at h
    cases ha : f a with
    | none => simp [ha] at h
    | some b =>
      cases hl : l.mapM f with
      | none => simp [ha, hl] at h
      | some bs =>
        simp [ha, hl] at h
        subst h
        obtain ⟨h1, h2⟩ := ih bs hl
        refine ⟨by simp [h1], ?_⟩
        intro i x hi
        cases i with
        | zero => simp at hi; subst hi; simpa using ha
        | succ i => simp at hi ⊢; exact h2 i x hi

theorem cells_some {a : Addr} {n : Nat} {e : List Value} (h : w.cells? 0 a n = some e) : e.length = n ∧ ∀ j v, e[j]? = some v → w.cell? (a.add j) = some v := by
  unfold World.cells? at h
  rw [if_pos (Nat.zero_le _)] at h
  obtain ⟨h1, h2⟩ := mapM_some _ _ _ h
  refine ⟨by simpa using h1, fun j v hj => ?_⟩
  have hlt : j < n := by
    have := (List.getElem?_eq_some_iff.1 hj).1
    simp at h1; omega
  have := h2 j j (by simp [hlt])
  rw [hj] at this
  exact this

mutual
theorem reads_of_trod : ∀ (s : Sh) (t : TypeId) (fuel : Nat) (cs : List Value) (x : DataW H × List MemPlace), fitsB P s t = true →
    DataW.trod enc P w 0 (fun _ => true) true fuel t cs = some x → Reads w s cs
  | .bool, t, fuel, cs, x, hf, h => by
    unfold fitsB at hf
    split at hf
    · rename_i ht
      cases fuel with
      | zero => simp [DataW.trod] at h
      | succ n =>
        unfold DataW.trod at h
        rw [ht] at h
        split at h <;> simp_all [Reads]
    · cases hf
  | .int k, t, fuel, cs, x, hf, h => by
    unfold fitsB at hf
    split at hf
    · rename_i k' ht
      have hk := of_decide_eq_true hf
      subst hk
      obtain ⟨n, e0, _, wf⟩ := DataW.trod_int ht h
      exact ⟨n, e0, wf⟩
    · cases hf
  | .str, t, fuel, cs, x, hf, h => by
    unfold fitsB at hf
    split at hf
    · rename_i ht
      cases fuel with
      | zero => simp [DataW.trod] at h
      | succ n =>
        unfold DataW.trod at h
        rw [ht] at h
        split at h <;> simp_all [Reads]
    · cases hf
  | .agg n ps, t, fuel, cs, x, hf, h => by
    unfold fitsB at hf
    split at hf
    · rename_i fs ht
      obtain ⟨hn, hp⟩ := Bool.and_eq_true_iff.1 hf
      obtain ⟨xs, m, _, _, hl, hz, he⟩ := DataW.trod_struct ht h
      refine ⟨hl.trans (of_decide_eq_true hn), ?_⟩
      exact reads_fields ps fs.toList m cs hp (fun f hfm => by
        obtain ⟨i, hi⟩ := List.mem_iff_getElem?.1 hfm
        have hi' : fs[i]? = some f := by simpa using hi
        have := he i f hi'
        have hlt : i < fs.size := by
          have := (Array.getElem?_eq_some_iff.1 hi').1
          exact this
        rw [List.getElem?_eq_getElem (by omega)] at this
        exact ⟨_, this⟩)
    · rename_i m e ht
      obtain ⟨hn, hp⟩ := Bool.and_eq_true_iff.1 hf
      obtain ⟨xs, k, _, _, hl, hz, he⟩ := Go.DataW.trod_array ht h
      refine ⟨hl.trans (of_decide_eq_true hn), ?_⟩
      exact reads_elems ps 0 m e k cs hp (fun i hi => by
        have := he i hi
        rw [List.getElem?_eq_getElem (by omega)] at this
        exact ⟨_, this⟩)
    · cases hf
  | .slice wd s, t, fuel, cs, x, hf, h => by
    unfold fitsB at hf
    split at hf
    · rename_i e ht
      obtain ⟨hw, hp⟩ := Bool.and_eq_true_iff.1 hf
      have hw := of_decide_eq_true hw
      rcases DataW.trod_slice ht h with ⟨rfl, _⟩ | ⟨a, len, cap, elems, rest, n, _, rfl, _, _, hl, hm, hlen, hel, _, _⟩
      · exact ⟨none, 0, 0, [], rfl, rfl, Nat.le_refl _, Nat.zero_le _, fun _ => ⟨rfl, rfl⟩, fun i e he => by simp at he⟩
      · have key : ∀ i, i < len → ∃ es, w.cells? 0 (a.add (i * wd)) wd = some es ∧ Reads w s es := by
          intro i hi
          have h1 := hel i hi
          rw [hw, List.getElem?_eq_getElem (by omega)] at h1
          cases hc : w.cells? 0 (a.add (i * wd)) wd with
          | none => rw [hc] at h1; cases h1
          | some es =>
            rw [hc] at h1
            exact ⟨es, rfl, reads_of_trod s e n es _ hp h1⟩
        refine ⟨some a, len, cap, (List.range len).map (fun i => ((w.cells? 0 (a.add (i * wd)) wd).getD [])), rfl, by simp, hl, hm, (fun h0 => by cases h0), fun i es hes => ?_⟩
        have hi : i < len := by
          have := (List.getElem?_eq_some_iff.1 hes).1
          simpa using this
        obtain ⟨es', hc, hr⟩ := key i hi
        simp [hi, hc] at hes
        subst hes
        obtain ⟨h1, h2⟩ := cells_some hc
        exact ⟨h1, hr, a, rfl, h2⟩
    · cases hf
theorem reads_fields : ∀ (ps : Shs) (fs : List Field) (fuel : Nat) (cs : List Value), fitsFields P ps fs = true →
    (∀ f ∈ fs, ∃ y, DataW.trod enc P w 0 (fun _ => true) true fuel f.type ((cs.drop f.offset).take (P.cellsOf f.type)) = some y) → ReadsAll w ps cs
  | .nil, _, _, _, _, _ => trivial
  | .cons off wd s r, [], _, _, hf, _ => by simp [fitsFields] at hf
  | .cons off wd s r, f :: fs, fuel, cs, hf, h => by
    simp only [fitsFields, Bool.and_eq_true, decide_eq_true_eq] at hf
    obtain ⟨⟨⟨h1, h2⟩, h3⟩, h4⟩ := hf
    obtain ⟨y, hy⟩ := h f (by simp)
    rw [h1, h2] at hy
    exact ⟨reads_of_trod s f.type fuel _ y h3 hy, reads_fields r fs fuel cs h4 (fun g hg => h g (by simp [hg]))⟩
theorem reads_elems : ∀ (ps : Shs) (i m : Nat) (e : TypeId) (fuel : Nat) (cs : List Value), fitsElems P ps i m e = true →
    (∀ j, j < m → ∃ y, DataW.trod enc P w 0 (fun _ => true) true fuel e ((cs.drop (j * P.cellsOf e)).take (P.cellsOf e)) = some y) → ReadsAll w ps cs
  | .nil, _, _, _, _, _, _, _ => trivial
  | .cons off wd s r, i, m, e, fuel, cs, hf, h => by
    simp only [fitsElems, Bool.and_eq_true, decide_eq_true_eq] at hf
    obtain ⟨⟨⟨⟨h1, h2⟩, h3⟩, h4⟩, h5⟩ := hf
    obtain ⟨y, hy⟩ := h i h3
    rw [← h1, ← h2] at hy
    exact ⟨reads_of_trod s e fuel _ y h4 hy, reads_elems r (i + 1) m e fuel cs h5 h⟩
end

theorem reads_of_Trod {s : Sh} {t : TypeId} {v : Value} {d : DataW H} {ps : List MemPlace} (hf : fitsB P s t = true) (h : DataW.Trod enc P w 0 (fun _ => true) true t v d ps) : Reads w s v.cells.toList := by
  obtain ⟨fuel, h⟩ := h
  exact reads_of_trod s t fuel _ _ hf h

theorem okWide_array {r : Reach} {base n : Nat} {e t : TypeId} {v : Value} (ht : P.underlying t = some (.array n e)) (h : Value.okWide P w r base t v) : ∃ cs, v = .agg cs ∧ cs.size = P.cellsOf t := by
  simp only [Value.okWide, ht] at h
  obtain ⟨cs, h1, h2, _⟩ := h
  exact ⟨cs, h1, h2⟩
end

theorem list1 {α : Type} {l : List α} (h : l.length = 1) : ∃ a, l = [a] := List.length_eq_one_iff.1 h
theorem list2 {α : Type} {l : List α} (h : l.length = 2) : ∃ a b, l = [a, b] := by
  match l, h with | [a, b], _ => exact ⟨a, b, rfl⟩
theorem list3 {α : Type} {l : List α} (h : l.length = 3) : ∃ a b c, l = [a, b, c] := by
  match l, h with | [a, b, c], _ => exact ⟨a, b, c, rfl⟩
theorem list4 {α : Type} {l : List α} (h : l.length = 4) : ∃ a b c d, l = [a, b, c, d] := by
  match l, h with | [a, b, c, d], _ => exact ⟨a, b, c, d, rfl⟩
theorem list5 {α : Type} {l : List α} (h : l.length = 5) : ∃ a b c d e, l = [a, b, c, d, e] := by
  match l, h with | [a, b, c, d, e], _ => exact ⟨a, b, c, d, e, rfl⟩
theorem list6 {α : Type} {l : List α} (h : l.length = 6) : ∃ a b c d e f, l = [a, b, c, d, e, f] := by
  match l, h with | [a, b, c, d, e, f], _ => exact ⟨a, b, c, d, e, f, rfl⟩

theorem wf_bd {k : IntKind} {n : Int} (h : (Lit.int k n).wf = true) : k.min ≤ n ∧ n ≤ k.max := by simpa [Lit.wf] using h
theorem wf_u8 {n : Int} (h : (Lit.int .u8 n).wf = true) : 0 ≤ n ∧ n ≤ 255 := wf_bd h
theorem wf_u16 {n : Int} (h : (Lit.int .u16 n).wf = true) : 0 ≤ n ∧ n ≤ 65535 := wf_bd h
theorem wf_u32 {n : Int} (h : (Lit.int .u32 n).wf = true) : 0 ≤ n ∧ n ≤ 4294967295 := wf_bd h
theorem wf_u64 {n : Int} (h : (Lit.int .u64 n).wf = true) : 0 ≤ n ∧ n ≤ 18446744073709551615 := wf_bd h
theorem wf_i64 {n : Int} (h : (Lit.int .i64 n).wf = true) : -9223372036854775808 ≤ n ∧ n ≤ 9223372036854775807 := wf_bd h
end Go.Proofs.Ytajdkbgbekdbmaa

/- What a reading of the arguments gives the symbolic run. No condition. -/
namespace Go.Proofs.Ytajdkbgbekdbmaa
set_option linter.unusedVariables false
set_option linter.unusedSimpArgs false
namespace E
open Go.RowKit

def noEnv : Env := fun _ => none

/-- A slice that came in. -/
theorem ro_seg {env : Env} {w : World} {h wd len cap : Nat} {ao : Option Addr} {es : List (List Value)} {G : Nat → List At} (he : env h = some (.slice ao len cap)) (hl : es.length = len) (hc : len ≤ cap) (hm : cap ≤ maxLen)
    (hn : ao = none → len = 0 ∧ cap = 0) (hes : ∀ i e, es[i]? = some e → e.length = wd ∧ ∃ a, ao = some a ∧ ∀ j v, e[j]? = some v → w.cell? ((a.add (i * wd)).add j) = some v)
    (hG : ∀ i e, es[i]? = some e → AllRel env (G i) e ∧ ∀ v ∈ e, v.oneCell' = true) : SegOk env w h (.ro wd len G) := by
  have hwd : ∀ (i : Nat) (e : List Value), es[i]? = some e → e.length = wd := fun i e q => (hes i e q).1
  have key : ∀ (l : List (List Value)), (∀ (i : Nat) (e : List Value), l[i]? = some e → e.length = wd) → l.flatten.length = l.length * wd ∧ ∀ i e, l[i]? = some e → (l.flatten.drop (i * wd)).take wd = e := by
    intro l
    induction l with
    | nil => intro _; exact ⟨by simp, fun i e q => by simp at q⟩
    | cons x l ih =>
      intro hx
      have h0 := hx 0 x (by simp)
      obtain ⟨i1, i2⟩ := ih (fun i e q => hx (i + 1) e (by simpa using q))
      refine ⟨by simp only [List.flatten_cons, List.length_append, List.length_cons, i1, h0, Nat.add_mul]; omega, fun i e q => ?_⟩
      cases i with
      | zero =>
        simp at q
        subst q
        simp only [List.flatten_cons, Nat.zero_mul, List.drop_zero]
        rw [List.take_append_of_le_length (by omega), List.take_of_length_le (by omega)]
      | succ i =>
        simp at q
        have := i2 i e q
        rw [List.flatten_cons, Nat.add_mul, Nat.one_mul, List.drop_append, List.drop_eq_nil_of_le (by omega), List.nil_append, h0, show i * wd + wd - wd = i * wd by omega]
        exact this
  obtain ⟨k1, k2⟩ := key es hwd
  refine ⟨ao, cap, es.flatten, he, hc, hm, hn, ⟨by rw [k1, hl], fun i hi => ?_, fun v hv => ?_⟩, fun i v hv => ?_⟩
  · have q : es[i]? = some (es[i]'(by omega)) := List.getElem?_eq_getElem (by omega)
    rw [k2 i _ q]
    exact (hG i _ q).1
  · obtain ⟨e, he', hv'⟩ := List.mem_flatten.1 hv
    obtain ⟨i, hi⟩ := List.mem_iff_getElem?.1 he'
    exact (hG i e hi).2 v hv'
  · have hi : i < es.flatten.length := (List.getElem?_eq_some_iff.1 hv).1
    have hwd0 : 0 < wd := by
      rcases Nat.eq_zero_or_pos wd with q | q
      · subst q; rw [k1] at hi; simp at hi
      · exact q
    have hq : i / wd < es.length := by rw [k1] at hi; exact Nat.div_lt_of_lt_mul (by rw [Nat.mul_comm]; exact hi)
    have q : es[i / wd]? = some (es[i / wd]'hq) := List.getElem?_eq_getElem hq
    obtain ⟨_, a, ea, hcell⟩ := hes _ _ q
    refine ⟨a, ea, ?_⟩
    have hmod : i % wd < wd := Nat.mod_lt _ hwd0
    have hj : (es[i / wd]'hq)[i % wd]? = some v := by
      rw [← k2 _ _ q, seg_get, if_pos hmod, Nat.mul_comm, Nat.div_add_mod]
      exact hv
    have := hcell _ _ hj
    rwa [add_add, Nat.mul_comm, Nat.div_add_mod] at this

def cellI (es : List (List Value)) (k j : Nat) : Int := match (es.getD k [])[j]? with | some (.int _ n) => n | _ => 0
def cellB (es : List (List Value)) (k j : Nat) : Bool := match (es.getD k [])[j]? with | some (.bool b) => b | _ => false
def cellS (es : List (List Value)) (k j : Nat) : ByteArray := match (es.getD k [])[j]? with | some (.string s) => s | _ => ⟨#[]⟩
theorem getD_some {α : Type} {l : List α} {k : Nat} {e d : α} (h : l[k]? = some e) : l.getD k d = e := by rw [List.getD_eq_getElem?_getD, h]; rfl
theorem getD_lt {α : Type} {l : List α} {k : Nat} (d : α) (h : k < l.length) : l[k]? = some (l.getD k d) := by rw [List.getD_eq_getElem?_getD, List.getElem?_eq_getElem h]; rfl
theorem noEnv_top {m : Nat} {v : Value} : ∀ h, [(Seg.gone)].length ≤ h → (noEnv.put 0 v) h = none := fun h hh => by
  simp at hh
  rw [Env.put_other _ (by omega)]; rfl
/-- One slice that came in: the memory of a run. -/
theorem one_ro {w : World} {wd len cap : Nat} {ao : Option Addr} {G : Nat → List At} (h : SegOk (noEnv.put 0 (.slice ao len cap)) w 0 (.ro wd len G)) : MemOk (noEnv.put 0 (.slice ao len cap)) [.ro wd len G] w w NoS := by
  refine ros_ok (fun k s hk => ?_) (fun k hk => ?_)
  · cases k with
    | zero => simp at hk; subst hk; exact ⟨h, rfl⟩
    | succ k => simp at hk
  · simp at hk
    rw [Env.put_other _ (by omega)]; rfl
/-! rows of any flat shape -/
def cI (e : List Value) (j : Nat) : Int := match e[j]? with | some (.int _ n) => n | _ => 0
def cB (e : List Value) (j : Nat) : Bool := match e[j]? with | some (.bool b) => b | _ => false
def cS (e : List Value) (j : Nat) : ByteArray := match e[j]? with | some (.string s) => s | _ => ⟨#[]⟩
def cA (e : List Value) (j : Nat) : Option Addr := match e[j]? with | some (.slice a _ _) => a | _ => none
def cL (e : List Value) (j : Nat) : Nat := match e[j]? with | some (.slice _ n _) => n | _ => 0
def cC (e : List Value) (j : Nat) : Nat := match e[j]? with | some (.slice _ _ c) => c | _ => 0
def cellAt : Sh → List Value → Nat → At
  | .int k, e, j => .val (.int k (cI e j))
  | .bool, e, j => .val (.bool (cB e j))
  | .str, e, j => .val (.string (cS e j))
  | .slice _ _, e, j => .val (.slice (cA e j) (cL e j) (cC e j))
  | .agg _ _, _, _ => .any
def wfCell : Sh → List Value → Nat → Prop
  | .int k, e, j => k.min ≤ cI e j ∧ cI e j ≤ k.max
  | .str, e, j => (cS e j).size ≤ maxLen
  | _, _, _ => True
def isAggSh : Sh → Bool
  | .agg _ _ => true
  | _ => false
def flatB : Shs → Nat → Bool
  | .nil, _ => true
  | .cons off wd s r, j => Nat.beq off j && Nat.beq wd 1 && !isAggSh s && flatB r (j + 1)
def lenShs : Shs → Nat
  | .nil => 0
  | .cons _ _ _ r => lenShs r + 1
def rowAts : Shs → Nat → List Value → List At
  | .nil, _, _ => []
  | .cons _ _ s r, j, e => cellAt s e j :: rowAts r (j + 1) e
def wfRow : Shs → Nat → List Value → Prop
  | .nil, _, _ => True
  | .cons _ _ s r, j, e => wfCell s e j ∧ wfRow r (j + 1) e
theorem cell_reads {env : Env} {w : World} {s : Sh} {e : List Value} {j : Nat} {u : Value} (hs : isAggSh s = false) (he : e[j]? = some u) (h : Reads w s [u]) : (cellAt s e j).rel env u ∧ wfCell s e j ∧ u.oneCell' = true := by
  cases s with
  | bool =>
    obtain ⟨b, q⟩ := h
    obtain rfl : u = .bool b := by simpa using q
    exact ⟨by simp [cellAt, cB, he, At.rel], trivial, rfl⟩
  | int k =>
    obtain ⟨n, q, hw⟩ := h
    obtain rfl : u = .int k n := by simpa using q
    exact ⟨by simp [cellAt, cI, he, At.rel], by simp only [wfCell, cI, he]; exact wf_bd hw, rfl⟩
  | str =>
    obtain ⟨s, q, hw⟩ := h
    obtain rfl : u = .string s := by simpa using q
    exact ⟨by simp [cellAt, cS, he, At.rel], by simp only [wfCell, cS, he]; exact hw, rfl⟩
  | agg n ps => cases hs
  | slice wd s =>
    obtain ⟨ao, len, cap, es, q, _⟩ := h
    obtain rfl : u = .slice ao len cap := by simpa using q
    exact ⟨by simp [cellAt, cA, cL, cC, he, At.rel], trivial, rfl⟩
theorem row_reads_all {env : Env} {w : World} {e : List Value} : ∀ {ps : Shs} {j : Nat}, flatB ps j = true → e.length = j + lenShs ps → ReadsAll w ps e → AllRel env (rowAts ps j e) (e.drop j) ∧ wfRow ps j e ∧ ∀ u ∈ e.drop j, u.oneCell' = true
  | .nil, j, _, hl, _ => by
    rw [List.drop_eq_nil_of_le (by simp [lenShs] at hl; omega)]
    exact ⟨trivial, trivial, fun u hu => by cases hu⟩
  | .cons off wd s r, j, hf, hl, h => by
    simp only [flatB, Bool.and_eq_true, Bool.not_eq_true'] at hf
    obtain ⟨⟨⟨f1, f2⟩, f3⟩, f4⟩ := hf
    have f1 := Nat.eq_of_beq_eq_true f1
    have f2 := Nat.eq_of_beq_eq_true f2
    subst f1; subst f2
    simp only [lenShs] at hl
    have hlt : off < e.length := by omega
    obtain ⟨h1, h2⟩ := h
    rw [List.drop_eq_getElem_cons hlt] at h1 ⊢
    obtain ⟨a1, a2, a3⟩ := cell_reads (env := env) f3 (List.getElem?_eq_getElem hlt) (show Reads w s [e[off]] from h1)
    obtain ⟨b1, b2, b3⟩ := row_reads_all (env := env) f4 (by omega) h2
    exact ⟨⟨a1, b1⟩, ⟨a2, b2⟩, fun u hu => by
      rcases List.mem_cons.1 hu with q | q
      · rw [q]; exact a3
      · exact b3 u q⟩
/-- A slice that came in, of structs of flat shape. -/
theorem rows_seg {env : Env} {w : World} {h n : Nat} {ps : Shs} {ao : Option Addr} {len cap : Nat} (he : env h = some (.slice ao len cap)) (hf : flatB ps 0 = true) (hn : n = lenShs ps) (hr : Reads w (.slice n (.agg n ps)) [.slice ao len cap]) :
    ∃ es : Nat → List Value, (∀ k, k < len → wfRow ps 0 (es k)) ∧ SegOk env w h (.ro n len (fun k => rowAts ps 0 (es k))) := by
  obtain ⟨ao', len', cap', es, e0, h1, h2, h3, h4, h5⟩ := hr
  simp only [List.cons.injEq, Value.slice.injEq, and_true] at e0
  obtain ⟨rfl, rfl, rfl⟩ := e0
  have key : ∀ i e, es[i]? = some e → AllRel env (rowAts ps 0 e) e ∧ wfRow ps 0 e ∧ ∀ u ∈ e, u.oneCell' = true := fun i e q => by
    obtain ⟨k1, k2, k3⟩ := h5 i e q
    obtain ⟨k4, k5⟩ := k2
    have := row_reads_all (env := env) (w := w) (e := e) hf (by omega) k5
    simpa using this
  refine ⟨fun k => es.getD k [], fun k hk => (key k _ (getD_lt [] (by omega))).2.1, ro_seg he h1 h2 h3 h4 (fun i e q => ⟨(h5 i e q).1, (h5 i e q).2.2⟩) (fun i e q => ?_)⟩
  have := getD_some (d := []) q
  simp only [this]
  exact ⟨(key i e q).1, (key i e q).2.2⟩
/-- .. of plain values. -/
theorem vals_seg {env : Env} {w : World} {h : Nat} {s : Sh} {ao : Option Addr} {len cap : Nat} (he : env h = some (.slice ao len cap)) (hs : isAggSh s = false) (hr : Reads w (.slice 1 s) [.slice ao len cap]) :
    ∃ es : Nat → List Value, (∀ k, k < len → wfCell s (es k) 0) ∧ SegOk env w h (.ro 1 len (fun k => [cellAt s (es k) 0])) := by
  obtain ⟨ao', len', cap', es, e0, h1, h2, h3, h4, h5⟩ := hr
  simp only [List.cons.injEq, Value.slice.injEq, and_true] at e0
  obtain ⟨rfl, rfl, rfl⟩ := e0
  have key : ∀ i e, es[i]? = some e → AllRel env [cellAt s e 0] e ∧ wfCell s e 0 ∧ ∀ u ∈ e, u.oneCell' = true := fun i e q => by
    obtain ⟨k1, k2, k3⟩ := h5 i e q
    obtain ⟨u, rfl⟩ := list1 k1
    obtain ⟨a1, a2, a3⟩ := cell_reads (env := env) (e := [u]) (j := 0) hs rfl k2
    exact ⟨⟨a1, trivial⟩, a2, by simpa using a3⟩
  refine ⟨fun k => es.getD k [], fun k hk => (key k _ (getD_lt [] (by omega))).2.1, ro_seg he h1 h2 h3 h4 (fun i e q => ⟨(h5 i e q).1, (h5 i e q).2.2⟩) (fun i e q => ?_)⟩
  have := getD_some (d := []) q
  simp only [this]
  exact ⟨(key i e q).1, (key i e q).2.2⟩
/-- Two slices that came in: the memory of a run. -/
def env2 (a b : Value) : Env := (noEnv.put 0 a).put 1 b
theorem env2_0 (a b : Value) : env2 a b 0 = some a := by unfold env2; rw [Env.put_other _ (by omega)]; exact Env.put_same _ _
theorem env2_1 (a b : Value) : env2 a b 1 = some b := Env.put_same _ _
theorem two_ro {w : World} {a b : Value} {wd wd' n n' : Nat} {g g' : Nat → List At} (h : SegOk (env2 a b) w 0 (.ro wd n g)) (h' : SegOk (env2 a b) w 1 (.ro wd' n' g')) : MemOk (env2 a b) [.ro wd n g, .ro wd' n' g'] w w NoS := by
  refine ros_ok (fun k s hk => ?_) (fun k hk => ?_)
  · match k, hk with
    | 0, hk => simp at hk; subst hk; exact ⟨h, rfl⟩
    | 1, hk => simp at hk; subst hk; exact ⟨h', rfl⟩
    | k + 2, hk => simp at hk
  · simp at hk
    unfold env2
    rw [Env.put_other _ (by omega), Env.put_other _ (by omega)]; rfl
end E
end Go.Proofs.Ytajdkbgbekdbmaa

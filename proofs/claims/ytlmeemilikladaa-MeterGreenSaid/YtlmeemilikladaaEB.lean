/- What a reading of an argument says of its value, by the shape of its type. No condition. -/
import Derived.Test.YtlmeemilikladaaE3
import Derived.ProofKit
import Derived.OpenShut
import Derived.Test.YtlmeemilikladaaE9
namespace Go.Proofs.Ytlmeemilikladaa
set_option linter.unusedVariables false
set_option linter.unusedSimpArgs false
open Go.RowKit

mutual
inductive Sh where
  | bool
  | int (k : IntKind)
  | str
  | agg (n : Nat) (ps : Shs)
  | slice (wd : Nat) (s : Sh)
inductive Shs where
  | nil
  | cons (off wd : Nat) (s : Sh) (r : Shs)
end

mutual
/-- The cells of a value of this shape, in a world. -/
def Reads (w : World) : Sh → List Value → Prop
  | .bool, cs => ∃ b, cs = [.bool b]
  | .int k, cs => ∃ n, cs = [.int k n] ∧ (Lit.int k n).wf = true
  | .str, cs => ∃ s : ByteArray, cs = [.string s] ∧ s.size ≤ maxLen
  | .agg n ps, cs => cs.length = n ∧ ReadsAll w ps cs
  | .slice wd s, cs => ∃ (ao : Option Addr) (len cap : Nat) (es : List (List Value)), cs = [.slice ao len cap] ∧ es.length = len ∧ len ≤ cap ∧ cap ≤ maxLen ∧ (ao = none → len = 0 ∧ cap = 0) ∧
      (∀ i e, es[i]? = some e → e.length = wd ∧ Reads w s e ∧ ∃ a, ao = some a ∧ ∀ j v, e[j]? = some v → w.cell? ((a.add (i * wd)).add j) = some v)
def ReadsAll (w : World) : Shs → List Value → Prop
  | .nil, _ => True
  | .cons off wd s r, cs => Reads w s ((cs.drop off).take wd) ∧ ReadsAll w r cs
end

mutual
/-- Does a type have a shape? -/
def fitsB (P : Program) : Sh → TypeId → Bool
  | .bool, t => match P.underlying t with | some .bool => true | _ => false
  | .int k, t => match P.underlying t with | some (.int k') => decide (k = k') | _ => false
  | .str, t => match P.underlying t with | some .string => true | _ => false
  | .agg n ps, t => match P.underlying t with
    | some (.struct fs) => decide (P.cellsOf t = n) && fitsFields P ps fs.toList
    | some (.array m e) => decide (P.cellsOf t = n) && fitsElems P ps 0 m e
    | _ => false
  | .slice wd s, t => match P.underlying t with | some (.slice e) => decide (P.cellsOf e = wd) && fitsB P s e | _ => false
def fitsFields (P : Program) : Shs → List Field → Bool
  | .nil, [] => true
  | .cons off wd s r, f :: fs => decide (f.offset = off) && decide (P.cellsOf f.type = wd) && fitsB P s f.type && fitsFields P r fs
  | _, _ => false
def fitsElems (P : Program) : Shs → Nat → Nat → TypeId → Bool
  | .nil, i, m, _ => decide (i = m)
  | .cons off wd s r, i, m, e => decide (off = i * P.cellsOf e) && decide (wd = P.cellsOf e) && decide (i < m) && fitsB P s e && fitsElems P r (i + 1) m e
end

section
variable {H : Type} {enc : TypeId × Value → H} {P : Program} {w : World}

theorem mapM_some {α β : Type} (f : α → Option β) : ∀ (l : List α) (ys : List β), l.mapM f = some ys → ys.length = l.length ∧ ∀ (i : Nat) (x : α), l[i]? = some x → f x = ys[i]? := by
  intro l
  induction l with
  | nil => intro ys h; simp at h; subst h; simp
  | cons a l ih =>
    intro ys h
    simp only [List.mapM_cons] at h
    cases ha : f a with
    | none => simp [ha] at h
    | some b =>
      cases hl : l.mapM f with
      | none => simp [ha, hl] at h
      | some bs =>
        simp [ha, hl] at h
        subst h
        obtain ⟨h1, h2⟩ := ih bs hl
        refine ⟨by simp [h1], ?_⟩
        intro i x hi
        cases i with
        | zero => simp at hi; subst hi; simpa using ha
        | succ i => simp at hi ⊢; exact h2 i x hi

theorem cells_some {a : Addr} {n : Nat} {e : List Value} (h : w.cells? 0 a n = some e) : e.length = n ∧ ∀ j v, e[j]? = some v → w.cell? (a.add j) = some v := by
  unfold World.cells? at h
  rw [if_pos (Nat.zero_le _)] at h
  obtain ⟨h1, h2⟩ := mapM_some _ _ _ h
  refine ⟨by simpa using h1, fun j v hj => ?_⟩
  have hlt : j < n := by
    have := (List.getElem?_eq_some_iff.1 hj).1
    simp at h1; omega
  have := h2 j j (by simp [hlt])
  rw [hj] at this
  exact this

mutual
theorem reads_of_trod : ∀ (s : Sh) (t : TypeId) (fuel : Nat) (cs : List Value) (x : DataW H × List MemPlace), fitsB P s t = true →
    DataW.trod enc P w 0 (fun _ => true) true fuel t cs = some x → Reads w s cs
  | .bool, t, fuel, cs, x, hf, h => by
    unfold fitsB at hf
    split at hf
    · rename_i ht
      cases fuel with
      | zero => simp [DataW.trod] at h
      | succ n =>
        unfold DataW.trod at h
        rw [ht] at h
        split at h <;> simp_all [Reads]
    · cases hf
  | .int k, t, fuel, cs, x, hf, h => by
    unfold fitsB at hf
    split at hf
    · rename_i k' ht
      have hk := of_decide_eq_true hf
      subst hk
      obtain ⟨n, e0, _, wf⟩ := DataW.trod_int ht h
      exact ⟨n, e0, wf⟩
    · cases hf
  | .str, t, fuel, cs, x, hf, h => by
    unfold fitsB at hf
    split at hf
    · rename_i ht
      cases fuel with
      | zero => simp [DataW.trod] at h
      | succ n =>
        unfold DataW.trod at h
        rw [ht] at h
        split at h <;> simp_all [Reads]
    · cases hf
  | .agg n ps, t, fuel, cs, x, hf, h => by
    unfold fitsB at hf
    split at hf
    · rename_i fs ht
      obtain ⟨hn, hp⟩ := Bool.and_eq_true_iff.1 hf
      obtain ⟨xs, m, _, _, hl, hz, he⟩ := DataW.trod_struct ht h
      refine ⟨hl.trans (of_decide_eq_true hn), ?_⟩
      exact reads_fields ps fs.toList m cs hp (fun f hfm => by
        obtain ⟨i, hi⟩ := List.mem_iff_getElem?.1 hfm
        have hi' : fs[i]? = some f := by simpa using hi
        have := he i f hi'
        have hlt : i < fs.size := by
          have := (Array.getElem?_eq_some_iff.1 hi').1
          exact this
        rw [List.getElem?_eq_getElem (by omega)] at this
        exact ⟨_, this⟩)
    · rename_i m e ht
      obtain ⟨hn, hp⟩ := Bool.and_eq_true_iff.1 hf
      obtain ⟨xs, k, _, _, hl, hz, he⟩ := Go.DataW.trod_array ht h
      refine ⟨hl.trans (of_decide_eq_true hn), ?_⟩
      exact reads_elems ps 0 m e k cs hp (fun i hi => by
        have := he i hi
        rw [List.getElem?_eq_getElem (by omega)] at this
        exact ⟨_, this⟩)
    · cases hf
  | .slice wd s, t, fuel, cs, x, hf, h => by
    unfold fitsB at hf
    split at hf
    · rename_i e ht
      obtain ⟨hw, hp⟩ := Bool.and_eq_true_iff.1 hf
      have hw := of_decide_eq_true hw
      rcases DataW.trod_slice ht h with ⟨rfl, _⟩ | ⟨a, len, cap, elems, rest, n, _, rfl, _, _, hl, hm, hlen, hel, _, _⟩
      · exact ⟨none, 0, 0, [], rfl, rfl, Nat.le_refl _, Nat.zero_le _, fun _ => ⟨rfl, rfl⟩, fun i e he => by simp at he⟩
      · have key : ∀ i, i < len → ∃ es, w.cells? 0 (a.add (i * wd)) wd = some es ∧ Reads w s es := by
          intro i hi
          have h1 := hel i hi
          rw [hw, List.getElem?_eq_getElem (by omega)] at h1
          cases hc : w.cells? 0 (a.add (i * wd)) wd with
          | none => rw [hc] at h1; cases h1
          | some es =>
            rw [hc] at h1
            exact ⟨es, rfl, reads_of_trod s e n es _ hp h1⟩
        refine ⟨some a, len, cap, (List.range len).map (fun i => ((w.cells? 0 (a.add (i * wd)) wd).getD [])), rfl, by simp, hl, hm, (fun h0 => by cases h0), fun i es hes => ?_⟩
        have hi : i < len := by
          have := (List.getElem?_eq_some_iff.1 hes).1
          simpa using this
        obtain ⟨es', hc, hr⟩ := key i hi
        simp [hi, hc] at hes
        subst hes
        obtain ⟨h1, h2⟩ := cells_some hc
        exact ⟨h1, hr, a, rfl, h2⟩
    · cases hf
theorem reads_fields : ∀ (ps : Shs) (fs : List Field) (fuel : Nat) (cs : List Value), fitsFields P ps fs = true →
    (∀ f ∈ fs, ∃ y, DataW.trod enc P w 0 (fun _ => true) true fuel f.type ((cs.drop f.offset).take (P.cellsOf f.type)) = some y) → ReadsAll w ps cs
  | .nil, _, _, _, _, _ => trivial
  | .cons off wd s r, [], _, _, hf, _ => by simp [fitsFields] at hf
  | .cons off wd s r, f :: fs, fuel, cs, hf, h => by
    simp only [fitsFields, Bool.and_eq_true, decide_eq_true_eq] at hf
    obtain ⟨⟨⟨h1, h2⟩, h3⟩, h4⟩ := hf
    obtain ⟨y, hy⟩ := h f (by simp)
    rw [h1, h2] at hy
    exact ⟨reads_of_trod s f.type fuel _ y h3 hy, reads_fields r fs fuel cs h4 (fun g hg => h g (by simp [hg]))⟩
theorem reads_elems : ∀ (ps : Shs) (i m : Nat) (e : TypeId) (fuel : Nat) (cs : List Value), fitsElems P ps i m e = true →
    (∀ j, j < m → ∃ y, DataW.trod enc P w 0 (fun _ => true) true fuel e ((cs.drop (j * P.cellsOf e)).take (P.cellsOf e)) = some y) → ReadsAll w ps cs
  | .nil, _, _, _, _, _, _, _ => trivial
  | .cons off wd s r, i, m, e, fuel, cs, hf, h => by
    simp only [fitsElems, Bool.and_eq_true, decide_eq_true_eq] at hf
    obtain ⟨⟨⟨⟨h1, h2⟩, h3⟩, h4⟩, h5⟩ := hf
    obtain ⟨y, hy⟩ := h i h3
    rw [← h1, ← h2] at hy
    exact ⟨reads_of_trod s e fuel _ y h4 hy, reads_elems r (i + 1) m e fuel cs h5 h⟩
end

theorem reads_of_Trod {s : Sh} {t : TypeId} {v : Value} {d : DataW H} {ps : List MemPlace} (hf : fitsB P s t = true) (h : DataW.Trod enc P w 0 (fun _ => true) true t v d ps) : Reads w s v.cells.toList := by
  obtain ⟨fuel, h⟩ := h
  exact reads_of_trod s t fuel _ _ hf h

theorem okWide_array {r : Reach} {base n : Nat} {e t : TypeId} {v : Value} (ht : P.underlying t = some (.array n e)) (h : Value.okWide P w r base t v) : ∃ cs, v = .agg cs ∧ cs.size = P.cellsOf t := by
  simp only [Value.okWide, ht] at h
  obtain ⟨cs, h1, h2, _⟩ := h
  exact ⟨cs, h1, h2⟩
end

theorem list1 {α : Type} {l : List α} (h : l.length = 1) : ∃ a, l = [a] := List.length_eq_one_iff.1 h
theorem list2 {α : Type} {l : List α} (h : l.length = 2) : ∃ a b, l = [a, b] := by
  match l, h with | [a, b], _ => exact ⟨a, b, rfl⟩
theorem list3 {α : Type} {l : List α} (h : l.length = 3) : ∃ a b c, l = [a, b, c] := by
  match l, h with | [a, b, c], _ => exact ⟨a, b, c, rfl⟩
theorem list4 {α : Type} {l : List α} (h : l.length = 4) : ∃ a b c d, l = [a, b, c, d] := by
  match l, h with | [a, b, c, d], _ => exact ⟨a, b, c, d, rfl⟩
theorem list5 {α : Type} {l : List α} (h : l.length = 5) : ∃ a b c d e, l = [a, b, c, d, e] := by
  match l, h with | [a, b, c, d, e], _ => exact ⟨a, b, c, d, e, rfl⟩
theorem list6 {α : Type} {l : List α} (h : l.length = 6) : ∃ a b c d e f, l = [a, b, c, d, e, f] := by
  match l, h with | [a, b, c, d, e, f], _ => exact ⟨a, b, c, d, e, f, rfl⟩

theorem wf_bd {k : IntKind} {n : Int} (h : (Lit.int k n).wf = true) : k.min ≤ n ∧ n ≤ k.max := by simpa [Lit.wf] using h
theorem wf_u8 {n : Int} (h : (Lit.int .u8 n).wf = true) : 0 ≤ n ∧ n ≤ 255 := wf_bd h
theorem wf_u16 {n : Int} (h : (Lit.int .u16 n).wf = true) : 0 ≤ n ∧ n ≤ 65535 := wf_bd h
theorem wf_u32 {n : Int} (h : (Lit.int .u32 n).wf = true) : 0 ≤ n ∧ n ≤ 4294967295 := wf_bd h
theorem wf_u64 {n : Int} (h : (Lit.int .u64 n).wf = true) : 0 ≤ n ∧ n ≤ 18446744073709551615 := wf_bd h
theorem wf_i64 {n : Int} (h : (Lit.int .i64 n).wf = true) : -9223372036854775808 ≤ n ∧ n ≤ 9223372036854775807 := wf_bd h
end Go.Proofs.Ytlmeemilikladaa

/- What a reading of the arguments gives the symbolic run. No condition. -/
namespace Go.Proofs.Ytlmeemilikladaa
set_option linter.unusedVariables false
set_option linter.unusedSimpArgs false
namespace E
open Go.RowKit

def noEnv : Env := fun _ => none

/-- A slice that came in. -/
theorem ro_seg {env : Env} {w : World} {h wd len cap : Nat} {ao : Option Addr} {es : List (List Value)} {G : Nat → List At} (he : env h = some (.slice ao len cap)) (hl : es.length = len) (hc : len ≤ cap) (hm : cap ≤ maxLen)
    (hn : ao = none → len = 0 ∧ cap = 0) (hes : ∀ i e, es[i]? = some e → e.length = wd ∧ ∃ a, ao = some a ∧ ∀ j v, e[j]? = some v → w.cell? ((a.add (i * wd)).add j) = some v)
    (hG : ∀ i e, es[i]? = some e → AllRel env (G i) e ∧ ∀ v ∈ e, v.oneCell' = true) : SegOk env w h (.ro wd len G) := by
  have hwd : ∀ (i : Nat) (e : List Value), es[i]? = some e → e.length = wd := fun i e q => (hes i e q).1
  have key : ∀ (l : List (List Value)), (∀ (i : Nat) (e : List Value), l[i]? = some e → e.length = wd) → l.flatten.length = l.length * wd ∧ ∀ i e, l[i]? = some e → (l.flatten.drop (i * wd)).take wd = e := by
    intro l
    induction l with
    | nil => intro _; exact ⟨by simp, fun i e q => by simp at q⟩
    | cons x l ih =>
      intro hx
      have h0 := hx 0 x (by simp)
      obtain ⟨i1, i2⟩ := ih (fun i e q => hx (i + 1) e (by simpa using q))
      refine ⟨by simp only [List.flatten_cons, List.length_append, List.length_cons, i1, h0, Nat.add_mul]; omega, fun i e q => ?_⟩
      cases i with
      | zero =>
        simp at q
        subst q
        simp only [List.flatten_cons, Nat.zero_mul, List.drop_zero]
        rw [List.take_append_of_le_length (by omega), List.take_of_length_le (by omega)]
      | succ i =>
        simp at q
        have := i2 i e q
        rw [List.flatten_cons, Nat.add_mul, Nat.one_mul, List.drop_append, List.drop_eq_nil_of_le (by omega), List.nil_append, h0, show i * wd + wd - wd = i * wd by omega]
        exact this
  obtain ⟨k1, k2⟩ := key es hwd
  refine ⟨ao, cap, es.flatten, he, hc, hm, hn, ⟨by rw [k1, hl], fun i hi => ?_, fun v hv => ?_⟩, fun i v hv => ?_⟩
  · have q : es[i]? = some (es[i]'(by omega)) := List.getElem?_eq_getElem (by omega)
    rw [k2 i _ q]
    exact (hG i _ q).1
  · obtain ⟨e, he', hv'⟩ := List.mem_flatten.1 hv
    obtain ⟨i, hi⟩ := List.mem_iff_getElem?.1 he'
    exact (hG i e hi).2 v hv'
  · have hi : i < es.flatten.length := (List.getElem?_eq_some_iff.1 hv).1
    have hwd0 : 0 < wd := by
      rcases Nat.eq_zero_or_pos wd with q | q
      · subst q; rw [k1] at hi; simp at hi
      · exact q
    have hq : i / wd < es.length := by rw [k1] at hi; exact Nat.div_lt_of_lt_mul (by rw [Nat.mul_comm]; exact hi)
    have q : es[i / wd]? = some (es[i / wd]'hq) := List.getElem?_eq_getElem hq
    obtain ⟨_, a, ea, hcell⟩ := hes _ _ q
    refine ⟨a, ea, ?_⟩
    have hmod : i % wd < wd := Nat.mod_lt _ hwd0
    have hj : (es[i / wd]'hq)[i % wd]? = some v := by
      rw [← k2 _ _ q, seg_get, if_pos hmod, Nat.mul_comm, Nat.div_add_mod]
      exact hv
    have := hcell _ _ hj
    rwa [add_add, Nat.mul_comm, Nat.div_add_mod] at this

def cellI (es : List (List Value)) (k j : Nat) : Int := match (es.getD k [])[j]? with | some (.int _ n) => n | _ => 0
def cellB (es : List (List Value)) (k j : Nat) : Bool := match (es.getD k [])[j]? with | some (.bool b) => b | _ => false
def cellS (es : List (List Value)) (k j : Nat) : ByteArray := match (es.getD k [])[j]? with | some (.string s) => s | _ => ⟨#[]⟩
theorem getD_some {α : Type} {l : List α} {k : Nat} {e d : α} (h : l[k]? = some e) : l.getD k d = e := by rw [List.getD_eq_getElem?_getD, h]; rfl
theorem getD_lt {α : Type} {l : List α} {k : Nat} (d : α) (h : k < l.length) : l[k]? = some (l.getD k d) := by rw [List.getD_eq_getElem?_getD, List.getElem?_eq_getElem h]; rfl
theorem noEnv_top {m : Nat} {v : Value} : ∀ h, [(Seg.gone)].length ≤ h → (noEnv.put 0 v) h = none := fun h hh => by
  simp at hh
  rw [Env.put_other _ (by omega)]; rfl
/-- One slice that came in: the memory of a run. -/
theorem one_ro {w : World} {wd len cap : Nat} {ao : Option Addr} {G : Nat → List At} (h : SegOk (noEnv.put 0 (.slice ao len cap)) w 0 (.ro wd len G)) : MemOk (noEnv.put 0 (.slice ao len cap)) [.ro wd len G] w w NoS := by
  refine ros_ok (fun k s hk => ?_) (fun k hk => ?_)
  · cases k with
    | zero => simp at hk; subst hk; exact ⟨h, rfl⟩
    | succ k => simp at hk
  · simp at hk
    rw [Env.put_other _ (by omega)]; rfl
end E
end Go.Proofs.Ytlmeemilikladaa

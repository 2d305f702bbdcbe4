/- What a reading of the arguments gives the symbolic run. No condition. -/
import Derived.Test.YtlmeemilikladaaE9
import Derived.Test.YtlmeemilikladaaB1
namespace Go.Proofs.Ytlmeemilikladaa
set_option linter.unusedVariables false
set_option linter.unusedSimpArgs false
namespace E
open Go.RowKit

def noEnv : Env := fun _ => none

/-- A slice that came in. -/
theorem ro_seg {env : Env} {w : World} {h wd len cap : Nat} {ao : Option Addr} {es : List (List Value)} {G : Nat → List At} (he : env h = some (.slice ao len cap)) (hl : es.length = len) (hc : len ≤ cap) (hm : cap ≤ maxLen)
    (hn : ao = none → len = 0 ∧ cap = 0) (hes : ∀ i e, es[i]? = some e → e.length = wd ∧ ∃ a, ao = some a ∧ ∀ j v, e[j]? = some v → w.cell? ((a.add (i * wd)).add j) = some v)
    (hG : ∀ i e, es[i]? = some e → AllRel env (G i) e ∧ ∀ v ∈ e, v.oneCell' = true) : SegOk env w h (.ro wd len G) := by
  have hwd : ∀ (i : Nat) (e : List Value), es[i]? = some e → e.length = wd := fun i e q => (hes i e q).1
  have key : ∀ (l : List (List Value)), (∀ (i : Nat) (e : List Value), l[i]? = some e → e.length = wd) → l.flatten.length = l.length * wd ∧ ∀ i e, l[i]? = some e → (l.flatten.drop (i * wd)).take wd = e := by
    intro l
    induction l with
    | nil => intro _; exact ⟨by simp, fun i e q => by simp at q⟩
    | cons x l ih =>
      intro hx
      have h0 := hx 0 x (by simp)
      obtain ⟨i1, i2⟩ := ih (fun i e q => hx (i + 1) e (by simpa using q))
      refine ⟨by simp only [List.flatten_cons, List.length_append, List.length_cons, i1, h0, Nat.add_mul]; omega, fun i e q => ?_⟩
      cases i with
      | zero =>
        simp at q
        subst q
        simp only [List.flatten_cons, Nat.zero_mul, List.drop_zero]
        rw [List.take_append_of_le_length (by omega), List.take_of_length_le (by omega)]
      | succ i =>
        simp at q
        have := i2 i e q
        rw [List.flatten_cons, Nat.add_mul, Nat.one_mul, List.drop_append, List.drop_eq_nil_of_le (by omega), List.nil_append, h0, show i * wd + wd - wd = i * wd by omega]
        exact this
  obtain ⟨k1, k2⟩ := key es hwd
  refine ⟨ao, cap, es.flatten, he, hc, hm, hn, ⟨by rw [k1, hl], fun i hi => ?_, fun v hv => ?_⟩, fun i v hv => ?_⟩
  · have q : es[i]? = some (es[i]'(by omega)) := List.getElem?_eq_getElem (by omega)
    rw [k2 i _ q]
    exact (hG i _ q).1
  · obtain ⟨e, he', hv'⟩ := List.mem_flatten.1 hv
    obtain ⟨i, hi⟩ := List.mem_iff_getElem?.1 he'
    exact (hG i e hi).2 v hv'
  · have hi : i < es.flatten.length := (List.getElem?_eq_some_iff.1 hv).1
    have hwd0 : 0 < wd := by
      rcases Nat.eq_zero_or_pos wd with q | q
      · subst q; rw [k1] at hi; simp at hi
      · exact q
    have hq : i / wd < es.length := by rw [k1] at hi; exact Nat.div_lt_of_lt_mul (by rw [Nat.mul_comm]; exact hi)
    have q : es[i / wd]? = some (es[i / wd]'hq) := List.getElem?_eq_getElem hq
    obtain ⟨_, a, ea, hcell⟩ := hes _ _ q
    refine ⟨a, ea, ?_⟩
    have hmod : i % wd < wd := Nat.mod_lt _ hwd0
    have hj : (es[i / wd]'hq)[i % wd]? = some v := by
      rw [← k2 _ _ q, seg_get, if_pos hmod, Nat.mul_comm, Nat.div_add_mod]
      exact hv
    have := hcell _ _ hj
    rwa [add_add, Nat.mul_comm, Nat.div_add_mod] at this

def cellI (es : List (List Value)) (k j : Nat) : Int := match (es.getD k [])[j]? with | some (.int _ n) => n | _ => 0
def cellB (es : List (List Value)) (k j : Nat) : Bool := match (es.getD k [])[j]? with | some (.bool b) => b | _ => false
def cellS (es : List (List Value)) (k j : Nat) : ByteArray := match (es.getD k [])[j]? with | some (.string s) => s | _ => ⟨#[]⟩
theorem getD_some {α : Type} {l : List α} {k : Nat} {e d : α} (h : l[k]? = some e) : l.getD k d = e := by rw [List.getD_eq_getElem?_getD, h]; rfl
theorem getD_lt {α : Type} {l : List α} {k : Nat} (d : α) (h : k < l.length) : l[k]? = some (l.getD k d) := by rw [List.getD_eq_getElem?_getD, List.getElem?_eq_getElem h]; rfl
theorem noEnv_top {m : Nat} {v : Value} : ∀ h, [(Seg.gone)].length ≤ h → (noEnv.put 0 v) h = none := fun h hh => by
  simp at hh
  rw [Env.put_other _ (by omega)]; rfl
/-- One slice that came in: the memory of a run. -/
theorem one_ro {w : World} {wd len cap : Nat} {ao : Option Addr} {G : Nat → List At} (h : SegOk (noEnv.put 0 (.slice ao len cap)) w 0 (.ro wd len G)) : MemOk (noEnv.put 0 (.slice ao len cap)) [.ro wd len G] w w NoS := by
  refine ros_ok (fun k s hk => ?_) (fun k hk => ?_)
  · cases k with
    | zero => simp at hk; subst hk; exact ⟨h, rfl⟩
    | succ k => simp at hk
  · simp at hk
    rw [Env.put_other _ (by omega)]; rfl
end E
end Go.Proofs.Ytlmeemilikladaa

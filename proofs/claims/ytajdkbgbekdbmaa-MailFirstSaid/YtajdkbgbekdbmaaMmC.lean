/- MailFirst: the walk. No condition. -/
import Derived.Test.YtajdkbgbekdbmaaMmB
namespace Go.Proofs.Ytajdkbgbekdbmaa
set_option linter.unusedVariables false
set_option linter.unusedSimpArgs false
open Go.RowKit E
/-! what came in -/
theorem row_in {w : World} {ao : Option Addr} {len cap : Nat} (hr : Reads w (.slice 1 (.int .i64)) [.slice ao len cap]) :
    ∃ l : List Int, l.length = len ∧ ∀ (h : Nat) (env : Env), env h = some (.slice ao len cap) → SegOk env w h (.ro 1 len (gN (lT l))) := by
  obtain ⟨ao', len', cap', es, e0, h1, h2, h3, h4, h5⟩ := hr
  simp only [List.cons.injEq, Value.slice.injEq, and_true] at e0
  obtain ⟨rfl, rfl, rfl⟩ := e0
  refine ⟨es.map (fun e => cI e 0), by simp [h1], fun h env he => ro_seg he h1 h2 h3 h4 (fun i e q => ⟨(h5 i e q).1, (h5 i e q).2.2⟩) (fun i e q => ?_)⟩
  obtain ⟨k1, k2, k3⟩ := h5 i e q
  obtain ⟨u, rfl⟩ := list1 k1
  obtain ⟨x, hx, hw⟩ := k2
  obtain rfl : u = .int .i64 x := by simpa using hx
  have hv : lT (es.map (fun e => cI e 0)) i = x := by
    unfold lT
    rw [List.getD_eq_getElem?_getD, List.getElem?_map, q]; rfl
  refine ⟨⟨?_, trivial⟩, fun u hu => by simp at hu; subst hu; rfl⟩
  show Value.int .i64 x = .int .i64 (lT _ i)
  rw [hv]
structure RwIn (w : World) (A : Nat → Option Addr) (M C : Nat → Nat) (R : Nat → List Int) (n : Nat) : Prop where
  len : ∀ i, i < n → (R i).length = M i
  seg : ∀ i, i < n → ∀ (h : Nat) (env : Env), env h = some (.slice (A i) (M i) (C i)) → SegOk env w h (.ro 1 (M i) (gN (lT (R i))))
theorem rows_in {w : World} {env : Env} {h : Nat} {ao : Option Addr} {len cap : Nat} (he : env h = some (.slice ao len cap)) (hr : Reads w (.slice 1 (.slice 1 (.int .i64))) [.slice ao len cap]) :
    ∃ A M C R, RwIn w A M C R len ∧ SegOk env w h (.ro 1 len (gRw A M C)) := by
  obtain ⟨ao', len', cap', es, e0, h1, h2, h3, h4, h5⟩ := hr
  simp only [List.cons.injEq, Value.slice.injEq, and_true] at e0
  obtain ⟨rfl, rfl, rfl⟩ := e0
  have key : ∀ i e, es[i]? = some e → ∃ (a : Option Addr) (n c : Nat), e = [Value.slice a n c] ∧ ∃ l : List Int, l.length = n ∧ ∀ (h : Nat) (env : Env), env h = some (.slice a n c) → SegOk env w h (.ro 1 n (gN (lT l))) := fun i e q => by
    obtain ⟨k1, k2, k3⟩ := h5 i e q
    obtain ⟨a, n, c, es', q0, _⟩ := id k2
    subst q0
    exact ⟨a, n, c, rfl, row_in k2⟩
  let A : Nat → Option Addr := fun k => cA (es.getD k []) 0
  let M : Nat → Nat := fun k => cL (es.getD k []) 0
  let C : Nat → Nat := fun k => cC (es.getD k []) 0
  have key2 : ∀ k, k < es.length → es[k]? = some [Value.slice (A k) (M k) (C k)] ∧ ∃ l : List Int, l.length = M k ∧ ∀ (h : Nat) (env : Env), env h = some (.slice (A k) (M k) (C k)) → SegOk env w h (.ro 1 (M k) (gN (lT l))) := fun k hk => by
    have hg := getD_lt [] hk
    obtain ⟨a, n, c, e1, l, e2⟩ := key k _ hg
    have ha : A k = a := by show cA (es.getD k []) 0 = a; rw [e1]; rfl
    have hm : M k = n := by show cL (es.getD k []) 0 = n; rw [e1]; rfl
    have hc : C k = c := by show cC (es.getD k []) 0 = c; rw [e1]; rfl
    rw [ha, hm, hc]
    exact ⟨by rw [hg, e1], l, e2⟩
  let R : Nat → List Int := fun k => if hk : k < es.length then Classical.choose (key2 k hk).2 else []
  have hR : ∀ k (hk : k < es.length), R k = Classical.choose (key2 k hk).2 := fun k hk => dif_pos hk
  refine ⟨A, M, C, R, ⟨fun i hi => ?_, fun i hi => ?_⟩, ro_seg he h1 h2 h3 h4 (fun i e q => ⟨(h5 i e q).1, (h5 i e q).2.2⟩) (fun i e q => ?_)⟩
  · rw [hR i (by rw [h1]; exact hi)]
    exact (Classical.choose_spec (key2 i (by rw [h1]; exact hi)).2).1
  · rw [hR i (by rw [h1]; exact hi)]
    exact (Classical.choose_spec (key2 i (by rw [h1]; exact hi)).2).2
  · have hk := (List.getElem?_eq_some_iff.1 q).1
    obtain ⟨e1, _⟩ := key2 i hk
    rw [q] at e1
    cases e1
    exact ⟨⟨rfl, trivial⟩, fun u hu => by simp at hu; subst hu; rfl⟩
end Go.Proofs.Ytajdkbgbekdbmaa

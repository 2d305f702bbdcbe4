/- trie: a node within a tree, looked at. No condition. -/
import Derived.Test.YtfienpkogkepkaaTeX
import Derived.Test.YtfienpkogkepkaaChecked
import Derived.KernelRfl
namespace Go.Proofs.Ytfienpkogkepkaa
set_option linter.unusedVariables false
set_option linter.unusedSimpArgs false
open Go.RowKit E
/-! a node's place: how many nodes stand ahead of it -/
def PT.sz : PT → Nat
  | .nil => 0
  | .node _ _ _ _ l r => l.sz + r.sz + 1
def subAt : PT → Nat → PT
  | .nil, _ => .nil
  | .node a n u x l r, k => if k = 0 then .node a n u x l r else if k - 1 < l.sz then subAt l (k - 1) else subAt r (k - 1 - l.sz)
def updK : PT → Nat → Bool → Int → PT
  | .nil, _, _, _ => .nil
  | .node a n u x l r, k, u', x' => if k = 0 then .node a n u' x' l r else if k - 1 < l.sz then .node a n u x (updK l (k - 1) u' x') r else .node a n u x l (updK r (k - 1 - l.sz) u' x')
theorem TrW.len {w : World} : ∀ {t : PT} {v : Value} {F : List Nat}, TrW w t v F → F.length = t.sz
  | .nil, _, _, ⟨_, h⟩ => by subst h; rfl
  | .node .., _, _, ⟨_, _, _, _, _, _, _, h3, _, h5, h6⟩ => by
    subst h3
    simp only [List.length_cons, List.length_append, h5.len, h6.len, PT.sz]
theorem TrW.head {w : World} {a n : Int} {u : Bool} {x : Int} {l r : PT} {v : Value} {F : List Nat} (h : TrW w (.node a n u x l r) v F) : ∃ b, v = pB b ∧ F[0]? = some b := by
  obtain ⟨b, _, _, _, _, h1, _, h3, _⟩ := h
  exact ⟨b, h1, by rw [h3]; rfl⟩
/-- The node at a place. -/
theorem TrW.at {w : World} : ∀ {t : PT} {k : Nat} {v : Value} {F : List Nat} {a n : Int} {u : Bool} {x : Int} {l r : PT}, TrW w t v F → subAt t k = .node a n u x l r →
    ∃ b vl vr Fl Fr pre suf, w.heap[b]? = some (.cells (ndC a n u x vl vr) tNd (0, 0)) ∧ TrW w l vl Fl ∧ TrW w r vr Fr ∧ F = pre ++ (b :: (Fl ++ Fr) ++ suf) ∧ pre.length = k
  | .nil, _, _, _, _, _, _, _, _, _, _, e => by cases e
  | .node a0 n0 u0 x0 l0 r0, k, v, F, a, n, u, x, l, r, ⟨b, vl, vr, Fl, Fr, h1, h2, h3, h4, h5, h6⟩, e => by
    rw [subAt] at e
    by_cases hk : k = 0
    · rw [if_pos hk] at e
      cases e
      exact ⟨b, vl, vr, Fl, Fr, [], [], h2, h5, h6, by rw [h3]; simp, hk.symm⟩
    · rw [if_neg hk] at e
      by_cases hl : k - 1 < l0.sz
      · rw [if_pos hl] at e
        obtain ⟨b', vl', vr', Fl', Fr', pre, suf, q1, q2, q3, q4, q5⟩ := TrW.at h5 e
        exact ⟨b', vl', vr', Fl', Fr', b :: pre, suf ++ Fr, q1, q2, q3, by rw [h3, q4]; simp, by rw [List.length_cons, q5]; omega⟩
      · rw [if_neg hl] at e
        obtain ⟨b', vl', vr', Fl', Fr', pre, suf, q1, q2, q3, q4, q5⟩ := TrW.at h6 e
        exact ⟨b', vl', vr', Fl', Fr', b :: (Fl ++ pre), suf, q1, q2, q3, by rw [h3, q4]; simp, by rw [List.length_cons, List.length_append, q5, h5.len]; omega⟩
/-- One more handle, to look through, at what another handle holds. -/
theorem E.MemOk.look {env : Env} {mem : List Seg} {w0 w : World} {S : Nat → Prop} (h : MemOk env mem w0 w S) (v : Value) (s : Seg) (ho : SegOk (extE env mem.length [v]) w mem.length s) (hx : s.excl = false)
    (hsub : ∀ b, b ∈ blksOf v → ∃ j t, mem[j]? = some t ∧ t.live ∧ t.excl = false ∧ blk env j b) : MemOk (extE env mem.length [v]) (mem ++ [s]) w0 w S := by
  have get : ∀ (j : Nat) t, (mem ++ [s])[j]? = some t → (j < mem.length ∧ mem[j]? = some t) ∨ (j = mem.length ∧ t = s) := fun j t hj => by
    rcases Nat.lt_or_ge j mem.length with q | q
    · rw [List.getElem?_append_left q] at hj; exact .inl ⟨q, hj⟩
    · rw [List.getElem?_append_right q] at hj
      have : j - mem.length = 0 := by
        rcases Nat.eq_zero_or_pos (j - mem.length) with z | z
        · exact z
        · rw [List.getElem?_eq_none (by simp; omega)] at hj; cases hj
      rw [this] at hj
      cases hj
      exact .inr ⟨by omega, rfl⟩
  have bold : ∀ j b, j < mem.length → blk (extE env mem.length [v]) j b → blk env j b := fun j b hj hb => by rwa [blk_congr (extE_lt hj)] at hb
  have bnew : ∀ b, blk (extE env mem.length [v]) mem.length b → b ∈ blksOf v := fun b hb => by
    have := extE_ge (env := env) (m := mem.length) (vals := [v]) 0
    rw [Nat.add_zero] at this
    rwa [blk_some this] at hb
  refine ⟨fun j t hj => ?_, fun j hj => ?_, fun j k t1 t2 b hj hk hne hx1 hl hb hb' => ?_, fun j t b hj hx1 hb => ?_, h.os, h.tape, h.output, h.grow, h.frame⟩
  · rcases get j t hj with ⟨q1, q2⟩ | ⟨rfl, rfl⟩
    · exact (h.ok j t q2).le (le_extE h.top)
    · exact ho
  · simp at hj
    unfold extE
    rw [if_neg (by omega), List.getElem?_eq_none (by simp; omega)]
  · rcases get j t1 hj with ⟨q1, q2⟩ | ⟨rfl, rfl⟩
    · rcases get k t2 hk with ⟨p1, p2⟩ | ⟨rfl, rfl⟩
      · exact h.sep j k t1 t2 b q2 p2 hne hx1 hl (bold j b q1 hb) (bold k b p1 hb')
      · obtain ⟨i, t, c1, c2, c3, c4⟩ := hsub b (bnew b hb')
        refine h.sep j i t1 t b q2 c1 (fun e => ?_) hx1 c2 (bold j b q1 hb) c4
        subst e
        rw [q2] at c1
        cases c1
        rw [hx1] at c3
        cases c3
    · rw [hx] at hx1; cases hx1
  · rcases get j t hj with ⟨q1, q2⟩ | ⟨rfl, rfl⟩
    · exact h.own j t b q2 hx1 (bold j b q1 hb)
    · rw [hx] at hx1; cases hx1
/-- The address of a kid, by its place. -/
def kidI (h i : Nat) : PT → At
  | .nil => .val (.pointer none)
  | .node .. => .root h (i + 1) true
/-- The address of the node at a place becomes a box's. -/
def lkA (h k K : Nat) : At → At
  | .root h' i nn => if Nat.beq h' h && Nat.beq i (k + 1) then .ptr K 0 else .root h' i nn
  | x => x
theorem lkA_ok {env : Env} {h k K : Nat} {vs : Array Value} {b : Nat} (h1 : env h = some (.tuple vs)) (h2 : vs[k + 1]? = some (pB b)) (h3 : env K = some (pB b)) (x : At) (v : Value) (hx : x.rel env v) : (lkA h k K x).rel env v := by
  unfold lkA
  split
  · split
    · rename_i e
      rw [Bool.and_eq_true] at e
      have e1 := Nat.eq_of_beq_eq_true e.1
      have e2 := Nat.eq_of_beq_eq_true e.2
      subst e1; subst e2
      obtain ⟨vs', ao, q1, q2, q3, q4⟩ := hx
      rw [h1] at q1; cases q1
      rw [h2] at q2; cases q2
      exact ⟨_, _, h3, rfl, rfl⟩
    · exact hx
  · exact hx
theorem trV_at {v : Value} {F : List Nat} {k b : Nat} (h : F[k]? = some b) : (trV v F)[k + 1]? = some (pB b) := by
  simp [trV, h]
theorem kid_rel {env : Env} {w : World} {h i : Nat} {v0 : Value} {F pre suf Fk : List Nat} {t : PT} {v : Value} (h1 : env h = some (.tuple (trV v0 F))) (ht : TrW w t v Fk) (hF : F = pre ++ (Fk ++ suf)) (hp : pre.length = i) : (kidI h i t).rel env v := by
  cases t with
  | nil => exact ht.1
  | node a n u x l r =>
    obtain ⟨b, hv, hb⟩ := ht.head
    have hg : F[i]? = some b := by
      rw [hF, List.getElem?_append_right (by omega), hp, Nat.sub_self]
      cases Fk with
      | nil => cases hb
      | cons c Fk => exact hb
    exact ⟨_, some ⟨b, 0, none⟩, h1, by rw [hv]; exact trV_at hg, hv, fun _ => by simp⟩
set_option maxRecDepth 10000 in
theorem look_ok {cx : Cx} {env : Env} {act : Act} {w : World} {tm : List SV} {mem : List Seg} {h k : Nat} {pin : Option Value} {t : PT} {a n : Int} {u : Bool} {x : Int} {l r : PT} (hh : mem[h]? = some (.roabs (TA pin t))) (hs : subAt t k = .node a n u x l r) (hk : Ok cx env ⟨tm, mem⟩ act w) :
    ∃ env1, (∃ vs b, env1 h = some (.tuple vs) ∧ vs[k + 1]? = some (pB b) ∧ env1 mem.length = some (pB b)) ∧ Ok cx env1 ⟨tm.map (SV.map (lkA h k mem.length)), mem ++ [.robox tNd (ndA a n u x (kidI h (k + 1) l) (kidI h (k + 1 + l.sz) r))]⟩ act w := by
  obtain ⟨vs, e1, v', F, rfl, ht, hp⟩ := hk.mem.ok h _ hh
  obtain ⟨b, vl, vr, Fl, Fr, pre, suf, q1, q2, q3, q4, q5⟩ := ht.at hs
  have hlt : h < mem.length := (List.getElem?_eq_some_iff.1 hh).1
  have hb : F[k]? = some b := by rw [q4, List.getElem?_append_right (by omega), q5, Nat.sub_self]; rfl
  have eh : extE env mem.length [pB b] h = some (.tuple (trV v' F)) := by rw [extE_lt hlt]; exact e1
  have eK := extE_ge (env := env) (m := mem.length) (vals := [pB b]) 0
  rw [Nat.add_zero] at eK
  have hm : MemOk (extE env mem.length [pB b]) (mem ++ [.robox tNd (ndA a n u x (kidI h (k + 1) l) (kidI h (k + 1 + l.sz) r))]) cx.w0 w cx.S := by
    refine MemOk.look hk.mem (pB b) _ ⟨b, ndC a n u x vl vr, eK, q1, rfl, rfl, rfl, rfl, ?_, ?_, trivial⟩ rfl ?_
    · exact kid_rel eh q2 (pre := pre ++ [b]) (suf := Fr ++ suf) (by rw [q4]; simp) (by simp [q5])
    · exact kid_rel eh q3 (pre := pre ++ [b] ++ Fl) (suf := suf) (by rw [q4]; simp) (by simp [q5, q2.len]; omega)
    · intro c hc
      have : c = b := by simpa [blksOf, baseOf] using hc
      subst this
      exact ⟨h, _, hh, trivial, rfl, by rw [blk_some e1]; exact (trV_blks ht.root c).2 (List.mem_of_getElem? hb)⟩
  have k2 := ok_ext hk hm (by simp)
  refine ⟨_, ⟨_, b, eh, trV_at hb, eK⟩, k2.defers, AllSV.map (σ := lkA h k mem.length) (lkA_ok eh (trV_at hb) eK) k2.tm, k2.mem, k2.long, k2.fix⟩
end Go.Proofs.Ytfienpkogkepkaa

/- Runs of Go code, as printed by a program: no condition beyond those that each states. -/
namespace Go.Proofs.Ytfienpkogkepkaa
set_option linter.unusedVariables false
set_option linter.unusedSimpArgs false
set_option maxRecDepth 100000
open Go.RowKit E
attribute [local irreducible] wkL apG TA bl8 bl32 wdN msk prP inP sdN prT covB comN comA layP layK LyOk FkOk rgt hasB subAt
set_option maxHeartbeats 2000000 in
theorem fdb_nil (pa pn a n x c : Int) (u : Bool) (A : Abs) (k1 k2 : Nat) : CodeOk Try.prog 2 (subC [true, true, true, false, true, true] (bodyOf Try.f19)) (mkSt 54 [(3, .nv (.one (.ptr 2 0))), (5, .nv (.one (.val (.pointer none))))] [.robox 57 [.root 1 0 true, .val (.int .i64 c)], .roabs A, .box 28 [.val (.int .u32 pa), .val (.int .i64 pn)]]) (.exit 0) (mkSt 54 [(3, .nv (.one (.ptr 2 0))), (5, .nv (.one (.val (.pointer none))))] [.robox 57 [.root 1 0 true, .val (.int .i64 c)], .roabs A, .box 28 [.val (.int .u32 pa), .val (.int .i64 pn)]]) :=
  code_run Gt3_ok (orc := ⟨[false, false], []⟩) (obl := [false = false,
      false = false,
      (0 : Nat) = (0 : Nat),
      Value.pointer none = Value.pointer none,
      (0 : Nat) = (0 : Nat),
      c = c,
      A = A,
      pa = pa,
      pn = pn]) (by kernel_rfl) (.cons (by rfl) (.cons (by rfl) (.cons (by rfl) (.cons (by rfl) (.cons (by rfl) (.cons (by rfl) (.cons (by rfl) (.cons (by rfl) (.cons (by rfl) .nil))))))))) (Nat.le_of_ble_eq_true (by kernel_rfl))

set_option maxHeartbeats 2000000 in
theorem fdb_eqnn (pa pn a n x c : Int) (u : Bool) (A : Abs) (k1 k2 : Nat) (hb : (!(a == pa && (n == pn && true))) = false) : CodeOk Try.prog 4 (subC [true, true, true, false, true, true] (bodyOf Try.f19)) (mkSt 54 [(3, .nv (.one (.ptr 2 0))), (5, .nv (.one (.ptr 3 0)))] [.robox 57 [.root 1 0 true, .val (.int .i64 c)], .roabs A, .box 28 [.val (.int .u32 pa), .val (.int .i64 pn)], .robox 55 [.val (.int .u32 a), .val (.int .i64 n), .val (.bool u), .val (.int .i64 x), .val (.pointer none), .val (.pointer none)]]) (.exit 0) (mkSt 54 [(3, .nv (.one (.ptr 2 0))), (5, .nv (.one (.ptr 3 0)))] [.robox 57 [.root 1 0 true, .val (.int .i64 c)], .roabs A, .box 28 [.val (.int .u32 pa), .val (.int .i64 pn)], .robox 55 [.val (.int .u32 a), .val (.int .i64 n), .val (.bool u), .val (.int .i64 x), .val (.pointer none), .val (.pointer none)]]) :=
  code_run Gt3_ok (orc := ⟨[true, false], []⟩) (obl := [true = true,
      (!(a == pa && (n == pn && true))) = false,
      (0 : Nat) = (0 : Nat),
      (0 : Nat) = (0 : Nat),
      (0 : Nat) = (0 : Nat),
      c = c,
      A = A,
      pa = pa,
      pn = pn,
      a = a,
      n = n,
      u = u,
      x = x,
      Value.pointer none = Value.pointer none,
      Value.pointer none = Value.pointer none]) (by kernel_rfl) (.cons (by rfl) (.cons (by assumption) (.cons (by rfl) (.cons (by rfl) (.cons (by rfl) (.cons (by rfl) (.cons (by rfl) (.cons (by rfl) (.cons (by rfl) (.cons (by rfl) (.cons (by rfl) (.cons (by rfl) (.cons (by rfl) (.cons (by rfl) (.cons (by rfl) .nil))))))))))))))) (Nat.le_of_ble_eq_true (by kernel_rfl))

set_option maxHeartbeats 2000000 in
theorem fdb_genn (pa pn a n x c : Int) (u : Bool) (A : Abs) (k1 k2 : Nat) (hb : (!(a == pa && (n == pn && true))) = true) (hge : n ≥ pn) : CodeOk Try.prog 4 (subC [true, true, true, false, true, true] (bodyOf Try.f19)) (mkSt 54 [(3, .nv (.one (.ptr 2 0))), (5, .nv (.one (.ptr 3 0)))] [.robox 57 [.root 1 0 true, .val (.int .i64 c)], .roabs A, .box 28 [.val (.int .u32 pa), .val (.int .i64 pn)], .robox 55 [.val (.int .u32 a), .val (.int .i64 n), .val (.bool u), .val (.int .i64 x), .val (.pointer none), .val (.pointer none)]]) .ret (mkSt 54 [(4, .nv (.one (.val (.pointer none))))] [.robox 57 [.root 1 0 true, .val (.int .i64 c)], .roabs A, .box 28 [.val (.int .u32 pa), .val (.int .i64 pn)], .robox 55 [.val (.int .u32 a), .val (.int .i64 n), .val (.bool u), .val (.int .i64 x), .val (.pointer none), .val (.pointer none)]]) :=
  code_run Gt3_ok (orc := ⟨[true, true, true, true], []⟩) (obl := [true = true,
      (!(a == pa && (n == pn && true))) = true,
      decide (n ≥ pn) = true,
      true = true,
      Value.pointer none = Value.pointer none,
      (0 : Nat) = (0 : Nat),
      c = c,
      A = A,
      pa = pa,
      pn = pn,
      a = a,
      n = n,
      u = u,
      x = x,
      Value.pointer none = Value.pointer none,
      Value.pointer none = Value.pointer none]) (by kernel_rfl) (.cons (by rfl) (.cons (by assumption) (.cons (by (simp only [decide_eq_true_eq]; omega)) (.cons (by rfl) (.cons (by rfl) (.cons (by rfl) (.cons (by rfl) (.cons (by rfl) (.cons (by rfl) (.cons (by rfl) (.cons (by rfl) (.cons (by rfl) (.cons (by rfl) (.cons (by rfl) (.cons (by rfl) (.cons (by rfl) .nil)))))))))))))))) (Nat.le_of_ble_eq_true (by kernel_rfl))

set_option maxHeartbeats 2000000 in
theorem fdb_nonn (pa pn a n x c : Int) (u : Bool) (A : Abs) (k1 k2 : Nat) (ha : 0 ≤ pa) (ha2 : pa ≤ 4294967295) (ha3 : 0 ≤ a) (ha4 : a ≤ 4294967295) (hb : (!(a == pa && (n == pn && true))) = true) (hge : ¬ n ≥ pn) (hcv : covB a n pa pn = false) : CodeOk Try.prog 4 (subC [true, true, true, false, true, true] (bodyOf Try.f19)) (mkSt 54 [(3, .nv (.one (.ptr 2 0))), (5, .nv (.one (.ptr 3 0)))] [.robox 57 [.root 1 0 true, .val (.int .i64 c)], .roabs A, .box 28 [.val (.int .u32 pa), .val (.int .i64 pn)], .robox 55 [.val (.int .u32 a), .val (.int .i64 n), .val (.bool u), .val (.int .i64 x), .val (.pointer none), .val (.pointer none)]]) .ret (mkSt 54 [(4, .nv (.one (.val (.pointer none))))] [.robox 57 [.root 1 0 true, .val (.int .i64 c)], .roabs A, .box 28 [.val (.int .u32 pa), .val (.int .i64 pn)], .robox 55 [.val (.int .u32 a), .val (.int .i64 n), .val (.bool u), .val (.int .i64 x), .val (.pointer none), .val (.pointer none)]]) :=
  code_run Gt3_ok (orc := ⟨[true, true, false, true], []⟩) (obl := [true = true,
      (!(a == pa && (n == pn && true))) = true,
      decide (n ≥ pn) = false,
      (0 : Int) ≤ a,
      a ≤ (4294967295 : Int),
      (0 : Int) ≤ pa,
      pa ≤ (4294967295 : Int),
      (!covB a n pa pn) = true,
      Value.pointer none = Value.pointer none,
      (0 : Nat) = (0 : Nat),
      c = c,
      A = A,
      pa = pa,
      pn = pn,
      a = a,
      n = n,
      u = u,
      x = x,
      Value.pointer none = Value.pointer none,
      Value.pointer none = Value.pointer none]) (by kernel_rfl) (.cons (by rfl) (.cons (by assumption) (.cons (by (simp only [decide_eq_false_iff_not]; omega)) (.cons (by assumption) (.cons (by assumption) (.cons (by assumption) (.cons (by assumption) (.cons (by (simp [*]; done)) (.cons (by rfl) (.cons (by rfl) (.cons (by rfl) (.cons (by rfl) (.cons (by rfl) (.cons (by rfl) (.cons (by rfl) (.cons (by rfl) (.cons (by rfl) (.cons (by rfl) (.cons (by rfl) (.cons (by rfl) .nil)))))))))))))))))))) (Nat.le_of_ble_eq_true (by kernel_rfl))

set_option maxHeartbeats 2000000 in
theorem fdb_eqnk (pa pn a n x c : Int) (u : Bool) (A : Abs) (k1 k2 : Nat) (hb : (!(a == pa && (n == pn && true))) = false) : CodeOk Try.prog 4 (subC [true, true, true, false, true, true] (bodyOf Try.f19)) (mkSt 54 [(3, .nv (.one (.ptr 2 0))), (5, .nv (.one (.ptr 3 0)))] [.robox 57 [.root 1 0 true, .val (.int .i64 c)], .roabs A, .box 28 [.val (.int .u32 pa), .val (.int .i64 pn)], .robox 55 [.val (.int .u32 a), .val (.int .i64 n), .val (.bool u), .val (.int .i64 x), .val (.pointer none), .root 1 k2 true]]) (.exit 0) (mkSt 54 [(3, .nv (.one (.ptr 2 0))), (5, .nv (.one (.ptr 3 0)))] [.robox 57 [.root 1 0 true, .val (.int .i64 c)], .roabs A, .box 28 [.val (.int .u32 pa), .val (.int .i64 pn)], .robox 55 [.val (.int .u32 a), .val (.int .i64 n), .val (.bool u), .val (.int .i64 x), .val (.pointer none), .root 1 k2 true]]) :=
  code_run Gt3_ok (orc := ⟨[true, false], []⟩) (obl := [true = true,
      (!(a == pa && (n == pn && true))) = false,
      (0 : Nat) = (0 : Nat),
      (0 : Nat) = (0 : Nat),
      (0 : Nat) = (0 : Nat),
      c = c,
      A = A,
      pa = pa,
      pn = pn,
      a = a,
      n = n,
      u = u,
      x = x,
      Value.pointer none = Value.pointer none,
      k2 = k2]) (by kernel_rfl) (.cons (by rfl) (.cons (by assumption) (.cons (by rfl) (.cons (by rfl) (.cons (by rfl) (.cons (by rfl) (.cons (by rfl) (.cons (by rfl) (.cons (by rfl) (.cons (by rfl) (.cons (by rfl) (.cons (by rfl) (.cons (by rfl) (.cons (by rfl) (.cons (by rfl) .nil))))))))))))))) (Nat.le_of_ble_eq_true (by kernel_rfl))

set_option maxHeartbeats 2000000 in
theorem fdb_genk (pa pn a n x c : Int) (u : Bool) (A : Abs) (k1 k2 : Nat) (hb : (!(a == pa && (n == pn && true))) = true) (hge : n ≥ pn) : CodeOk Try.prog 4 (subC [true, true, true, false, true, true] (bodyOf Try.f19)) (mkSt 54 [(3, .nv (.one (.ptr 2 0))), (5, .nv (.one (.ptr 3 0)))] [.robox 57 [.root 1 0 true, .val (.int .i64 c)], .roabs A, .box 28 [.val (.int .u32 pa), .val (.int .i64 pn)], .robox 55 [.val (.int .u32 a), .val (.int .i64 n), .val (.bool u), .val (.int .i64 x), .val (.pointer none), .root 1 k2 true]]) .ret (mkSt 54 [(4, .nv (.one (.val (.pointer none))))] [.robox 57 [.root 1 0 true, .val (.int .i64 c)], .roabs A, .box 28 [.val (.int .u32 pa), .val (.int .i64 pn)], .robox 55 [.val (.int .u32 a), .val (.int .i64 n), .val (.bool u), .val (.int .i64 x), .val (.pointer none), .root 1 k2 true]]) :=
  code_run Gt3_ok (orc := ⟨[true, true, true, true], []⟩) (obl := [true = true,
      (!(a == pa && (n == pn && true))) = true,
      decide (n ≥ pn) = true,
      true = true,
      Value.pointer none = Value.pointer none,
      (0 : Nat) = (0 : Nat),
      c = c,
      A = A,
      pa = pa,
      pn = pn,
      a = a,
      n = n,
      u = u,
      x = x,
      Value.pointer none = Value.pointer none,
      k2 = k2]) (by kernel_rfl) (.cons (by rfl) (.cons (by assumption) (.cons (by (simp only [decide_eq_true_eq]; omega)) (.cons (by rfl) (.cons (by rfl) (.cons (by rfl) (.cons (by rfl) (.cons (by rfl) (.cons (by rfl) (.cons (by rfl) (.cons (by rfl) (.cons (by rfl) (.cons (by rfl) (.cons (by rfl) (.cons (by rfl) (.cons (by rfl) .nil)))))))))))))))) (Nat.le_of_ble_eq_true (by kernel_rfl))

set_option maxHeartbeats 2000000 in
theorem fdb_nonk (pa pn a n x c : Int) (u : Bool) (A : Abs) (k1 k2 : Nat) (ha : 0 ≤ pa) (ha2 : pa ≤ 4294967295) (ha3 : 0 ≤ a) (ha4 : a ≤ 4294967295) (hb : (!(a == pa && (n == pn && true))) = true) (hge : ¬ n ≥ pn) (hcv : covB a n pa pn = false) : CodeOk Try.prog 4 (subC [true, true, true, false, true, true] (bodyOf Try.f19)) (mkSt 54 [(3, .nv (.one (.ptr 2 0))), (5, .nv (.one (.ptr 3 0)))] [.robox 57 [.root 1 0 true, .val (.int .i64 c)], .roabs A, .box 28 [.val (.int .u32 pa), .val (.int .i64 pn)], .robox 55 [.val (.int .u32 a), .val (.int .i64 n), .val (.bool u), .val (.int .i64 x), .val (.pointer none), .root 1 k2 true]]) .ret (mkSt 54 [(4, .nv (.one (.val (.pointer none))))] [.robox 57 [.root 1 0 true, .val (.int .i64 c)], .roabs A, .box 28 [.val (.int .u32 pa), .val (.int .i64 pn)], .robox 55 [.val (.int .u32 a), .val (.int .i64 n), .val (.bool u), .val (.int .i64 x), .val (.pointer none), .root 1 k2 true]]) :=
  code_run Gt3_ok (orc := ⟨[true, true, false, true], []⟩) (obl := [true = true,
      (!(a == pa && (n == pn && true))) = true,
      decide (n ≥ pn) = false,
      (0 : Int) ≤ a,
      a ≤ (4294967295 : Int),
      (0 : Int) ≤ pa,
      pa ≤ (4294967295 : Int),
      (!covB a n pa pn) = true,
      Value.pointer none = Value.pointer none,
      (0 : Nat) = (0 : Nat),
      c = c,
      A = A,
      pa = pa,
      pn = pn,
      a = a,
      n = n,
      u = u,
      x = x,
      Value.pointer none = Value.pointer none,
      k2 = k2]) (by kernel_rfl) (.cons (by rfl) (.cons (by assumption) (.cons (by (simp only [decide_eq_false_iff_not]; omega)) (.cons (by assumption) (.cons (by assumption) (.cons (by assumption) (.cons (by assumption) (.cons (by (simp [*]; done)) (.cons (by rfl) (.cons (by rfl) (.cons (by rfl) (.cons (by rfl) (.cons (by rfl) (.cons (by rfl) (.cons (by rfl) (.cons (by rfl) (.cons (by rfl) (.cons (by rfl) (.cons (by rfl) (.cons (by rfl) .nil)))))))))))))))))))) (Nat.le_of_ble_eq_true (by kernel_rfl))

set_option maxHeartbeats 2000000 in
theorem fdb_eqkn (pa pn a n x c : Int) (u : Bool) (A : Abs) (k1 k2 : Nat) (hb : (!(a == pa && (n == pn && true))) = false) : CodeOk Try.prog 4 (subC [true, true, true, false, true, true] (bodyOf Try.f19)) (mkSt 54 [(3, .nv (.one (.ptr 2 0))), (5, .nv (.one (.ptr 3 0)))] [.robox 57 [.root 1 0 true, .val (.int .i64 c)], .roabs A, .box 28 [.val (.int .u32 pa), .val (.int .i64 pn)], .robox 55 [.val (.int .u32 a), .val (.int .i64 n), .val (.bool u), .val (.int .i64 x), .root 1 k1 true, .val (.pointer none)]]) (.exit 0) (mkSt 54 [(3, .nv (.one (.ptr 2 0))), (5, .nv (.one (.ptr 3 0)))] [.robox 57 [.root 1 0 true, .val (.int .i64 c)], .roabs A, .box 28 [.val (.int .u32 pa), .val (.int .i64 pn)], .robox 55 [.val (.int .u32 a), .val (.int .i64 n), .val (.bool u), .val (.int .i64 x), .root 1 k1 true, .val (.pointer none)]]) :=
  code_run Gt3_ok (orc := ⟨[true, false], []⟩) (obl := [true = true,
      (!(a == pa && (n == pn && true))) = false,
      (0 : Nat) = (0 : Nat),
      (0 : Nat) = (0 : Nat),
      (0 : Nat) = (0 : Nat),
      c = c,
      A = A,
      pa = pa,
      pn = pn,
      a = a,
      n = n,
      u = u,
      x = x,
      k1 = k1,
      Value.pointer none = Value.pointer none]) (by kernel_rfl) (.cons (by rfl) (.cons (by assumption) (.cons (by rfl) (.cons (by rfl) (.cons (by rfl) (.cons (by rfl) (.cons (by rfl) (.cons (by rfl) (.cons (by rfl) (.cons (by rfl) (.cons (by rfl) (.cons (by rfl) (.cons (by rfl) (.cons (by rfl) (.cons (by rfl) .nil))))))))))))))) (Nat.le_of_ble_eq_true (by kernel_rfl))

set_option maxHeartbeats 2000000 in
theorem fdb_gekn (pa pn a n x c : Int) (u : Bool) (A : Abs) (k1 k2 : Nat) (hb : (!(a == pa && (n == pn && true))) = true) (hge : n ≥ pn) : CodeOk Try.prog 4 (subC [true, true, true, false, true, true] (bodyOf Try.f19)) (mkSt 54 [(3, .nv (.one (.ptr 2 0))), (5, .nv (.one (.ptr 3 0)))] [.robox 57 [.root 1 0 true, .val (.int .i64 c)], .roabs A, .box 28 [.val (.int .u32 pa), .val (.int .i64 pn)], .robox 55 [.val (.int .u32 a), .val (.int .i64 n), .val (.bool u), .val (.int .i64 x), .root 1 k1 true, .val (.pointer none)]]) .ret (mkSt 54 [(4, .nv (.one (.val (.pointer none))))] [.robox 57 [.root 1 0 true, .val (.int .i64 c)], .roabs A, .box 28 [.val (.int .u32 pa), .val (.int .i64 pn)], .robox 55 [.val (.int .u32 a), .val (.int .i64 n), .val (.bool u), .val (.int .i64 x), .root 1 k1 true, .val (.pointer none)]]) :=
  code_run Gt3_ok (orc := ⟨[true, true, true, true], []⟩) (obl := [true = true,
      (!(a == pa && (n == pn && true))) = true,
      decide (n ≥ pn) = true,
      true = true,
      Value.pointer none = Value.pointer none,
      (0 : Nat) = (0 : Nat),
      c = c,
      A = A,
      pa = pa,
      pn = pn,
      a = a,
      n = n,
      u = u,
      x = x,
      k1 = k1,
      Value.pointer none = Value.pointer none]) (by kernel_rfl) (.cons (by rfl) (.cons (by assumption) (.cons (by (simp only [decide_eq_true_eq]; omega)) (.cons (by rfl) (.cons (by rfl) (.cons (by rfl) (.cons (by rfl) (.cons (by rfl) (.cons (by rfl) (.cons (by rfl) (.cons (by rfl) (.cons (by rfl) (.cons (by rfl) (.cons (by rfl) (.cons (by rfl) (.cons (by rfl) .nil)))))))))))))))) (Nat.le_of_ble_eq_true (by kernel_rfl))

set_option maxHeartbeats 2000000 in
theorem fdb_nokn (pa pn a n x c : Int) (u : Bool) (A : Abs) (k1 k2 : Nat) (ha : 0 ≤ pa) (ha2 : pa ≤ 4294967295) (ha3 : 0 ≤ a) (ha4 : a ≤ 4294967295) (hb : (!(a == pa && (n == pn && true))) = true) (hge : ¬ n ≥ pn) (hcv : covB a n pa pn = false) : CodeOk Try.prog 4 (subC [true, true, true, false, true, true] (bodyOf Try.f19)) (mkSt 54 [(3, .nv (.one (.ptr 2 0))), (5, .nv (.one (.ptr 3 0)))] [.robox 57 [.root 1 0 true, .val (.int .i64 c)], .roabs A, .box 28 [.val (.int .u32 pa), .val (.int .i64 pn)], .robox 55 [.val (.int .u32 a), .val (.int .i64 n), .val (.bool u), .val (.int .i64 x), .root 1 k1 true, .val (.pointer none)]]) .ret (mkSt 54 [(4, .nv (.one (.val (.pointer none))))] [.robox 57 [.root 1 0 true, .val (.int .i64 c)], .roabs A, .box 28 [.val (.int .u32 pa), .val (.int .i64 pn)], .robox 55 [.val (.int .u32 a), .val (.int .i64 n), .val (.bool u), .val (.int .i64 x), .root 1 k1 true, .val (.pointer none)]]) :=
  code_run Gt3_ok (orc := ⟨[true, true, false, true], []⟩) (obl := [true = true,
      (!(a == pa && (n == pn && true))) = true,
      decide (n ≥ pn) = false,
      (0 : Int) ≤ a,
      a ≤ (4294967295 : Int),
      (0 : Int) ≤ pa,
      pa ≤ (4294967295 : Int),
      (!covB a n pa pn) = true,
      Value.pointer none = Value.pointer none,
      (0 : Nat) = (0 : Nat),
      c = c,
      A = A,
      pa = pa,
      pn = pn,
      a = a,
      n = n,
      u = u,
      x = x,
      k1 = k1,
      Value.pointer none = Value.pointer none]) (by kernel_rfl) (.cons (by rfl) (.cons (by assumption) (.cons (by (simp only [decide_eq_false_iff_not]; omega)) (.cons (by assumption) (.cons (by assumption) (.cons (by assumption) (.cons (by assumption) (.cons (by (simp [*]; done)) (.cons (by rfl) (.cons (by rfl) (.cons (by rfl) (.cons (by rfl) (.cons (by rfl) (.cons (by rfl) (.cons (by rfl) (.cons (by rfl) (.cons (by rfl) (.cons (by rfl) (.cons (by rfl) (.cons (by rfl) .nil)))))))))))))))))))) (Nat.le_of_ble_eq_true (by kernel_rfl))

set_option maxHeartbeats 2000000 in
theorem fdb_eqkk (pa pn a n x c : Int) (u : Bool) (A : Abs) (k1 k2 : Nat) (hb : (!(a == pa && (n == pn && true))) = false) : CodeOk Try.prog 4 (subC [true, true, true, false, true, true] (bodyOf Try.f19)) (mkSt 54 [(3, .nv (.one (.ptr 2 0))), (5, .nv (.one (.ptr 3 0)))] [.robox 57 [.root 1 0 true, .val (.int .i64 c)], .roabs A, .box 28 [.val (.int .u32 pa), .val (.int .i64 pn)], .robox 55 [.val (.int .u32 a), .val (.int .i64 n), .val (.bool u), .val (.int .i64 x), .root 1 k1 true, .root 1 k2 true]]) (.exit 0) (mkSt 54 [(3, .nv (.one (.ptr 2 0))), (5, .nv (.one (.ptr 3 0)))] [.robox 57 [.root 1 0 true, .val (.int .i64 c)], .roabs A, .box 28 [.val (.int .u32 pa), .val (.int .i64 pn)], .robox 55 [.val (.int .u32 a), .val (.int .i64 n), .val (.bool u), .val (.int .i64 x), .root 1 k1 true, .root 1 k2 true]]) :=
  code_run Gt3_ok (orc := ⟨[true, false], []⟩) (obl := [true = true,
      (!(a == pa && (n == pn && true))) = false,
      (0 : Nat) = (0 : Nat),
      (0 : Nat) = (0 : Nat),
      (0 : Nat) = (0 : Nat),
      c = c,
      A = A,
      pa = pa,
      pn = pn,
      a = a,
      n = n,
      u = u,
      x = x,
      k1 = k1,
      k2 = k2]) (by kernel_rfl) (.cons (by rfl) (.cons (by assumption) (.cons (by rfl) (.cons (by rfl) (.cons (by rfl) (.cons (by rfl) (.cons (by rfl) (.cons (by rfl) (.cons (by rfl) (.cons (by rfl) (.cons (by rfl) (.cons (by rfl) (.cons (by rfl) (.cons (by rfl) (.cons (by rfl) .nil))))))))))))))) (Nat.le_of_ble_eq_true (by kernel_rfl))

set_option maxHeartbeats 2000000 in
theorem fdb_gekk (pa pn a n x c : Int) (u : Bool) (A : Abs) (k1 k2 : Nat) (hb : (!(a == pa && (n == pn && true))) = true) (hge : n ≥ pn) : CodeOk Try.prog 4 (subC [true, true, true, false, true, true] (bodyOf Try.f19)) (mkSt 54 [(3, .nv (.one (.ptr 2 0))), (5, .nv (.one (.ptr 3 0)))] [.robox 57 [.root 1 0 true, .val (.int .i64 c)], .roabs A, .box 28 [.val (.int .u32 pa), .val (.int .i64 pn)], .robox 55 [.val (.int .u32 a), .val (.int .i64 n), .val (.bool u), .val (.int .i64 x), .root 1 k1 true, .root 1 k2 true]]) .ret (mkSt 54 [(4, .nv (.one (.val (.pointer none))))] [.robox 57 [.root 1 0 true, .val (.int .i64 c)], .roabs A, .box 28 [.val (.int .u32 pa), .val (.int .i64 pn)], .robox 55 [.val (.int .u32 a), .val (.int .i64 n), .val (.bool u), .val (.int .i64 x), .root 1 k1 true, .root 1 k2 true]]) :=
  code_run Gt3_ok (orc := ⟨[true, true, true, true], []⟩) (obl := [true = true,
      (!(a == pa && (n == pn && true))) = true,
      decide (n ≥ pn) = true,
      true = true,
      Value.pointer none = Value.pointer none,
      (0 : Nat) = (0 : Nat),
      c = c,
      A = A,
      pa = pa,
      pn = pn,
      a = a,
      n = n,
      u = u,
      x = x,
      k1 = k1,
      k2 = k2]) (by kernel_rfl) (.cons (by rfl) (.cons (by assumption) (.cons (by (simp only [decide_eq_true_eq]; omega)) (.cons (by rfl) (.cons (by rfl) (.cons (by rfl) (.cons (by rfl) (.cons (by rfl) (.cons (by rfl) (.cons (by rfl) (.cons (by rfl) (.cons (by rfl) (.cons (by rfl) (.cons (by rfl) (.cons (by rfl) (.cons (by rfl) .nil)))))))))))))))) (Nat.le_of_ble_eq_true (by kernel_rfl))

set_option maxHeartbeats 2000000 in
theorem fdb_nokk (pa pn a n x c : Int) (u : Bool) (A : Abs) (k1 k2 : Nat) (ha : 0 ≤ pa) (ha2 : pa ≤ 4294967295) (ha3 : 0 ≤ a) (ha4 : a ≤ 4294967295) (hb : (!(a == pa && (n == pn && true))) = true) (hge : ¬ n ≥ pn) (hcv : covB a n pa pn = false) : CodeOk Try.prog 4 (subC [true, true, true, false, true, true] (bodyOf Try.f19)) (mkSt 54 [(3, .nv (.one (.ptr 2 0))), (5, .nv (.one (.ptr 3 0)))] [.robox 57 [.root 1 0 true, .val (.int .i64 c)], .roabs A, .box 28 [.val (.int .u32 pa), .val (.int .i64 pn)], .robox 55 [.val (.int .u32 a), .val (.int .i64 n), .val (.bool u), .val (.int .i64 x), .root 1 k1 true, .root 1 k2 true]]) .ret (mkSt 54 [(4, .nv (.one (.val (.pointer none))))] [.robox 57 [.root 1 0 true, .val (.int .i64 c)], .roabs A, .box 28 [.val (.int .u32 pa), .val (.int .i64 pn)], .robox 55 [.val (.int .u32 a), .val (.int .i64 n), .val (.bool u), .val (.int .i64 x), .root 1 k1 true, .root 1 k2 true]]) :=
  code_run Gt3_ok (orc := ⟨[true, true, false, true], []⟩) (obl := [true = true,
      (!(a == pa && (n == pn && true))) = true,
      decide (n ≥ pn) = false,
      (0 : Int) ≤ a,
      a ≤ (4294967295 : Int),
      (0 : Int) ≤ pa,
      pa ≤ (4294967295 : Int),
      (!covB a n pa pn) = true,
      Value.pointer none = Value.pointer none,
      (0 : Nat) = (0 : Nat),
      c = c,
      A = A,
      pa = pa,
      pn = pn,
      a = a,
      n = n,
      u = u,
      x = x,
      k1 = k1,
      k2 = k2]) (by kernel_rfl) (.cons (by rfl) (.cons (by assumption) (.cons (by (simp only [decide_eq_false_iff_not]; omega)) (.cons (by assumption) (.cons (by assumption) (.cons (by assumption) (.cons (by assumption) (.cons (by (simp [*]; done)) (.cons (by rfl) (.cons (by rfl) (.cons (by rfl) (.cons (by rfl) (.cons (by rfl) (.cons (by rfl) (.cons (by rfl) (.cons (by rfl) (.cons (by rfl) (.cons (by rfl) (.cons (by rfl) (.cons (by rfl) .nil)))))))))))))))))))) (Nat.le_of_ble_eq_true (by kernel_rfl))
end Go.Proofs.Ytfienpkogkepkaa

/- Runs of Go code, as printed by a program: no condition beyond those that each states. -/
namespace Go.Proofs.Ytfienpkogkepkaa
set_option linter.unusedVariables false
set_option linter.unusedSimpArgs false
set_option maxRecDepth 100000
open Go.RowKit E
attribute [local irreducible] wkL apG TA bl8 bl32 wdN msk prP inP sdN prT covB comN comA layP layK LyOk FkOk rgt hasB subAt
set_option maxHeartbeats 2000000 in
theorem fdb_0nn (pa pn a n x c : Int) (u : Bool) (A : Abs) (k1 k2 : Nat) (ha : 0 ≤ pa) (ha2 : pa ≤ 4294967295) (ha3 : 0 ≤ a) (ha4 : a ≤ 4294967295) (hn0 : 0 ≤ n) (hn31 : n ≤ 31) (hb : (!(a == pa && (n == pn && true))) = true) (hge : ¬ n ≥ pn) (hcv : covB a n pa pn = true) (hs : sdN pa n = 0) : CodeOk Try.prog 4 (subC [true, true, true, false, true, true] (bodyOf Try.f19)) (mkSt 54 [(3, .nv (.one (.ptr 2 0))), (5, .nv (.one (.ptr 3 0)))] [.robox 57 [.root 1 0 true, .val (.int .i64 c)], .roabs A, .box 28 [.val (.int .u32 pa), .val (.int .i64 pn)], .robox 55 [.val (.int .u32 a), .val (.int .i64 n), .val (.bool u), .val (.int .i64 x), .val (.pointer none), .val (.pointer none)]]) .normal (mkSt 54 [(3, .nv (.one (.ptr 2 0))), (5, .nv (.one (.val (.pointer none))))] [.robox 57 [.root 1 0 true, .val (.int .i64 c)], .roabs A, .box 28 [.val (.int .u32 pa), .val (.int .i64 pn)], .robox 55 [.val (.int .u32 a), .val (.int .i64 n), .val (.bool u), .val (.int .i64 x), .val (.pointer none), .val (.pointer none)]]) :=
  code_run Gs0_ok (orc := ⟨[true, true, false, false], []⟩) (obl := [true = true,
      (!(a == pa && (n == pn && true))) = true,
      decide (n ≥ pn) = false,
      (0 : Int) ≤ a,
      a ≤ (4294967295 : Int),
      (0 : Int) ≤ pa,
      pa ≤ (4294967295 : Int),
      (!covB a n pa pn) = false,
      (0 : Int) ≤ pa,
      pa ≤ (4294967295 : Int),
      (0 : Int) ≤ n,
      n ≤ (31 : Int),
      sdN pa n = (0 : Int),
      (0 : Nat) = (0 : Nat),
      pa = pa,
      a = a,
      n = n,
      u = u,
      x = x,
      (0 : Int) ≤ (0 : Int),
      (0 : Int) < (↑(2 : Nat) : Int),
      (0 : Nat) = (0 : Nat),
      Value.pointer none = Value.pointer none,
      (0 : Nat) = (0 : Nat),
      c = c,
      A = A,
      pa = pa,
      pn = pn,
      a = a,
      n = n,
      u = u,
      x = x,
      Value.pointer none = Value.pointer none,
      Value.pointer none = Value.pointer none]) (by kernel_rfl) (.cons (by rfl) (.cons (by assumption) (.cons (by (simp only [decide_eq_false_iff_not]; omega)) (.cons (by assumption) (.cons (by assumption) (.cons (by assumption) (.cons (by assumption) (.cons (by (simp [*]; done)) (.cons (by assumption) (.cons (by assumption) (.cons (by assumption) (.cons (by assumption) (.cons (by assumption) (.cons (by rfl) (.cons (by rfl) (.cons (by rfl) (.cons (by rfl) (.cons (by rfl) (.cons (by rfl) (.cons (by trivial) (.cons (by trivial) (.cons (by rfl) (.cons (by rfl) (.cons (by rfl) (.cons (by rfl) (.cons (by rfl) (.cons (by rfl) (.cons (by rfl) (.cons (by rfl) (.cons (by rfl) (.cons (by rfl) (.cons (by rfl) (.cons (by rfl) (.cons (by rfl) .nil)))))))))))))))))))))))))))))))))) (Nat.le_of_ble_eq_true (by kernel_rfl))

set_option maxHeartbeats 2000000 in
theorem fdb_0nk (pa pn a n x c : Int) (u : Bool) (A : Abs) (k1 k2 : Nat) (ha : 0 ≤ pa) (ha2 : pa ≤ 4294967295) (ha3 : 0 ≤ a) (ha4 : a ≤ 4294967295) (hn0 : 0 ≤ n) (hn31 : n ≤ 31) (hb : (!(a == pa && (n == pn && true))) = true) (hge : ¬ n ≥ pn) (hcv : covB a n pa pn = true) (hs : sdN pa n = 0) : CodeOk Try.prog 4 (subC [true, true, true, false, true, true] (bodyOf Try.f19)) (mkSt 54 [(3, .nv (.one (.ptr 2 0))), (5, .nv (.one (.ptr 3 0)))] [.robox 57 [.root 1 0 true, .val (.int .i64 c)], .roabs A, .box 28 [.val (.int .u32 pa), .val (.int .i64 pn)], .robox 55 [.val (.int .u32 a), .val (.int .i64 n), .val (.bool u), .val (.int .i64 x), .val (.pointer none), .root 1 k2 true]]) .normal (mkSt 54 [(3, .nv (.one (.ptr 2 0))), (5, .nv (.one (.val (.pointer none))))] [.robox 57 [.root 1 0 true, .val (.int .i64 c)], .roabs A, .box 28 [.val (.int .u32 pa), .val (.int .i64 pn)], .robox 55 [.val (.int .u32 a), .val (.int .i64 n), .val (.bool u), .val (.int .i64 x), .val (.pointer none), .root 1 k2 true]]) :=
  code_run Gs0_ok (orc := ⟨[true, true, false, false], []⟩) (obl := [true = true,
      (!(a == pa && (n == pn && true))) = true,
      decide (n ≥ pn) = false,
      (0 : Int) ≤ a,
      a ≤ (4294967295 : Int),
      (0 : Int) ≤ pa,
      pa ≤ (4294967295 : Int),
      (!covB a n pa pn) = false,
      (0 : Int) ≤ pa,
      pa ≤ (4294967295 : Int),
      (0 : Int) ≤ n,
      n ≤ (31 : Int),
      sdN pa n = (0 : Int),
      (0 : Nat) = (0 : Nat),
      pa = pa,
      a = a,
      n = n,
      u = u,
      x = x,
      (0 : Int) ≤ (0 : Int),
      (0 : Int) < (↑(2 : Nat) : Int),
      (0 : Nat) = (0 : Nat),
      Value.pointer none = Value.pointer none,
      (0 : Nat) = (0 : Nat),
      c = c,
      A = A,
      pa = pa,
      pn = pn,
      a = a,
      n = n,
      u = u,
      x = x,
      Value.pointer none = Value.pointer none,
      k2 = k2]) (by kernel_rfl) (.cons (by rfl) (.cons (by assumption) (.cons (by (simp only [decide_eq_false_iff_not]; omega)) (.cons (by assumption) (.cons (by assumption) (.cons (by assumption) (.cons (by assumption) (.cons (by (simp [*]; done)) (.cons (by assumption) (.cons (by assumption) (.cons (by assumption) (.cons (by assumption) (.cons (by assumption) (.cons (by rfl) (.cons (by rfl) (.cons (by rfl) (.cons (by rfl) (.cons (by rfl) (.cons (by rfl) (.cons (by trivial) (.cons (by trivial) (.cons (by rfl) (.cons (by rfl) (.cons (by rfl) (.cons (by rfl) (.cons (by rfl) (.cons (by rfl) (.cons (by rfl) (.cons (by rfl) (.cons (by rfl) (.cons (by rfl) (.cons (by rfl) (.cons (by rfl) (.cons (by rfl) .nil)))))))))))))))))))))))))))))))))) (Nat.le_of_ble_eq_true (by kernel_rfl))

set_option maxHeartbeats 2000000 in
theorem fdb_0kn (pa pn a n x c : Int) (u : Bool) (A : Abs) (k1 k2 : Nat) (ha : 0 ≤ pa) (ha2 : pa ≤ 4294967295) (ha3 : 0 ≤ a) (ha4 : a ≤ 4294967295) (hn0 : 0 ≤ n) (hn31 : n ≤ 31) (hb : (!(a == pa && (n == pn && true))) = true) (hge : ¬ n ≥ pn) (hcv : covB a n pa pn = true) (hs : sdN pa n = 0) : CodeOk Try.prog 4 (subC [true, true, true, false, true, true] (bodyOf Try.f19)) (mkSt 54 [(3, .nv (.one (.ptr 2 0))), (5, .nv (.one (.ptr 3 0)))] [.robox 57 [.root 1 0 true, .val (.int .i64 c)], .roabs A, .box 28 [.val (.int .u32 pa), .val (.int .i64 pn)], .robox 55 [.val (.int .u32 a), .val (.int .i64 n), .val (.bool u), .val (.int .i64 x), .root 1 k1 true, .val (.pointer none)]]) .normal (mkSt 54 [(3, .nv (.one (.ptr 2 0))), (5, .nv (.one (.root 1 k1 true)))] [.robox 57 [.root 1 0 true, .val (.int .i64 c)], .roabs A, .box 28 [.val (.int .u32 pa), .val (.int .i64 pn)], .robox 55 [.val (.int .u32 a), .val (.int .i64 n), .val (.bool u), .val (.int .i64 x), .root 1 k1 true, .val (.pointer none)]]) :=
  code_run Gs0_ok (orc := ⟨[true, true, false, false], []⟩) (obl := [true = true,
      (!(a == pa && (n == pn && true))) = true,
      decide (n ≥ pn) = false,
      (0 : Int) ≤ a,
      a ≤ (4294967295 : Int),
      (0 : Int) ≤ pa,
      pa ≤ (4294967295 : Int),
      (!covB a n pa pn) = false,
      (0 : Int) ≤ pa,
      pa ≤ (4294967295 : Int),
      (0 : Int) ≤ n,
      n ≤ (31 : Int),
      sdN pa n = (0 : Int),
      (0 : Nat) = (0 : Nat),
      pa = pa,
      a = a,
      n = n,
      u = u,
      x = x,
      (0 : Int) ≤ (0 : Int),
      (0 : Int) < (↑(2 : Nat) : Int),
      (0 : Nat) = (0 : Nat),
      k1 = k1,
      (0 : Nat) = (0 : Nat),
      c = c,
      A = A,
      pa = pa,
      pn = pn,
      a = a,
      n = n,
      u = u,
      x = x,
      k1 = k1,
      Value.pointer none = Value.pointer none]) (by kernel_rfl) (.cons (by rfl) (.cons (by assumption) (.cons (by (simp only [decide_eq_false_iff_not]; omega)) (.cons (by assumption) (.cons (by assumption) (.cons (by assumption) (.cons (by assumption) (.cons (by (simp [*]; done)) (.cons (by assumption) (.cons (by assumption) (.cons (by assumption) (.cons (by assumption) (.cons (by assumption) (.cons (by rfl) (.cons (by rfl) (.cons (by rfl) (.cons (by rfl) (.cons (by rfl) (.cons (by rfl) (.cons (by trivial) (.cons (by trivial) (.cons (by rfl) (.cons (by rfl) (.cons (by rfl) (.cons (by rfl) (.cons (by rfl) (.cons (by rfl) (.cons (by rfl) (.cons (by rfl) (.cons (by rfl) (.cons (by rfl) (.cons (by rfl) (.cons (by rfl) (.cons (by rfl) .nil)))))))))))))))))))))))))))))))))) (Nat.le_of_ble_eq_true (by kernel_rfl))

set_option maxHeartbeats 2000000 in
theorem fdb_0kk (pa pn a n x c : Int) (u : Bool) (A : Abs) (k1 k2 : Nat) (ha : 0 ≤ pa) (ha2 : pa ≤ 4294967295) (ha3 : 0 ≤ a) (ha4 : a ≤ 4294967295) (hn0 : 0 ≤ n) (hn31 : n ≤ 31) (hb : (!(a == pa && (n == pn && true))) = true) (hge : ¬ n ≥ pn) (hcv : covB a n pa pn = true) (hs : sdN pa n = 0) : CodeOk Try.prog 4 (subC [true, true, true, false, true, true] (bodyOf Try.f19)) (mkSt 54 [(3, .nv (.one (.ptr 2 0))), (5, .nv (.one (.ptr 3 0)))] [.robox 57 [.root 1 0 true, .val (.int .i64 c)], .roabs A, .box 28 [.val (.int .u32 pa), .val (.int .i64 pn)], .robox 55 [.val (.int .u32 a), .val (.int .i64 n), .val (.bool u), .val (.int .i64 x), .root 1 k1 true, .root 1 k2 true]]) .normal (mkSt 54 [(3, .nv (.one (.ptr 2 0))), (5, .nv (.one (.root 1 k1 true)))] [.robox 57 [.root 1 0 true, .val (.int .i64 c)], .roabs A, .box 28 [.val (.int .u32 pa), .val (.int .i64 pn)], .robox 55 [.val (.int .u32 a), .val (.int .i64 n), .val (.bool u), .val (.int .i64 x), .root 1 k1 true, .root 1 k2 true]]) :=
  code_run Gs0_ok (orc := ⟨[true, true, false, false], []⟩) (obl := [true = true,
      (!(a == pa && (n == pn && true))) = true,
      decide (n ≥ pn) = false,
      (0 : Int) ≤ a,
      a ≤ (4294967295 : Int),
      (0 : Int) ≤ pa,
      pa ≤ (4294967295 : Int),
      (!covB a n pa pn) = false,
      (0 : Int) ≤ pa,
      pa ≤ (4294967295 : Int),
      (0 : Int) ≤ n,
      n ≤ (31 : Int),
      sdN pa n = (0 : Int),
      (0 : Nat) = (0 : Nat),
      pa = pa,
      a = a,
      n = n,
      u = u,
      x = x,
      (0 : Int) ≤ (0 : Int),
      (0 : Int) < (↑(2 : Nat) : Int),
      (0 : Nat) = (0 : Nat),
      k1 = k1,
      (0 : Nat) = (0 : Nat),
      c = c,
      A = A,
      pa = pa,
      pn = pn,
      a = a,
      n = n,
      u = u,
      x = x,
      k1 = k1,
      k2 = k2]) (by kernel_rfl) (.cons (by rfl) (.cons (by assumption) (.cons (by (simp only [decide_eq_false_iff_not]; omega)) (.cons (by assumption) (.cons (by assumption) (.cons (by assumption) (.cons (by assumption) (.cons (by (simp [*]; done)) (.cons (by assumption) (.cons (by assumption) (.cons (by assumption) (.cons (by assumption) (.cons (by assumption) (.cons (by rfl) (.cons (by rfl) (.cons (by rfl) (.cons (by rfl) (.cons (by rfl) (.cons (by rfl) (.cons (by trivial) (.cons (by trivial) (.cons (by rfl) (.cons (by rfl) (.cons (by rfl) (.cons (by rfl) (.cons (by rfl) (.cons (by rfl) (.cons (by rfl) (.cons (by rfl) (.cons (by rfl) (.cons (by rfl) (.cons (by rfl) (.cons (by rfl) (.cons (by rfl) .nil)))))))))))))))))))))))))))))))))) (Nat.le_of_ble_eq_true (by kernel_rfl))

set_option maxHeartbeats 2000000 in
theorem fdb_1nn (pa pn a n x c : Int) (u : Bool) (A : Abs) (k1 k2 : Nat) (ha : 0 ≤ pa) (ha2 : pa ≤ 4294967295) (ha3 : 0 ≤ a) (ha4 : a ≤ 4294967295) (hn0 : 0 ≤ n) (hn31 : n ≤ 31) (hb : (!(a == pa && (n == pn && true))) = true) (hge : ¬ n ≥ pn) (hcv : covB a n pa pn = true) (hs : sdN pa n = 1) : CodeOk Try.prog 4 (subC [true, true, true, false, true, true] (bodyOf Try.f19)) (mkSt 54 [(3, .nv (.one (.ptr 2 0))), (5, .nv (.one (.ptr 3 0)))] [.robox 57 [.root 1 0 true, .val (.int .i64 c)], .roabs A, .box 28 [.val (.int .u32 pa), .val (.int .i64 pn)], .robox 55 [.val (.int .u32 a), .val (.int .i64 n), .val (.bool u), .val (.int .i64 x), .val (.pointer none), .val (.pointer none)]]) .normal (mkSt 54 [(3, .nv (.one (.ptr 2 0))), (5, .nv (.one (.val (.pointer none))))] [.robox 57 [.root 1 0 true, .val (.int .i64 c)], .roabs A, .box 28 [.val (.int .u32 pa), .val (.int .i64 pn)], .robox 55 [.val (.int .u32 a), .val (.int .i64 n), .val (.bool u), .val (.int .i64 x), .val (.pointer none), .val (.pointer none)]]) :=
  code_run Gs1_ok (orc := ⟨[true, true, false, false], []⟩) (obl := [true = true,
      (!(a == pa && (n == pn && true))) = true,
      decide (n ≥ pn) = false,
      (0 : Int) ≤ a,
      a ≤ (4294967295 : Int),
      (0 : Int) ≤ pa,
      pa ≤ (4294967295 : Int),
      (!covB a n pa pn) = false,
      (0 : Int) ≤ pa,
      pa ≤ (4294967295 : Int),
      (0 : Int) ≤ n,
      n ≤ (31 : Int),
      sdN pa n = (1 : Int),
      (0 : Nat) = (0 : Nat),
      pa = pa,
      a = a,
      n = n,
      u = u,
      x = x,
      (0 : Int) ≤ (1 : Int),
      (1 : Int) < (↑(2 : Nat) : Int),
      (0 : Nat) = (0 : Nat),
      Value.pointer none = Value.pointer none,
      (0 : Nat) = (0 : Nat),
      c = c,
      A = A,
      pa = pa,
      pn = pn,
      a = a,
      n = n,
      u = u,
      x = x,
      Value.pointer none = Value.pointer none,
      Value.pointer none = Value.pointer none]) (by kernel_rfl) (.cons (by rfl) (.cons (by assumption) (.cons (by (simp only [decide_eq_false_iff_not]; omega)) (.cons (by assumption) (.cons (by assumption) (.cons (by assumption) (.cons (by assumption) (.cons (by (simp [*]; done)) (.cons (by assumption) (.cons (by assumption) (.cons (by assumption) (.cons (by assumption) (.cons (by assumption) (.cons (by rfl) (.cons (by rfl) (.cons (by rfl) (.cons (by rfl) (.cons (by rfl) (.cons (by rfl) (.cons (by trivial) (.cons (by trivial) (.cons (by rfl) (.cons (by rfl) (.cons (by rfl) (.cons (by rfl) (.cons (by rfl) (.cons (by rfl) (.cons (by rfl) (.cons (by rfl) (.cons (by rfl) (.cons (by rfl) (.cons (by rfl) (.cons (by rfl) (.cons (by rfl) .nil)))))))))))))))))))))))))))))))))) (Nat.le_of_ble_eq_true (by kernel_rfl))

set_option maxHeartbeats 2000000 in
theorem fdb_1nk (pa pn a n x c : Int) (u : Bool) (A : Abs) (k1 k2 : Nat) (ha : 0 ≤ pa) (ha2 : pa ≤ 4294967295) (ha3 : 0 ≤ a) (ha4 : a ≤ 4294967295) (hn0 : 0 ≤ n) (hn31 : n ≤ 31) (hb : (!(a == pa && (n == pn && true))) = true) (hge : ¬ n ≥ pn) (hcv : covB a n pa pn = true) (hs : sdN pa n = 1) : CodeOk Try.prog 4 (subC [true, true, true, false, true, true] (bodyOf Try.f19)) (mkSt 54 [(3, .nv (.one (.ptr 2 0))), (5, .nv (.one (.ptr 3 0)))] [.robox 57 [.root 1 0 true, .val (.int .i64 c)], .roabs A, .box 28 [.val (.int .u32 pa), .val (.int .i64 pn)], .robox 55 [.val (.int .u32 a), .val (.int .i64 n), .val (.bool u), .val (.int .i64 x), .val (.pointer none), .root 1 k2 true]]) .normal (mkSt 54 [(3, .nv (.one (.ptr 2 0))), (5, .nv (.one (.root 1 k2 true)))] [.robox 57 [.root 1 0 true, .val (.int .i64 c)], .roabs A, .box 28 [.val (.int .u32 pa), .val (.int .i64 pn)], .robox 55 [.val (.int .u32 a), .val (.int .i64 n), .val (.bool u), .val (.int .i64 x), .val (.pointer none), .root 1 k2 true]]) :=
  code_run Gs1_ok (orc := ⟨[true, true, false, false], []⟩) (obl := [true = true,
      (!(a == pa && (n == pn && true))) = true,
      decide (n ≥ pn) = false,
      (0 : Int) ≤ a,
      a ≤ (4294967295 : Int),
      (0 : Int) ≤ pa,
      pa ≤ (4294967295 : Int),
      (!covB a n pa pn) = false,
      (0 : Int) ≤ pa,
      pa ≤ (4294967295 : Int),
      (0 : Int) ≤ n,
      n ≤ (31 : Int),
      sdN pa n = (1 : Int),
      (0 : Nat) = (0 : Nat),
      pa = pa,
      a = a,
      n = n,
      u = u,
      x = x,
      (0 : Int) ≤ (1 : Int),
      (1 : Int) < (↑(2 : Nat) : Int),
      (0 : Nat) = (0 : Nat),
      k2 = k2,
      (0 : Nat) = (0 : Nat),
      c = c,
      A = A,
      pa = pa,
      pn = pn,
      a = a,
      n = n,
      u = u,
      x = x,
      Value.pointer none = Value.pointer none,
      k2 = k2]) (by kernel_rfl) (.cons (by rfl) (.cons (by assumption) (.cons (by (simp only [decide_eq_false_iff_not]; omega)) (.cons (by assumption) (.cons (by assumption) (.cons (by assumption) (.cons (by assumption) (.cons (by (simp [*]; done)) (.cons (by assumption) (.cons (by assumption) (.cons (by assumption) (.cons (by assumption) (.cons (by assumption) (.cons (by rfl) (.cons (by rfl) (.cons (by rfl) (.cons (by rfl) (.cons (by rfl) (.cons (by rfl) (.cons (by trivial) (.cons (by trivial) (.cons (by rfl) (.cons (by rfl) (.cons (by rfl) (.cons (by rfl) (.cons (by rfl) (.cons (by rfl) (.cons (by rfl) (.cons (by rfl) (.cons (by rfl) (.cons (by rfl) (.cons (by rfl) (.cons (by rfl) (.cons (by rfl) .nil)))))))))))))))))))))))))))))))))) (Nat.le_of_ble_eq_true (by kernel_rfl))

set_option maxHeartbeats 2000000 in
theorem fdb_1kn (pa pn a n x c : Int) (u : Bool) (A : Abs) (k1 k2 : Nat) (ha : 0 ≤ pa) (ha2 : pa ≤ 4294967295) (ha3 : 0 ≤ a) (ha4 : a ≤ 4294967295) (hn0 : 0 ≤ n) (hn31 : n ≤ 31) (hb : (!(a == pa && (n == pn && true))) = true) (hge : ¬ n ≥ pn) (hcv : covB a n pa pn = true) (hs : sdN pa n = 1) : CodeOk Try.prog 4 (subC [true, true, true, false, true, true] (bodyOf Try.f19)) (mkSt 54 [(3, .nv (.one (.ptr 2 0))), (5, .nv (.one (.ptr 3 0)))] [.robox 57 [.root 1 0 true, .val (.int .i64 c)], .roabs A, .box 28 [.val (.int .u32 pa), .val (.int .i64 pn)], .robox 55 [.val (.int .u32 a), .val (.int .i64 n), .val (.bool u), .val (.int .i64 x), .root 1 k1 true, .val (.pointer none)]]) .normal (mkSt 54 [(3, .nv (.one (.ptr 2 0))), (5, .nv (.one (.val (.pointer none))))] [.robox 57 [.root 1 0 true, .val (.int .i64 c)], .roabs A, .box 28 [.val (.int .u32 pa), .val (.int .i64 pn)], .robox 55 [.val (.int .u32 a), .val (.int .i64 n), .val (.bool u), .val (.int .i64 x), .root 1 k1 true, .val (.pointer none)]]) :=
  code_run Gs1_ok (orc := ⟨[true, true, false, false], []⟩) (obl := [true = true,
      (!(a == pa && (n == pn && true))) = true,
      decide (n ≥ pn) = false,
      (0 : Int) ≤ a,
      a ≤ (4294967295 : Int),
      (0 : Int) ≤ pa,
      pa ≤ (4294967295 : Int),
      (!covB a n pa pn) = false,
      (0 : Int) ≤ pa,
      pa ≤ (4294967295 : Int),
      (0 : Int) ≤ n,
      n ≤ (31 : Int),
      sdN pa n = (1 : Int),
      (0 : Nat) = (0 : Nat),
      pa = pa,
      a = a,
      n = n,
      u = u,
      x = x,
      (0 : Int) ≤ (1 : Int),
      (1 : Int) < (↑(2 : Nat) : Int),
      (0 : Nat) = (0 : Nat),
      Value.pointer none = Value.pointer none,
      (0 : Nat) = (0 : Nat),
      c = c,
      A = A,
      pa = pa,
      pn = pn,
      a = a,
      n = n,
      u = u,
      x = x,
      k1 = k1,
      Value.pointer none = Value.pointer none]) (by kernel_rfl) (.cons (by rfl) (.cons (by assumption) (.cons (by (simp only [decide_eq_false_iff_not]; omega)) (.cons (by assumption) (.cons (by assumption) (.cons (by assumption) (.cons (by assumption) (.cons (by (simp [*]; done)) (.cons (by assumption) (.cons (by assumption) (.cons (by assumption) (.cons (by assumption) (.cons (by assumption) (.cons (by rfl) (.cons (by rfl) (.cons (by rfl) (.cons (by rfl) (.cons (by rfl) (.cons (by rfl) (.cons (by trivial) (.cons (by trivial) (.cons (by rfl) (.cons (by rfl) (.cons (by rfl) (.cons (by rfl) (.cons (by rfl) (.cons (by rfl) (.cons (by rfl) (.cons (by rfl) (.cons (by rfl) (.cons (by rfl) (.cons (by rfl) (.cons (by rfl) (.cons (by rfl) .nil)))))))))))))))))))))))))))))))))) (Nat.le_of_ble_eq_true (by kernel_rfl))

set_option maxHeartbeats 2000000 in
theorem fdb_1kk (pa pn a n x c : Int) (u : Bool) (A : Abs) (k1 k2 : Nat) (ha : 0 ≤ pa) (ha2 : pa ≤ 4294967295) (ha3 : 0 ≤ a) (ha4 : a ≤ 4294967295) (hn0 : 0 ≤ n) (hn31 : n ≤ 31) (hb : (!(a == pa && (n == pn && true))) = true) (hge : ¬ n ≥ pn) (hcv : covB a n pa pn = true) (hs : sdN pa n = 1) : CodeOk Try.prog 4 (subC [true, true, true, false, true, true] (bodyOf Try.f19)) (mkSt 54 [(3, .nv (.one (.ptr 2 0))), (5, .nv (.one (.ptr 3 0)))] [.robox 57 [.root 1 0 true, .val (.int .i64 c)], .roabs A, .box 28 [.val (.int .u32 pa), .val (.int .i64 pn)], .robox 55 [.val (.int .u32 a), .val (.int .i64 n), .val (.bool u), .val (.int .i64 x), .root 1 k1 true, .root 1 k2 true]]) .normal (mkSt 54 [(3, .nv (.one (.ptr 2 0))), (5, .nv (.one (.root 1 k2 true)))] [.robox 57 [.root 1 0 true, .val (.int .i64 c)], .roabs A, .box 28 [.val (.int .u32 pa), .val (.int .i64 pn)], .robox 55 [.val (.int .u32 a), .val (.int .i64 n), .val (.bool u), .val (.int .i64 x), .root 1 k1 true, .root 1 k2 true]]) :=
  code_run Gs1_ok (orc := ⟨[true, true, false, false], []⟩) (obl := [true = true,
      (!(a == pa && (n == pn && true))) = true,
      decide (n ≥ pn) = false,
      (0 : Int) ≤ a,
      a ≤ (4294967295 : Int),
      (0 : Int) ≤ pa,
      pa ≤ (4294967295 : Int),
      (!covB a n pa pn) = false,
      (0 : Int) ≤ pa,
      pa ≤ (4294967295 : Int),
      (0 : Int) ≤ n,
      n ≤ (31 : Int),
      sdN pa n = (1 : Int),
      (0 : Nat) = (0 : Nat),
      pa = pa,
      a = a,
      n = n,
      u = u,
      x = x,
      (0 : Int) ≤ (1 : Int),
      (1 : Int) < (↑(2 : Nat) : Int),
      (0 : Nat) = (0 : Nat),
      k2 = k2,
      (0 : Nat) = (0 : Nat),
      c = c,
      A = A,
      pa = pa,
      pn = pn,
      a = a,
      n = n,
      u = u,
      x = x,
      k1 = k1,
      k2 = k2]) (by kernel_rfl) (.cons (by rfl) (.cons (by assumption) (.cons (by (simp only [decide_eq_false_iff_not]; omega)) (.cons (by assumption) (.cons (by assumption) (.cons (by assumption) (.cons (by assumption) (.cons (by (simp [*]; done)) (.cons (by assumption) (.cons (by assumption) (.cons (by assumption) (.cons (by assumption) (.cons (by assumption) (.cons (by rfl) (.cons (by rfl) (.cons (by rfl) (.cons (by rfl) (.cons (by rfl) (.cons (by rfl) (.cons (by trivial) (.cons (by trivial) (.cons (by rfl) (.cons (by rfl) (.cons (by rfl) (.cons (by rfl) (.cons (by rfl) (.cons (by rfl) (.cons (by rfl) (.cons (by rfl) (.cons (by rfl) (.cons (by rfl) (.cons (by rfl) (.cons (by rfl) (.cons (by rfl) .nil)))))))))))))))))))))))))))))))))) (Nat.le_of_ble_eq_true (by kernel_rfl))
end Go.Proofs.Ytfienpkogkepkaa

/- Runs of Go code, as printed by a program: no condition beyond those that each states. -/
namespace Go.Proofs.Ytfienpkogkepkaa
set_option linter.unusedVariables false
set_option linter.unusedSimpArgs false
set_option maxRecDepth 100000
open Go.RowKit E
attribute [local irreducible] wkL apG TA bl8 bl32 wdN msk prP inP sdN prT covB comN comA layP layK LyOk FkOk rgt hasB subAt
set_option maxHeartbeats 2000000 in
theorem fd_wrong (pa pn c : Int) (A : Abs) (k1 : Nat) (ha : 0 ≤ pa) (ha2 : pa ≤ 4294967295) (hr : rgt pa pn = false) : FnOk Try.prog 19 ([.nv (.one (.ptr 0 0)), .nv (.agg [.val (.int .u32 pa), .val (.int .i64 pn)])]) ([.robox 57 [.root 1 0 true, .val (.int .i64 c)], .roabs A]) (.nv (.one (.val (.pointer none)))) ([.gone, .gone]) :=
  fn_run Gt3_ok Try.func19 (orc := ⟨[false, true], []⟩) (obl := [false = false,
      (0 : Int) ≤ pa,
      pa ≤ (4294967295 : Int),
      (!rgt pa pn) = true,
      Value.pointer none = Value.pointer none]) (by kernel_rfl) (.cons (by rfl) (.cons (by assumption) (.cons (by assumption) (.cons (by (simp [*]; done)) (.cons (by rfl) .nil))))) (Nat.le_of_ble_eq_true (by kernel_rfl))

set_option maxHeartbeats 2000000 in
theorem fd_0 (pa pn c : Int) (A : Abs) (k1 : Nat) : CodeOk Try.prog 2 (subC [false] (bodyOf Try.f19)) (mkSt 54 [(0, .nv (.one (.ptr 0 0))), (1, .nv (.agg [.val (.int .u32 pa), .val (.int .i64 pn)]))] [.robox 57 [.root 1 0 true, .val (.int .i64 c)], .roabs A]) .normal (mkSt 54 [(0, .nv (.one (.ptr 0 0))), (3, .nv (.one (.ptr 2 0)))] [.robox 57 [.root 1 0 true, .val (.int .i64 c)], .roabs A, .box 28 [.val (.int .u32 pa), .val (.int .i64 pn)]]) :=
  code_run Gt3_ok (orc := ⟨[], []⟩) (obl := [(0 : Nat) = (0 : Nat),
      (0 : Nat) = (0 : Nat),
      (0 : Nat) = (0 : Nat),
      c = c,
      A = A,
      pa = pa,
      pn = pn]) (by kernel_rfl) (.cons (by rfl) (.cons (by rfl) (.cons (by rfl) (.cons (by rfl) (.cons (by rfl) (.cons (by rfl) (.cons (by rfl) .nil))))))) (Nat.le_of_ble_eq_true (by kernel_rfl))

set_option maxHeartbeats 2000000 in
theorem fd_1 (pa pn c : Int) (A : Abs) (k1 : Nat) (ha : 0 ≤ pa) (ha2 : pa ≤ 4294967295) (hr : rgt pa pn = true) : CodeOk Try.prog 2 (subC [true, false] (bodyOf Try.f19)) (mkSt 54 [(0, .nv (.one (.ptr 0 0))), (3, .nv (.one (.ptr 2 0)))] [.robox 57 [.root 1 0 true, .val (.int .i64 c)], .roabs A, .box 28 [.val (.int .u32 pa), .val (.int .i64 pn)]]) .normal (mkSt 54 [(0, .nv (.one (.ptr 0 0))), (3, .nv (.one (.ptr 2 0)))] [.robox 57 [.root 1 0 true, .val (.int .i64 c)], .roabs A, .box 28 [.val (.int .u32 pa), .val (.int .i64 pn)]]) :=
  code_run Gt3_ok (orc := ⟨[false, false], []⟩) (obl := [false = false,
      (0 : Int) ≤ pa,
      pa ≤ (4294967295 : Int),
      (!rgt pa pn) = false,
      (0 : Nat) = (0 : Nat),
      (0 : Nat) = (0 : Nat),
      (0 : Nat) = (0 : Nat),
      c = c,
      A = A,
      pa = pa,
      pn = pn]) (by kernel_rfl) (.cons (by rfl) (.cons (by assumption) (.cons (by assumption) (.cons (by (simp [*]; done)) (.cons (by rfl) (.cons (by rfl) (.cons (by rfl) (.cons (by rfl) (.cons (by rfl) (.cons (by rfl) (.cons (by rfl) .nil))))))))))) (Nat.le_of_ble_eq_true (by kernel_rfl))

set_option maxHeartbeats 2000000 in
theorem fd_3 (pa pn c : Int) (A : Abs) (k1 : Nat) : CodeOk Try.prog 2 (subC [true, true, false] (bodyOf Try.f19)) (mkSt 54 [(0, .nv (.one (.ptr 0 0))), (3, .nv (.one (.ptr 2 0)))] [.robox 57 [.root 1 0 true, .val (.int .i64 c)], .roabs A, .box 28 [.val (.int .u32 pa), .val (.int .i64 pn)]]) .normal (mkSt 54 [(3, .nv (.one (.ptr 2 0))), (5, .nv (.one (.root 1 0 true)))] [.robox 57 [.root 1 0 true, .val (.int .i64 c)], .roabs A, .box 28 [.val (.int .u32 pa), .val (.int .i64 pn)]]) :=
  code_run Gt3_ok (orc := ⟨[], []⟩) (obl := [(0 : Nat) = (0 : Nat),
      (0 : Nat) = (0 : Nat),
      (0 : Nat) = (0 : Nat),
      c = c,
      A = A,
      pa = pa,
      pn = pn]) (by kernel_rfl) (.cons (by rfl) (.cons (by rfl) (.cons (by rfl) (.cons (by rfl) (.cons (by rfl) (.cons (by rfl) (.cons (by rfl) .nil))))))) (Nat.le_of_ble_eq_true (by kernel_rfl))

set_option maxHeartbeats 2000000 in
theorem fd_8n (pa pn c : Int) (A : Abs) (k1 : Nat) : CodeOk Try.prog 2 (subC [true, true, true, true] (bodyOf Try.f19)) (mkSt 54 [(3, .nv (.one (.ptr 2 0))), (5, .nv (.one (.val (.pointer none))))] [.robox 57 [.root 1 0 true, .val (.int .i64 c)], .roabs A, .box 28 [.val (.int .u32 pa), .val (.int .i64 pn)]]) .ret (mkSt 54 [(4, .nv (.one (.val (.pointer none))))] [.robox 57 [.root 1 0 true, .val (.int .i64 c)], .roabs A, .box 28 [.val (.int .u32 pa), .val (.int .i64 pn)]]) :=
  code_run Gt3_ok (orc := ⟨[], []⟩) (obl := [Value.pointer none = Value.pointer none,
      (0 : Nat) = (0 : Nat),
      c = c,
      A = A,
      pa = pa,
      pn = pn]) (by kernel_rfl) (.cons (by rfl) (.cons (by rfl) (.cons (by rfl) (.cons (by rfl) (.cons (by rfl) (.cons (by rfl) .nil)))))) (Nat.le_of_ble_eq_true (by kernel_rfl))

set_option maxHeartbeats 2000000 in
theorem fd_8k (pa pn c : Int) (A : Abs) (k1 : Nat) : CodeOk Try.prog 2 (subC [true, true, true, true] (bodyOf Try.f19)) (mkSt 54 [(3, .nv (.one (.ptr 2 0))), (5, .nv (.one (.root 1 k1 true)))] [.robox 57 [.root 1 0 true, .val (.int .i64 c)], .roabs A, .box 28 [.val (.int .u32 pa), .val (.int .i64 pn)]]) .ret (mkSt 54 [(4, .nv (.one (.root 1 k1 true)))] [.robox 57 [.root 1 0 true, .val (.int .i64 c)], .roabs A, .box 28 [.val (.int .u32 pa), .val (.int .i64 pn)]]) :=
  code_run Gt3_ok (orc := ⟨[], []⟩) (obl := [k1 = k1,
      (0 : Nat) = (0 : Nat),
      c = c,
      A = A,
      pa = pa,
      pn = pn]) (by kernel_rfl) (.cons (by rfl) (.cons (by rfl) (.cons (by rfl) (.cons (by rfl) (.cons (by rfl) (.cons (by rfl) .nil)))))) (Nat.le_of_ble_eq_true (by kernel_rfl))
end Go.Proofs.Ytfienpkogkepkaa

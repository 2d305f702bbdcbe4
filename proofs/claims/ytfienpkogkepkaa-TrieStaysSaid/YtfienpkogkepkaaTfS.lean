/- trie: a node changed in place. No condition. -/
import Derived.Test.YtfienpkogkepkaaTfP
namespace Go.Proofs.Ytfienpkogkepkaa
set_option linter.unusedVariables false
set_option linter.unusedSimpArgs false
open Go.RowKit E
theorem TrW.poke {w : World} : ∀ {t : PT} {k : Nat} {v : Value} {F : List Nat} {a n : Int} {u : Bool} {x : Int} {l r : PT}, TrW w t v F → subAt t k = .node a n u x l r →
    ∃ b al ar, F[k]? = some b ∧ w.heap[b]? = some (.cells (ndC a n u x (.pointer al) (.pointer ar)) tNd (0, 0)) ∧ ∀ (w' : World) (u' : Bool) (x' : Int), (∀ c, c ∈ F → c ≠ b → w'.heap[c]? = w.heap[c]?) → w'.heap[b]? = some (.cells (ndC a n u' x' (.pointer al) (.pointer ar)) tNd (0, 0)) → TrW w' (updK t k u' x') v F
  | .nil, _, _, _, _, _, _, _, _, _, _, e => by cases e
  | .node a0 n0 u0 x0 l0 r0, k, v, F, a, n, u, x, l, r, ⟨b, vl, vr, Fl, Fr, h1, h2, h3, h4, h5, h6⟩, e => by
    subst h3
    obtain ⟨d1, d2⟩ := trW_node_disj (w := w) (a := a0) (n := n0) (u := u0) (x := x0) (l := l0) (r := r0) (vl := vl) (vr := vr) h4
    rw [subAt] at e
    by_cases hk : k = 0
    · rw [if_pos hk] at e
      cases e
      subst hk
      obtain ⟨al, rfl⟩ := pB_of h5
      obtain ⟨ar, rfl⟩ := pB_of h6
      refine ⟨b, al, ar, rfl, h2, fun w' u' x' hf hb => ?_⟩
      rw [updK, if_pos rfl]
      exact ⟨b, _, _, Fl, Fr, h1, hb, rfl, h4, h5.frame (fun c hc => hf c (by simp [hc]) (d1 c hc).1), h6.frame (fun c hc => hf c (by simp [hc]) (d2 c hc))⟩
    · rw [if_neg hk] at e
      by_cases hl : k - 1 < l0.sz
      · rw [if_pos hl] at e
        obtain ⟨b', vl', vr', q1, q2, q3⟩ := TrW.poke h5 e
        have hm := List.mem_of_getElem? q1
        refine ⟨b', vl', vr', ?_, q2, fun w' u' x' hf hb => ?_⟩
        · rw [show k = (k - 1) + 1 by omega, List.getElem?_cons_succ, List.getElem?_append_left (by rw [h5.len]; exact hl)]; exact q1
        · rw [updK, if_neg hk, if_pos hl]
          exact ⟨b, vl, vr, Fl, Fr, h1, (hf b (by simp) (fun q => (d1 b' hm).1 q.symm)).trans h2, rfl, h4, q3 w' u' x' (fun c hc hne => hf c (by simp [hc]) hne) hb, h6.frame (fun c hc => hf c (by simp [hc]) (fun q => (d1 b' hm).2 (q ▸ hc)))⟩
      · rw [if_neg hl] at e
        obtain ⟨b', vl', vr', q1, q2, q3⟩ := TrW.poke h6 e
        have hm := List.mem_of_getElem? q1
        refine ⟨b', vl', vr', ?_, q2, fun w' u' x' hf hb => ?_⟩
        · rw [show k = (k - 1) + 1 by omega, List.getElem?_cons_succ, List.getElem?_append_right (by rw [h5.len]; omega), h5.len]; exact q1
        · rw [updK, if_neg hk, if_neg hl]
          exact ⟨b, vl, vr, Fl, Fr, h1, (hf b (by simp) (fun q => d2 b' hm q.symm)).trans h2, rfl, h4, h5.frame (fun c hc => hf c (by simp [hc]) (fun q => (d1 c hc).2 (q ▸ hm))), q3 w' u' x' (fun c hc hne => hf c (by simp [hc]) hne) hb⟩
end Go.Proofs.Ytfienpkogkepkaa

/- trie: a tree but for one node. No condition. -/
namespace Go.Proofs.Ytfienpkogkepkaa
set_option linter.unusedVariables false
set_option linter.unusedSimpArgs false
open Go.RowKit E
theorem blks_pB (G : List Nat) (b : Nat) : b ∈ blksOf (.tuple (G.map pB).toArray) ↔ b ∈ G := by
  have e : (G.map pB).filterMap (fun u => (baseOf u).map (·.block)) = G := by
    rw [List.filterMap_map]
    have : ((fun u : Value => (baseOf u).map (·.block)) ∘ pB) = some := by funext x; rfl
    rw [this, List.filterMap_some]
  have e2 : blksOf (.tuple (G.map pB).toArray) = (G.map pB).filterMap (fun u => (baseOf u).map (·.block)) := rfl
  rw [e2, e]
/-- A tree but for the box of one node. -/
def HA (v0 : Value) (b : Nat) (a n : Int) (vl vr : Value) (t : PT) (k : Nat) : Abs where
  R := fun vs w => ∃ G : List Nat, vs = (G.map pB).toArray ∧ b ∉ G ∧ (∀ c, c ∈ G → c < w.heap.size) ∧ ∀ (w' : World) (u' : Bool) (x' : Int), (∀ c, c ∈ G → w'.heap[c]? = w.heap[c]?) → w'.heap[b]? = some (.cells (ndC a n u' x' vl vr) tNd (0, 0)) → ∃ F, TrW w' (updK t k u' x') v0 F ∧ ∀ c, c ∈ F ↔ c = b ∨ c ∈ G
  loc := by
    rintro vs w w' ⟨G, rfl, h1, h2, h3⟩ hf
    have hf' : ∀ c, c ∈ G → w'.heap[c]? = w.heap[c]? := fun c hc => hf c ((blks_pB G c).2 hc)
    refine ⟨G, rfl, h1, fun c hc => ?_, fun w2 u' x' q1 q2 => h3 w2 u' x' (fun c hc => (q1 c hc).trans (hf' c hc)) q2⟩
    have := hf' c hc
    rw [Array.getElem?_eq_getElem (h2 c hc)] at this
    exact (Array.getElem?_eq_some_iff.1 this).1
  lt := by
    rintro vs w ⟨G, rfl, h1, h2, h3⟩ b hb
    exact h2 b ((blks_pB G b).1 hb)
theorem TrW.hole {w : World} {t : PT} {k : Nat} {v : Value} {F : List Nat} {a n : Int} {u : Bool} {x : Int} {l r : PT} (h : TrW w t v F) (hs : subAt t k = .node a n u x l r) :
    ∃ b al ar, F[k]? = some b ∧ w.heap[b]? = some (.cells (ndC a n u x (.pointer al) (.pointer ar)) tNd (0, 0)) ∧ (HA v b a n (.pointer al) (.pointer ar) t k).R ((F.filter (fun c => c ≠ b)).map pB).toArray w := by
  obtain ⟨b, vl, vr, q1, q2, q3⟩ := h.poke hs
  have hm := List.mem_of_getElem? q1
  refine ⟨b, vl, vr, q1, q2, F.filter (fun c => c ≠ b), rfl, by simp, fun c hc => h.lt c (List.mem_filter.1 hc).1, fun w' u' x' hf hb => ⟨F, q3 w' u' x' (fun c hc hne => hf c (by simp [hc, hne])) hb, fun c => ?_⟩⟩
  by_cases e : c = b
  · subst e; simp [hm]
  · simp [e]
end Go.Proofs.Ytfienpkogkepkaa

/- trie: a node within a tree, written; a tree's root held at its address; a tree under another handle. No condition. -/
namespace Go.Proofs.Ytfienpkogkepkaa
set_option linter.unusedVariables false
set_option linter.unusedSimpArgs false
open Go.RowKit E
/-- Code between, with more handles held, and something found. -/
theorem E.CodeOk.rebaseE {β : Type} {P : Program} {m0 m1 : Nat} {c : Code} {st st3 : E.St} {st1 st2 : β → E.St} {e : Ex} {Q : β → Env → Prop}
    (h : ∀ (cx : Cx) (env : Env) (a : Act) (w : World), cx.m0 = m0 → Ok cx env st a w → ∃ y env1, Q y env1 ∧ Ok cx env1 (st1 y) a w) (hm : m0 ≤ m1) (hl : ∀ y, m1 ≤ (st1 y).mem.length) (k : ∀ y, CodeOk P m1 c (st1 y) e (st2 y))
    (h3 : ∀ (y : β) (cx : Cx) (env1 env2 : Env) (a : Act) (w : World), cx.m0 = m0 → Q y env1 → (∀ j, j < m1 → env2 j = none ∨ env2 j = env1 j) → Ok cx env2 (st2 y) a w → ∃ env3, Ok cx env3 st3 a w) : CodeOk P m0 c st e st3 := fun cx env a w hm0 hk => by
  obtain ⟨y, env1, q, k1⟩ := h cx env a w hm0 hk
  have k1' : Ok ⟨cx.w0, cx.S, m1, env1⟩ env1 (st1 y) a w := ⟨k1.defers, k1.tm, k1.mem, hl y, fun _ _ => .inr rfl⟩
  refine wp_mono (k y ⟨cx.w0, cx.S, m1, env1⟩ env1 a w rfl k1') ?_
  rintro e' a' w' ⟨rfl, env', hk'⟩
  have hfix : ∀ j, j < m1 → env' j = none ∨ env' j = env1 j := hk'.fix
  have hlong : m1 ≤ (st2 y).mem.length := hk'.long
  have k2 : Ok cx env' (st2 y) a' w' := ⟨hk'.defers, hk'.tm, hk'.mem, by rw [hm0]; exact Nat.le_trans hm hlong, fun j hj => by
    rw [hm0] at hj
    rcases hfix j (Nat.lt_of_lt_of_le hj hm) with q | q
    · exact .inl q
    · rcases k1.fix j (by rw [hm0]; exact hj) with r | r
      · exact .inl (by rw [q]; exact r)
      · exact .inr (by rw [q]; exact r)⟩
  obtain ⟨env3, k3⟩ := h3 y cx env1 env' a' w' hm0 q hfix k2
  exact ⟨rfl, env3, k3⟩
/-- The root of one handle is the root of another one. -/
def rnA (h K : Nat) : At → At
  | .root h' 0 nn => if Nat.beq h' h then .root K 0 nn else .root h' 0 nn
  | x => x
theorem rnA_ok {env : Env} {h K : Nat} {vs' : Array Value} {v : Value} (h1 : ∀ vs, env h = some (.tuple vs) → vs[0]? = some v) (h3 : env K = some (.tuple vs')) (h4 : vs'[0]? = some v) (x : At) (u : Value) (hx : x.rel env u) : (rnA h K x).rel env u := by
  unfold rnA
  split
  · split
    · rename_i e
      have e := Nat.eq_of_beq_eq_true e
      subst e
      obtain ⟨vs, ao, e1, e2, e3, e4⟩ := hx
      have := h1 vs e1
      rw [this] at e2
      cases e2
      exact ⟨vs', ao, h3, h4, e3, e4⟩
    · exact hx
  · exact hx
/-- A handle's memory is told in another way. -/
theorem E.MemOk.retell {env : Env} {mem : List Seg} {w0 w : World} {S : Nat → Prop} (h : MemOk env mem w0 w S) (m : Nat) (s s' : Seg) (hm : mem[m]? = some s) (hx : s'.excl = true → s.excl = true) (hl : s'.live → s.live) (ho : SegOk env w m s') : MemOk env (mem.set m s') w0 w S := by
  have get : ∀ k t, (mem.set m s')[k]? = some t → (k = m ∧ t = s') ∨ (k ≠ m ∧ mem[k]? = some t) := by
    intro k t hk
    by_cases e : k = m
    · subst e
      rw [List.getElem?_set_self (List.getElem?_eq_some_iff.1 hm).1] at hk
      exact .inl ⟨rfl, (Option.some.inj hk).symm⟩
    · rw [List.getElem?_set_ne (Ne.symm e)] at hk
      exact .inr ⟨e, hk⟩
  refine ⟨fun k t hk => ?_, fun k hk => h.top k (by simpa using hk), fun k l a t b hk0 hl0 hne hxa hla hb => ?_, fun k a b hk hxa hb => ?_, h.os, h.tape, h.output, h.grow, h.frame⟩
  · rcases get k t hk with ⟨rfl, rfl⟩ | ⟨_, hk⟩
    · exact ho
    · exact h.ok k t hk
  · rcases get k a hk0 with ⟨ek, ea⟩ | ⟨hnk, hk⟩ <;> rcases get l t hl0 with ⟨el, et⟩ | ⟨hnl, hl'⟩
    · exact absurd (ek.trans el.symm) hne
    · subst ek; subst ea; exact h.sep k l s t b hm hl' hne (hx hxa) hla hb
    · subst el; subst et; exact h.sep k l a s b hk hm hne hxa (hl hla) hb
    · exact h.sep k l a t b hk hl' hne hxa hla hb
  · rcases get k a hk with ⟨rfl, rfl⟩ | ⟨hnk, hk⟩
    · exact h.own k s b hm (hx hxa) hb
    · exact h.own k a b hk hxa hb
section
variable {P : Program} {m0 : Nat} {c : Code} {tm tm2 : List SV} {mem M : List Seg} {h k j : Nat} {t t' : PT} {a n : Int} {u : Bool} {x : Int} {l r : PT} {e : Ex} {u' : Bool} {x' : Int}
/-- Code that writes one node of a tree, found by its place. -/
theorem hole_code (hh : mem[h]? = some (.abs (TA none t))) (hs : subAt t k = .node a n u x l r) (hm : m0 ≤ mem.length) (hM : M.length = mem.length)
    (hc : ∀ y : Value × Nat × Option Addr × Option Addr, CodeOk P (mem.length + 2) c ⟨tm.map (SV.map (lkA h k mem.length)), dropAll mem [h] ++ [.box tNd (ndA a n u x (.val (.pointer y.2.2.1)) (.val (.pointer y.2.2.2))), .abs (HA y.1 y.2.1 a n (.pointer y.2.2.1) (.pointer y.2.2.2) t k)]⟩ e
      ⟨tm2, M ++ [.box tNd (ndA a n u' x' (.val (.pointer y.2.2.1)) (.val (.pointer y.2.2.2))), .abs (HA y.1 y.2.1 a n (.pointer y.2.2.1) (.pointer y.2.2.2) t k)]⟩) :
    CodeOk P m0 c ⟨tm, mem⟩ e (E.St.map (rnA h (mem.length + 2)) ⟨tm2, M ++ [.gone, .gone, .abs (TA none (updK t k u' x'))]⟩) := by
  have hlt : h < mem.length := (List.getElem?_eq_some_iff.1 hh).1
  have hbb : ∀ c b : Nat, c ∈ blksOf (pB b) ↔ c = b := fun c b => by simp [blksOf, baseOf]
  refine CodeOk.rebaseE (m1 := mem.length + 2) (Q := fun (y : Value × Nat × Option Addr × Option Addr) env1 => (∃ vs, env1 h = some (.tuple vs) ∧ vs[0]? = some y.1) ∧ env1 mem.length = some (pB y.2.1)) ?_ (by omega) (fun y => by simp [dropAll_len]) hc ?_
  · intro cx env act w _ hk
    obtain ⟨vs, e1, v', F, rfl, ht, hp⟩ := hk.mem.ok h _ hh
    obtain ⟨b, vl, vr, q1, q2, q3⟩ := ht.hole hs
    have hbF := List.mem_of_getElem? q1
    have eh : extE env mem.length [pB b, .tuple ((F.filter (fun c => c ≠ b)).map pB).toArray] h = some (.tuple (trV v' F)) := by rw [extE_lt hlt]; exact e1
    have eK := extE_ge (env := env) (m := mem.length) (vals := [pB b, .tuple ((F.filter (fun c => c ≠ b)).map pB).toArray]) 0
    rw [Nat.add_zero] at eK
    have hM2 : MemOk (extE env mem.length [pB b, .tuple ((F.filter (fun c => c ≠ b)).map pB).toArray]) (dropAll mem [h] ++ [.box tNd (ndA a n u x (.val (.pointer vl)) (.val (.pointer vr))), .abs (HA v' b a n (.pointer vl) (.pointer vr) t k)]) cx.w0 w cx.S := by
      refine MemOk.recast hk.mem [h] _ _ rfl ?_ ?_ ?_
      · intro i s hi
        match i, hi with
        | 0, hi => cases hi; exact ⟨b, ndC a n u x (.pointer vl) (.pointer vr), extE_ge 0, q2, rfl, rfl, rfl, rfl, rfl, rfl, trivial⟩
        | 1, hi => cases hi; exact ⟨_, extE_ge 1, q3⟩
      · intro i s v c hi hv hc
        refine ⟨h, _, by simp, hh, ?_, fun _ => rfl, trivial⟩
        rw [blk_some e1]
        refine (trV_blks ht.root c).2 ?_
        match i, hv with
        | 0, hv => cases hv; rw [(hbb c b).1 hc]; exact hbF
        | 1, hv => cases hv; exact (List.mem_filter.1 ((blks_pB _ c).1 hc)).1
      · intro i i' s s' v v' c hi hi' hv hv' hne _ _ hc hc'
        match i, i', hv, hv' with
        | 0, 0, _, _ => exact hne rfl
        | 1, 1, _, _ => exact hne rfl
        | 0, 1, hv, hv' => cases hv; cases hv'; have := (List.mem_filter.1 ((blks_pB _ c).1 hc')).2; simp at this; exact this ((hbb c b).1 hc)
        | 1, 0, hv, hv' => cases hv; cases hv'; have := (List.mem_filter.1 ((blks_pB _ c).1 hc)).2; simp at this; exact this ((hbb c b).1 hc')
    have k2 := ok_ext hk hM2 (by simp [dropAll_len])
    exact ⟨(v', b, vl, vr), _, ⟨⟨_, eh, rfl⟩, eK⟩, k2.defers, AllSV.map (σ := lkA h k mem.length) (lkA_ok eh (trV_at q1) eK) k2.tm, k2.mem, k2.long, k2.fix⟩
  · rintro ⟨v0, b, vl, vr⟩ cx env1 env2 act w hm0 ⟨⟨vs, p1, p2⟩, p3⟩ hf hk
    simp only at p1 p2 p3 hk
    have g0 : (M ++ [Seg.box tNd (ndA a n u' x' (.val (.pointer vl)) (.val (.pointer vr))), .abs (HA v0 b a n (.pointer vl) (.pointer vr) t k)])[mem.length]? = some (.box tNd (ndA a n u' x' (.val (.pointer vl)) (.val (.pointer vr)))) := by
      rw [List.getElem?_append_right (by omega), hM, Nat.sub_self]; rfl
    have g1 : (M ++ [Seg.box tNd (ndA a n u' x' (.val (.pointer vl)) (.val (.pointer vr))), .abs (HA v0 b a n (.pointer vl) (.pointer vr) t k)])[mem.length + 1]? = some (.abs (HA v0 b a n (.pointer vl) (.pointer vr) t k)) := by
      rw [List.getElem?_append_right (by omega), hM, Nat.add_sub_cancel_left]; rfl
    obtain ⟨b', cs, e1, e2, e3⟩ := hk.mem.ok _ _ g0
    have hb : b' = b := by
      rcases hf mem.length (by omega) with y | y
      · rw [e1] at y; cases y
      · rw [e1, p3] at y; cases y; rfl
    subst hb
    have ecs : cs = ndC a n u' x' (.pointer vl) (.pointer vr) := by
      have : ∀ L : List Value, AllRel env2 (ndA a n u' x' (.val (.pointer vl)) (.val (.pointer vr))) L → L = (ndC a n u' x' (.pointer vl) (.pointer vr)).toList := by
        intro L hL
        match L, hL with
        | [q1, q2, q3, q4, q5, q6], ⟨h1, h2, h3, h4, h5, h6, _⟩ =>
          have h1 : q1 = _ := h1
          have h2 : q2 = _ := h2
          have h3 : q3 = _ := h3
          have h4 : q4 = _ := h4
          have h5 : q5 = _ := h5
          have h6 : q6 = _ := h6
          rw [h1, h2, h3, h4, h5, h6]
      rw [← Array.toArray_toList (xs := cs), this _ e3]
    subst ecs
    obtain ⟨vs2, f1, G, rfl, f2, f3, f4⟩ := hk.mem.ok _ _ g1
    obtain ⟨F, f5, f6⟩ := f4 w u' x' (fun _ _ => rfl) e2
    have hdl : ∀ env0 : Env, True := fun _ => trivial
    have hmm : MemOk (extE env2 (mem.length + 2) [.tuple (trV v0 F)]) (M ++ [.gone, .gone] ++ [.abs (TA none (updK t k u' x'))]) cx.w0 w cx.S := by
      have hl2 : (M ++ [Seg.box tNd (ndA a n u' x' (.val (.pointer vl)) (.val (.pointer vr))), .abs (HA v0 b' a n (.pointer vl) (.pointer vr) t k)]).length = mem.length + 2 := by simp [hM]
      have ed : dropAll (M ++ [Seg.box tNd (ndA a n u' x' (.val (.pointer vl)) (.val (.pointer vr))), .abs (HA v0 b' a n (.pointer vl) (.pointer vr) t k)]) [mem.length, mem.length + 1] = M ++ [.gone, .gone] := by
        show ((M ++ [Seg.box tNd (ndA a n u' x' (.val (.pointer vl)) (.val (.pointer vr))), Seg.abs (HA v0 b' a n (.pointer vl) (.pointer vr) t k)]).set mem.length .gone).set (mem.length + 1) .gone = _
        rw [List.set_append_right _ _ (by omega), List.set_append_right _ _ (by omega), hM, Nat.sub_self, Nat.add_sub_cancel_left]
        rfl
      rw [← ed, ← hl2]
      refine MemOk.recast hk.mem [mem.length, mem.length + 1] _ _ rfl ?_ ?_ ?_
      · intro i s hi
        match i, hi with
        | 0, hi => cases hi; exact ⟨_, extE_ge 0, v0, F, rfl, f5, fun u hu => by cases hu⟩
      · intro i s v c hi hv hc
        match i, hv, hi with
        | 0, hv, hi =>
          cases hv; cases hi
          rcases (f6 c).1 ((trV_blks f5.root c).1 hc) with rfl | q
          · exact ⟨mem.length, _, by simp, g0, by rw [blk_some e1]; exact (hbb _ _).2 rfl, fun _ => rfl, trivial⟩
          · exact ⟨mem.length + 1, _, by simp, g1, by rw [blk_some f1]; exact (blks_pB G c).2 q, fun _ => rfl, trivial⟩
      · intro i i' s s' v v' c hi hi' _ _ hne
        match i, i', hi, hi' with
        | 0, 0, _, _ => exact (hne rfl).elim
    have hl2 : (M ++ [Seg.box tNd (ndA a n u' x' (.val (.pointer vl)) (.val (.pointer vr))), .abs (HA v0 b' a n (.pointer vl) (.pointer vr) t k)]).length = mem.length + 2 := by simp [hM]
    rw [← hl2] at hmm
    have k2 := ok_ext hk hmm (by simp)
    rw [hl2] at k2
    have eK := extE_ge (env := env2) (m := mem.length + 2) (vals := [.tuple (trV v0 F)]) 0
    rw [Nat.add_zero] at eK
    have k3 := ok_map (σ := rnA h (mem.length + 2)) (rnA_ok (v := v0) (fun vs' hv => by
      rw [extE_lt (by omega)] at hv
      rcases hf h (by omega) with y | y
      · rw [hv] at y; cases y
      · rw [hv, p1] at y; cases y; exact p2) eK rfl) k2
    rw [List.append_assoc] at k3
    exact ⟨_, k3⟩
/-- Code that holds a tree's root at its address. -/
theorem pin_code (hh : mem[h]? = some (.abs (TA none t))) (hm : m0 ≤ mem.length) (hj : M[j]? = some (.abs (TA none t')))
    (hc : ∀ v : Value, CodeOk P mem.length c ⟨tm, mem.set h (.abs (TA (some v) t))⟩ e ⟨tm2, M.set j (.abs (TA (some v) t'))⟩) :
    CodeOk P m0 c ⟨tm, mem⟩ e (E.St.map (rnA h j) ⟨tm2, M⟩) := by
  have hlt : h < mem.length := (List.getElem?_eq_some_iff.1 hh).1
  have hjl : j < M.length := (List.getElem?_eq_some_iff.1 hj).1
  refine CodeOk.rebaseE (m1 := mem.length) (Q := fun (y : Value) env1 => ∃ vs, env1 h = some (.tuple vs) ∧ vs[0]? = some y) ?_ hm (fun y => by simp) hc ?_
  · intro cx env act w _ hk
    obtain ⟨vs, e1, v', F, rfl, ht, hp⟩ := hk.mem.ok h _ hh
    exact ⟨v', env, ⟨_, e1, rfl⟩, hk.defers, hk.tm, hk.mem.retell h _ _ hh (fun _ => rfl) (fun _ => trivial) ⟨_, e1, v', F, rfl, ht, fun u hu => by cases hu; rfl⟩, by have := hk.long; simpa using this, hk.fix⟩
  · rintro v cx env1 env2 act w hm0 ⟨vs, p1, p2⟩ hf hk
    have g : (M.set j (.abs (TA (some v) t')))[j]? = some (.abs (TA (some v) t')) := List.getElem?_set_self hjl
    obtain ⟨vs2, e1, v', F, rfl, ht, hp⟩ := hk.mem.ok j _ g
    have hv : v' = v := hp v rfl
    subst hv
    have em : (M.set j (Seg.abs (TA (some v') t'))).set j (.abs (TA none t')) = M := by
      rw [List.set_set]
      apply List.ext_getElem? fun i => ?_
      by_cases q : i = j
      · subst q; rw [List.getElem?_set_self hjl, hj]
      · rw [List.getElem?_set_ne (Ne.symm q)]
    have hmm := hk.mem.retell j _ (.abs (TA none t')) g (fun _ => rfl) (fun _ => trivial) ⟨_, e1, v', F, rfl, ht, fun u hu => by cases hu⟩
    rw [em] at hmm
    have k2 : Ok cx env2 ⟨tm2, M⟩ act w := ⟨hk.defers, hk.tm, hmm, by have := hk.long; simpa using this, hk.fix⟩
    exact ⟨env2, ok_map (rnA_ok (v := v') (fun vs' hv => by
      rcases hf h hlt with y | y
      · rw [hv] at y; cases y
      · rw [hv, p1] at y; cases y; exact p2) e1 rfl) k2⟩
/-- A tree under another handle. -/
theorem mv_tran {A : Abs} (hA : ∀ vs w, A.R vs w → ∃ v, vs[0]? = some v) (hh : mem[h]? = some (.abs A)) : Tran m0 ⟨tm, mem⟩ (E.St.map (rnA h mem.length) ⟨tm, dropAll mem [h] ++ [.abs A]⟩) := fun cx env act w _ hk => by
  have hlt : h < mem.length := (List.getElem?_eq_some_iff.1 hh).1
  obtain ⟨vs, e1, hR⟩ := hk.mem.ok h _ hh
  obtain ⟨v, hv⟩ := hA vs w hR
  have hM : MemOk (extE env mem.length [.tuple vs]) (dropAll mem [h] ++ [.abs A]) cx.w0 w cx.S := by
    refine MemOk.recast hk.mem [h] _ _ rfl ?_ ?_ ?_
    · intro i s hi
      match i, hi with
      | 0, hi => cases hi; exact ⟨_, extE_ge 0, hR⟩
    · intro i s v c hi hv hc
      match i, hv, hi with
      | 0, hv, hi => cases hv; cases hi; exact ⟨h, _, by simp, hh, by rw [blk_some e1]; exact hc, fun _ => rfl, trivial⟩
    · intro i i' s s' v v' c hi hi' _ _ hne
      match i, i', hi, hi' with
      | 0, 0, _, _ => exact (hne rfl).elim
  have k2 := ok_ext hk hM (by simp [dropAll_len])
  have eK := extE_ge (env := env) (m := mem.length) (vals := [.tuple vs]) 0
  rw [Nat.add_zero] at eK
  exact ⟨_, ok_map (rnA_ok (v := v) (fun vs' hv' => by
    rw [extE_lt hlt, e1] at hv'
    cases hv'; exact hv) eK hv) k2⟩
theorem TA_root {pin : Option Value} {t : PT} (vs : Array Value) (w : World) (h : (TA pin t).R vs w) : ∃ v, vs[0]? = some v := by
  obtain ⟨v, F, rfl, _⟩ := h
  exact ⟨v, rfl⟩
end
end Go.Proofs.Ytfienpkogkepkaa

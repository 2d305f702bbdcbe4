/- mail: a family of boxes as a thing of many parts. No condition. -/
import Derived.Test.YtajdkbgbekdbmaaMlI
import Derived.Test.YtajdkbgbekdbmaaEU
namespace Go.Proofs.Ytajdkbgbekdbmaa
set_option linter.unusedVariables false
set_option linter.unusedSimpArgs false
open Go.RowKit E
/-- A specification with one answer. -/
def gLit (cs : CS) : List SV → List Seg → Option (CS × List Prop) := fun _ _ => some (cs, [])
theorem spLit {f : FuncId} {cs : CS} (h : FnOk Try.prog f cs.args cs.mem cs.r cs.mem') : SpOk Try.prog f (.lift (gLit cs)) := by
  intro args mem cs' obl hg ho
  unfold gLit at hg
  simp only [Option.some.injEq, Prod.mk.injEq] at hg
  obtain ⟨rfl, rfl⟩ := hg
  exact h
abbrev FnCs (f : FuncId) (cs : CS) : Prop := FnOk Try.prog f cs.args cs.mem cs.r cs.mem'
abbrev vI (x : Int) : Value := .int .i64 x
abbrev gN (T : Nat → Int) : Nat → List At := (fun i => [.val (.int .i64 (T i))])
def lT (L : List Int) : Nat → Int := fun i => L.getD i 0
abbrev pB (b : Nat) : Value := .pointer (some ⟨b, 0, none⟩)
theorem blks_pB (G : List Nat) (b : Nat) : b ∈ blksOf (.tuple (G.map pB).toArray) ↔ b ∈ G := by
  have e : (G.map pB).filterMap (fun u => (baseOf u).map (·.block)) = G := by
    rw [List.filterMap_map]
    have : ((fun u : Value => (baseOf u).map (·.block)) ∘ pB) = some := by funext x; rfl
    rw [this, List.filterMap_some]
  have e2 : blksOf (.tuple (G.map pB).toArray) = (G.map pB).filterMap (fun u => (baseOf u).map (·.block)) := rfl
  rw [e2, e]
abbrev tBx : TypeId := 56
/-- The blocks of a family: its boxes, then their channels. -/
def faB (G : List (Nat × Nat)) : List Nat := G.map Prod.fst ++ G.map Prod.snd
structure FaW (w : World) (G : List (Nat × Nat)) (L : List (List Int)) : Prop where
  len : G.length = L.length
  nd : (faB G).Nodup
  ok : ∀ (j : Nat) g l, G[j]? = some g → L[j]? = some l → w.heap[g.1]? = some (.cells #[.chan (some g.2), .bool false] tBx (0, 0)) ∧ ∃ s r, w.heap[g.2]? = some (.chan 60 (l.map vI).toArray false s r false)
def faV (G : List (Nat × Nat)) : Array Value := ((faB G).map pB).toArray
theorem FaW.at {w : World} {G : List (Nat × Nat)} {L : List (List Int)} (h : FaW w G L) {b : Nat} (hb : b ∈ faB G) : ∃ (j : Nat) (g : Nat × Nat) (l : List Int), G[j]? = some g ∧ L[j]? = some l ∧ (b = g.1 ∨ b = g.2) := by
  have key : ∀ g, g ∈ G → ∃ (j : Nat) (l : List Int), G[j]? = some g ∧ L[j]? = some l := fun g hg => by
    obtain ⟨j, hj⟩ := List.mem_iff_getElem?.1 hg
    have hlt := (List.getElem?_eq_some_iff.1 hj).1
    exact ⟨j, L[j]'(by rw [← h.len]; exact hlt), hj, List.getElem?_eq_getElem _⟩
  rcases List.mem_append.1 hb with q | q
  · obtain ⟨g, hg, rfl⟩ := List.mem_map.1 q
    obtain ⟨j, l, h1, h2⟩ := key g hg
    exact ⟨j, g, l, h1, h2, .inl rfl⟩
  · obtain ⟨g, hg, rfl⟩ := List.mem_map.1 q
    obtain ⟨j, l, h1, h2⟩ := key g hg
    exact ⟨j, g, l, h1, h2, .inr rfl⟩
theorem fa_mem {G : List (Nat × Nat)} {j : Nat} {g : Nat × Nat} (h : G[j]? = some g) : g.1 ∈ faB G ∧ g.2 ∈ faB G :=
  have := List.mem_of_getElem? h
  ⟨List.mem_append.2 (.inl (List.mem_map.2 ⟨g, this, rfl⟩)), List.mem_append.2 (.inr (List.mem_map.2 ⟨g, this, rfl⟩))⟩
theorem FaW.frame {w w' : World} {G : List (Nat × Nat)} {L : List (List Int)} (h : FaW w G L) (hf : ∀ b, b ∈ faB G → w'.heap[b]? = w.heap[b]?) : FaW w' G L :=
  ⟨h.len, h.nd, fun j g l hg hl => by
    rw [hf g.1 (fa_mem hg).1, hf g.2 (fa_mem hg).2]
    exact h.ok j g l hg hl⟩
theorem FaW.lt {w : World} {G : List (Nat × Nat)} {L : List (List Int)} (h : FaW w G L) {b : Nat} (hb : b ∈ faB G) : b < w.heap.size := by
  obtain ⟨j, g, l, h1, h2, h3⟩ := h.at hb
  obtain ⟨k1, s, r, k2⟩ := h.ok j g l h1 h2
  rcases h3 with rfl | rfl
  · exact (Array.getElem?_eq_some_iff.1 k1).1
  · exact (Array.getElem?_eq_some_iff.1 k2).1
/-- A family of boxes of room 60, and what lies in each. -/
def FA (L : List (List Int)) : Abs where
  R := fun vs w => ∃ G, vs = faV G ∧ FaW w G L
  loc := by
    rintro vs w w' ⟨G, rfl, h⟩ hf
    exact ⟨G, rfl, h.frame (fun b hb => hf b ((blks_pB _ b).2 hb))⟩
  lt := by
    rintro vs w ⟨G, rfl, h⟩ b hb
    exact h.lt ((blks_pB _ b).1 hb)
theorem faV_at {G : List (Nat × Nat)} {k : Nat} {g : Nat × Nat} (h : G[k]? = some g) : (faV G)[k]? = some (pB g.1) := by
  have hlt := (List.getElem?_eq_some_iff.1 h).1
  unfold faV faB
  rw [List.getElem?_toArray, List.map_append, List.getElem?_append_left (by simpa using hlt)]
  simp [h]
/-- Two boxes of a family are apart. -/
theorem fa_apart {G : List (Nat × Nat)} (hn : (faB G).Nodup) {i j : Nat} {g h : Nat × Nat} (hi : G[i]? = some g) (hj : G[j]? = some h) (hne : i ≠ j) : g.1 ≠ h.1 ∧ g.1 ≠ h.2 ∧ g.2 ≠ h.1 ∧ g.2 ≠ h.2 := by
  unfold faB at hn
  rw [List.nodup_append] at hn
  obtain ⟨n1, n2, n3⟩ := hn
  have m1 : ∀ {i : Nat} {g : Nat × Nat}, G[i]? = some g → (G.map Prod.fst)[i]? = some g.1 ∧ (G.map Prod.snd)[i]? = some g.2 := fun h => by simp [h]
  refine ⟨fun e => ?_, fun e => ?_, fun e => ?_, fun e => ?_⟩
  · have a := (m1 hi).1
    have b := (m1 hj).1
    rw [e] at a
    exact hne ((List.getElem?_inj (List.getElem?_eq_some_iff.1 a).1 n1).1 (a.trans b.symm))
  · exact n3 _ (List.mem_of_getElem? (m1 hi).1) _ (List.mem_of_getElem? (m1 hj).2) e
  · exact n3 _ (List.mem_of_getElem? (m1 hj).1) _ (List.mem_of_getElem? (m1 hi).2) e.symm
  · have a := (m1 hi).2
    have b := (m1 hj).2
    rw [e] at a
    exact hne ((List.getElem?_inj (List.getElem?_eq_some_iff.1 a).1 n2).1 (a.trans b.symm))
theorem fa_own {G : List (Nat × Nat)} (hn : (faB G).Nodup) {i : Nat} {g : Nat × Nat} (hi : G[i]? = some g) : g.1 ≠ g.2 := by
  unfold faB at hn
  rw [List.nodup_append] at hn
  have hm := List.mem_of_getElem? hi
  exact hn.2.2 _ (List.mem_map.2 ⟨g, hm, rfl⟩) _ (List.mem_map.2 ⟨g, hm, rfl⟩)
/-- A function of one box, of a family's. -/
theorem fn_fam {f : FuncId} {L : List (List Int)} {k : Nat} {l l' : List Int} {r : SV} (hk : L[k]? = some l) (hr : ∀ env env' v, r.rel env v → r.rel env' v) (hf : FnOk Try.prog f [pz] (mbMI false 60 (l.map vI) false) r (mbMI false 60 (l'.map vI) false)) :
    FnOk Try.prog f [.nv (.one (.root 0 k true))] [.abs (FA L)] r [.abs (FA (L.set k l'))] := by
  intro env w0 w S vals hv hm
  obtain ⟨vs, e0, G, rfl, hG⟩ := hm.ok 0 _ rfl
  have hlt : k < G.length := by rw [hG.len]; exact (List.getElem?_eq_some_iff.1 hk).1
  have hg : G[k]? = some G[k] := List.getElem?_eq_getElem hlt
  generalize hge : G[k] = g at hg
  obtain ⟨k1, s, c, k2⟩ := hG.ok k g l hg hk
  have hgm := fa_mem hg
  have hne := fa_own hG.nd hg
  match vals, hv with
  | [v], hv =>
    obtain ⟨⟨vs', ao, p1, p2, p3, p4⟩, _⟩ := hv
    rw [e0] at p1
    cases p1
    rw [faV_at hg] at p2
    cases p2
    let env1 : Env := fun h => if h = 0 then some (pB g.1) else if h = 1 then some (pB g.2) else none
    have b0 : ∀ b, blk env1 0 b ↔ b = g.1 := fun b => by rw [blk_some (v := pB g.1) rfl]; simp [blksOf, baseOf]
    have b1 : ∀ b, blk env1 1 b ↔ b = g.2 := fun b => by rw [blk_some (v := pB g.2) rfl]; simp [blksOf, baseOf]
    have hm1 : MemOk env1 (mbMI false 60 (l.map vI) false) w w (fun b => b = g.1 ∨ b = g.2) := by
      refine ⟨fun j s hj => ?_, fun j hj => ?_, fun i j s t b hi hj hij hx hl hb hb' => ?_, fun j s b hj hx hb => ?_, rfl, rfl, rfl, Nat.le_refl _, fun _ _ _ => rfl⟩
      · match j, hj with
        | 0, hj => cases hj; exact ⟨g.1, _, rfl, k1, ⟨g.2, rfl, rfl⟩, rfl, trivial⟩
        | 1, hj => cases hj; exact ⟨g.2, s, c, rfl, k2⟩
      · have hj : 2 ≤ j := hj
        show (if j = 0 then _ else _) = _
        rw [if_neg (by omega), if_neg (by omega)]
      · match i, j, hi, hj with
        | 0, 0, _, _ => exact hij rfl
        | 1, 1, _, _ => exact hij rfl
        | 0, 1, _, _ => exact hne (((b0 b).1 hb).symm.trans ((b1 b).1 hb'))
        | 1, 0, _, _ => exact hne (((b0 b).1 hb').symm.trans ((b1 b).1 hb))
      · match j, hj with
        | 0, _ => exact .inr (.inl ((b0 b).1 hb))
        | 1, _ => exact .inr (.inr ((b1 b).1 hb))
    have hv1 : AllSV env1 [pz] [pB g.1] := ⟨⟨pB g.1, ⟨g.1, 0, none⟩, rfl, rfl, by simp [Addr.add]⟩, trivial⟩
    refine (hf env1 w w _ [pB g.1] hv1 hm1).mono ?_
    rintro e w' ⟨u, env2, rfl, q1, q2, q3, q4, q5⟩
    obtain ⟨z1, cs, z2, z3, z4⟩ := q5.ok 0 _ rfl
    obtain ⟨y1, s', c', y2, y3⟩ := q5.ok 1 _ rfl
    rw [q2 0 (show 0 < 2 by omega)] at z2
    rw [q2 1 (show 1 < 2 by omega)] at y2
    have z2 : pB g.1 = pB z1 := Option.some.inj z2
    have y2 : pB g.2 = pB y1 := Option.some.inj y2
    simp only [Value.pointer.injEq, Option.some.injEq, Addr.mk.injEq, and_true] at z2 y2
    subst z2; subst y2
    have hcs : cs = #[.chan (some g.2), .bool false] := by
      have : ∀ M : List Value, AllRel env2 [.chn 1, .val (.bool false)] M → M = [.chan (some g.2), .bool false] := by
        intro M hM
        match M, hM with
        | [x, y], ⟨⟨b, x1, x2⟩, y1, _⟩ =>
          have y1 : y = .bool false := y1
          rw [q2 1 (show 1 < 2 by omega)] at x1
          have x1 : pB g.2 = pB b := Option.some.inj x1
          simp only [Value.pointer.injEq, Option.some.injEq, Addr.mk.injEq, and_true] at x1
          rw [x2, y1, x1]
      rw [← Array.toArray_toList (xs := cs), this _ z4]
    rw [hcs] at z3
    have hsz : w.heap.size ≤ w'.heap.size := q5.grow
    have hfr : ∀ b, b < w.heap.size → b ≠ g.1 → b ≠ g.2 → w'.heap[b]? = w.heap[b]? := fun b hb n1 n2 => q5.frame b hb (by rintro (q | q); exact n1 q; exact n2 q)
    have hW : FaW w' G (L.set k l') := by
      refine ⟨by rw [List.length_set]; exact hG.len, hG.nd, fun j h m hj hm => ?_⟩
      by_cases e : k = j
      · subst e
        rw [hg] at hj
        cases hj
        rw [List.getElem?_set_self (by rw [← hG.len]; exact hlt)] at hm
        cases hm
        exact ⟨z3, s', c', y3⟩
      · rw [List.getElem?_set_ne e] at hm
        obtain ⟨a1, a2, a3, a4⟩ := fa_apart hG.nd hj hg (Ne.symm e)
        have hl := hG.ok j h m hj hm
        have l1 := hG.lt (fa_mem hj).1
        have l2 := hG.lt (fa_mem hj).2
        rw [hfr h.1 l1 a1 a2, hfr h.2 l2 a3 a4]
        exact hl
    have hbl : ∀ b, blk env 0 b ↔ b ∈ faB G := fun b => by rw [blk_some e0]; exact blks_pB _ b
    refine ⟨u, env, rfl, Env.le_refl _, fun _ _ => rfl, Nat.le_refl _, hr _ _ _ q4, ?_, fun j hj => hm.top j hj, ?_, ?_, q5.os.trans hm.os, q5.tape.trans hm.tape, q5.output.trans hm.output, Nat.le_trans hm.grow hsz, ?_⟩
    · intro j s hj
      match j, hj with
      | 0, hj => cases hj; exact ⟨_, e0, G, rfl, hW⟩
    · intro i j s t b hi hj hij
      match i, j, hi, hj with
      | 0, 0, _, _ => exact (hij rfl).elim
    · intro j s b hj hx hb
      match j, hj with
      | 0, hj => exact hm.own 0 _ b rfl rfl hb
    · intro b hb hS
      have o1 := hm.own 0 _ g.1 rfl rfl ((hbl _).2 hgm.1)
      have o2 := hm.own 0 _ g.2 rfl rfl ((hbl _).2 hgm.2)
      rw [hfr b (Nat.lt_of_lt_of_le hb hm.grow) (fun e => by subst e; rcases o1 with q | q; omega; exact hS q) (fun e => by subst e; rcases o2 with q | q; omega; exact hS q)]
      exact hm.frame b hb hS
/-! Take, of a family's box -/
structure TkN where
  L : List (List Int)
  k : Nat
  x : Int
  t : List Int
def csTk (N : TkN) : CS := ⟨[.nv (.one (.root 0 N.k true))], [.abs (FA N.L)], .tup [.one (.val (.int .i64 N.x)), .one (.val (.bool true))], [.abs (FA (N.L.set N.k N.t))]⟩
def csTn (N : TkN) : CS := ⟨[.nv (.one (.root 0 N.k true))], [.abs (FA N.L)], .tup [.one (.val (.int .i64 0)), .one (.val (.bool false))], [.abs (FA N.L)]⟩
theorem tk_fn {N : TkN} (h : N.L[N.k]? = some (N.x :: N.t)) : FnCs 13 (csTk N) :=
  fn_fam h (fun _ _ _ q => SV.plain_rel rfl q) (fnTakeyI false 60 _ _ _)
theorem set_same {α : Type} : ∀ {L : List α} {k : Nat} {l : α}, L[k]? = some l → L.set k l = L
  | [], _, _, h => by simp at h
  | a :: L, 0, l, h => by simp at h; subst h; rfl
  | a :: L, k + 1, l, h => by simp at h; rw [List.set_cons_succ, set_same h]
theorem tn_fn {N : TkN} (h : N.L[N.k]? = some []) : FnCs 13 (csTn N) := by
  have := fn_fam (f := 13) (l' := []) (r := .tup [.one (.val (.int .i64 0)), .one (.val (.bool false))]) h (fun _ _ _ q => SV.plain_rel rfl q) (fnTake0I false 60)
  rw [set_same h] at this
  exact this
def Gtk (N : TkN) : List (FuncId × Sp) := (13, .lift (gLit (csTk N))) :: G0
theorem Gtk_ok (N : TkN) (ih : N.L[N.k]? = some (N.x :: N.t)) : CtxOk Try.prog (Gtk N) := ctx_cons (enter_of Try.func13 (by kernel_rfl) (by kernel_rfl)) (spLit (tk_fn ih)) G0_ok
def Gtn (N : TkN) : List (FuncId × Sp) := (13, .lift (gLit (csTn N))) :: G0
theorem Gtn_ok (N : TkN) (ih : N.L[N.k]? = some []) : CtxOk Try.prog (Gtn N) := ctx_cons (enter_of Try.func13 (by kernel_rfl) (by kernel_rfl)) (spLit (tn_fn ih)) G0_ok
end Go.Proofs.Ytajdkbgbekdbmaa

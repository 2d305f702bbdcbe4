/- mail: First on a family; a family grows; a slice in a slot is brought in. No condition. -/
import Derived.Test.YtajdkbgbekdbmaaMlY0
import Derived.Test.YtajdkbgbekdbmaaEW
namespace Go.Proofs.Ytajdkbgbekdbmaa
set_option linter.unusedVariables false
set_option linter.unusedSimpArgs false
open Go.RowKit E
/-! First -/
def rtG (h : Nat) : Nat → List At := fun j => [.root h j true]
def frS (n : Nat) (i : Nat) (L : List (List Int)) : E.St := mkSt 27 [(10, .nv (.one (.own 0))), (11, iA n), (12, iA i)] [.ro 1 n (fun j => [.root 1 j true]), .abs (FA L)]
theorem fr_loop {n : Nat} (hn : n ≤ 20) {L : List (List Int)} (hl : L.length = n) : ∀ (m i : Nat), i + m = n →
    ((∀ j, i ≤ j → j < n → L[j]? = some []) ∧ LoopOk Try.prog 2 (loopOf Try.f10 0) (frS n i L) (.exit 0) (mkSt 27 [] [.ro 1 n (fun j => [.root 1 j true]), .abs (FA L)])) ∨
    ∃ (k : Nat) (x : Int) (t : List Int), i ≤ k ∧ k < n ∧ (∀ j, i ≤ j → j < k → L[j]? = some []) ∧ L[k]? = some (x :: t) ∧
      LoopOk Try.prog 2 (loopOf Try.f10 0) (frS n i L) .ret (mkSt 27 [(2, iA k), (3, iA x), (4, bA true)] [.ro 1 n (fun j => [.root 1 j true]), .abs (FA (L.set k t))])
  | 0, i, hm => by
    have : i = n := by omega
    subst this
    exact .inl ⟨fun j h1 h2 => absurd h1 (by omega), LoopOk.last (by simp) (fr_x L i hn)⟩
  | m + 1, i, hm => by
    have hi : i < n := by omega
    have hg : L[i]? = some L[i] := List.getElem?_eq_getElem (by omega)
    cases hq : L[i] with
    | nil =>
      rw [hq] at hg
      have h1 := fr_n ⟨L, i, 0, []⟩ hg n hn hi
      rcases fr_loop hn hl m (i + 1) (by omega) with ⟨q1, q2⟩ | ⟨k, x, t, q1, q2, q3, q4, q5⟩
      · exact .inl ⟨fun j z1 z2 => by
          by_cases e : j = i
          · subst e; exact hg
          · exact q1 j (by omega) z2, LoopOk.step h1 q2⟩
      · exact .inr ⟨k, x, t, by omega, q2, fun j z1 z2 => by
          by_cases e : j = i
          · subst e; exact hg
          · exact q3 j (by omega) z2, q4, LoopOk.step h1 q5⟩
    | cons x t =>
      rw [hq] at hg
      exact .inr ⟨i, x, t, Nat.le_refl _, hi, fun j z1 z2 => absurd z1 (by omega), hg, LoopOk.last (by simp) (fr_h ⟨L, i, x, t⟩ hg n hn hi)⟩
structure FiN where
  L : List (List Int)
  n : Nat
  k : Nat
  x : Int
  t : List Int
def csFi (N : FiN) : CS := ⟨[.nv (.one (.own 0))], [.ro 1 N.n (fun j => [.root 1 j true]), .abs (FA N.L)], .tup [.one (.val (.int .i64 (N.k : Nat))), .one (.val (.int .i64 N.x)), .one (.val (.bool true))], [.gone, .abs (FA (N.L.set N.k N.t))]⟩
def csFn (N : FiN) : CS := ⟨[.nv (.one (.own 0))], [.ro 1 N.n (fun j => [.root 1 j true]), .abs (FA N.L)], .tup [.one (.val (.int .i64 0)), .one (.val (.int .i64 0)), .one (.val (.bool false))], [.gone, .abs (FA N.L)]⟩
theorem first_fn {n : Nat} (hn : n ≤ 20) {L : List (List Int)} (hl : L.length = n) :
    ((∀ j, j < n → L[j]? = some []) ∧ FnCs 10 (csFn ⟨L, n, 0, 0, []⟩)) ∨
    ∃ (k : Nat) (x : Int) (t : List Int), k < n ∧ (∀ j, j < k → L[j]? = some []) ∧ L[k]? = some (x :: t) ∧ FnCs 10 (csFi ⟨L, n, k, x, t⟩) := by
  rcases fr_loop hn hl n 0 (by omega) with ⟨q1, q2⟩ | ⟨k, x, t, q1, q2, q3, q4, q5⟩
  · exact .inl ⟨fun j h => q1 j (Nat.zero_le _) h, fr_fx L n hn q2.code⟩
  · exact .inr ⟨k, x, t, q2, fun j h => q3 j (Nat.zero_le _) h, q4, fr_fh L _ n k x hn q5.code⟩
/-! Same -/
theorem fnSame (N : Nat) (F G : Nat → Int) (hN : N ≤ 1000000) (h : ∀ i, i < N → F i = G i) : FnOk Try.prog 11 [.nv (.one (.own 0)), .nv (.one (.own 1))] [.ro 1 N (gN F), .ro 1 N (gN G)] (bA true) [.gone, .gone] := by
  refine smt N F G hN ?_
  refine LoopOk.code ?_
  have : ∀ m i, i + m = N → LoopOk Try.prog 2 (loopOf Try.f11 0) (mkSt 26 [(0, .nv (.one (.own 0))), (1, .nv (.one (.own 1))), (5, iA i)] [.ro 1 N (fun i => [.val (.int .i64 (F i))]), .ro 1 N (fun i => [.val (.int .i64 (G i))])]) (.exit 0) (mkSt 26 [] [.ro 1 N (fun i => [.val (.int .i64 (F i))]), .ro 1 N (fun i => [.val (.int .i64 (G i))])]) := by
    intro m
    induction m with
    | zero => intro i hm; obtain rfl : i = N := by omega
              exact LoopOk.last (by simp) (sme i F G hN)
    | succ m ih => intro i hm; exact LoopOk.step (smr N i F G hN (by omega) (h i (by omega))) (ih (i + 1) (by omega))
  exact this N 0 (by omega)
def csSm (al : List Int) : CS := ⟨[.nv (.one (.own 0)), .nv (.one (.own 1))], [.ro 1 al.length (gN (lT al)), .ro 1 al.length (gN (lT al))], bA true, [.gone, .gone]⟩
/-! handles get the names that are told -/
theorem E.Tran.leR {m0 : Nat} {x y : E.St} (ρ : List (Nat × Bd)) (h1 : AllT (leTm ρ y.mem.length x.tm y.tm)) (h2 : AllT (leMem ρ y.mem.length x.mem 0 y.mem)) (hi : injB ρ 0 y.mem = true) (hf : fixB ρ m0 = true) (hm : m0 ≤ y.mem.length) : Tran m0 x y := fun cx env a w hm0 k =>
  ⟨env.cutR ρ y.mem.length, k.defers, leTm_sound h1 k.tm, leMem_sound k.mem rfl h2 hi, by rw [hm0]; exact hm, fun c hc => by
    rw [hm0] at hc
    rw [Env.cutR_lt (fixB_sound hf c hc) (Nat.lt_of_lt_of_le hc hm)]; exact k.fix c (by rw [hm0]; exact hc)⟩
theorem ok_ext {cx : Cx} {env : Env} {tm : List SV} {mem mem' : List Seg} {vals : List Value} {a : Act} {w : World} (hk : Ok cx env ⟨tm, mem⟩ a w) (hm : MemOk (extE env mem.length vals) mem' cx.w0 w cx.S) (hl : mem.length ≤ mem'.length) : Ok cx (extE env mem.length vals) ⟨tm, mem'⟩ a w :=
  ⟨hk.defers, AllSV.le (le_extE hk.mem.top) hk.tm, hm, Nat.le_trans hk.long hl, fun j hj => by rw [extE_lt (Nat.lt_of_lt_of_le hj hk.long)]; exact hk.fix j hj⟩
/-- No boxes at all. -/
theorem fa_nil {m0 : Nat} {tm : List SV} {mem : List Seg} : Tran m0 ⟨tm, mem⟩ ⟨tm, mem ++ [.abs (FA [])]⟩ := fun cx env act w _ hk => by
  have hM : MemOk (extE env mem.length [.tuple #[]]) (dropAll mem [] ++ [.abs (FA [])]) cx.w0 w cx.S := by
    refine MemOk.recast hk.mem [] _ _ rfl ?_ ?_ ?_
    · intro i s hi
      match i, hi with
      | 0, hi => cases hi; exact ⟨_, extE_ge 0, [], rfl, rfl, List.nodup_nil, fun j g l hg _ => by simp at hg⟩
    · intro i s v c hi hv hc
      match i, hv, hi with
      | 0, hv, hi => cases hv; cases hi; simp [blksOf] at hc
    · intro i i' s s' v v' c hi hi' _ _ hne
      match i, i', hi, hi' with
      | 0, 0, _, _ => exact (hne rfl).elim
  exact ⟨_, ok_ext hk hM (by simp)⟩
theorem E.MemOk.retell {env : Env} {mem : List Seg} {w0 w : World} {S : Nat → Prop} (h : MemOk env mem w0 w S) (m : Nat) (s s' : Seg) (hm : mem[m]? = some s) (hx : s'.excl = true → s.excl = true) (hl : s'.live → s.live) (ho : SegOk env w m s') : MemOk env (mem.set m s') w0 w S := by
  have get : ∀ k t, (mem.set m s')[k]? = some t → (k = m ∧ t = s') ∨ (k ≠ m ∧ mem[k]? = some t) := by
    intro k t hk
    by_cases e : k = m
    · subst e
      rw [List.getElem?_set_self (List.getElem?_eq_some_iff.1 hm).1] at hk
      exact .inl ⟨rfl, (Option.some.inj hk).symm⟩
    · rw [List.getElem?_set_ne (Ne.symm e)] at hk
      exact .inr ⟨e, hk⟩
  refine ⟨fun k t hk => ?_, fun k hk => h.top k (by simpa using hk), fun k l a t b hk0 hl0 hne hxa hla hb => ?_, fun k a b hk hxa hb => ?_, h.os, h.tape, h.output, h.grow, h.frame⟩
  · rcases get k t hk with ⟨rfl, rfl⟩ | ⟨_, hk⟩
    · exact ho
    · exact h.ok k t hk
  · rcases get k a hk0 with ⟨ek, ea⟩ | ⟨hnk, hk⟩ <;> rcases get l t hl0 with ⟨el, et⟩ | ⟨hnl, hl'⟩
    · exact absurd (ek.trans el.symm) hne
    · subst ek; subst ea; exact h.sep k l s t b hm hl' hne (hx hxa) hla hb
    · subst el; subst et; exact h.sep k l a s b hk hm hne hxa (hl hla) hb
    · exact h.sep k l a t b hk hl' hne hxa hla hb
  · rcases get k a hk with ⟨rfl, rfl⟩ | ⟨hnk, hk⟩
    · exact h.own k s b hm (hx hxa) hb
    · exact h.own k a b hk hxa hb
/-- The boxes' addresses, the last one's as yet its own. -/
def gBx (i : Nat) : Nat → List At := fun j => if j = i then [.ptr 4 0] else [.root 1 j true]
theorem fa_grow {m0 : Nat} {tm : List SV} {S0 A3 : Seg} {L : List (List Int)} {l : List Int} {tP : TypeId} {i : Nat} (hi : L.length = i) :
    Tran m0 ⟨tm, [S0, .abs (FA L), .row tP 1 (i + 1) (gBx i), A3, .box tBx [.chn 5, .val (.bool false)], .chan 60 (l.map vI) false]⟩
      ⟨tm, [S0, .gone, .row tP 1 (i + 1) (rtG 6), A3, .gone, .gone, .abs (FA (L ++ [l]))]⟩ := fun cx env act w _ hk => by
  obtain ⟨vs, e1, G, rfl, hG⟩ := hk.mem.ok 1 _ rfl
  obtain ⟨b, cs, e4, h4, r4⟩ := hk.mem.ok 4 _ rfl
  obtain ⟨c, s, r, e5, h5⟩ := hk.mem.ok 5 _ rfl
  have hcs : cs = #[.chan (some c), .bool false] := by
    have : ∀ M : List Value, AllRel env [.chn 5, .val (.bool false)] M → M = [.chan (some c), .bool false] := by
      intro M hM
      match M, hM with
      | [x, y], ⟨⟨b', x1, x2⟩, y1, _⟩ =>
        have y1 : y = .bool false := y1
        rw [e5] at x1
        have x1 : pB c = pB b' := Option.some.inj x1
        simp only [Value.pointer.injEq, Option.some.injEq, Addr.mk.injEq, and_true] at x1
        rw [x2, y1, x1]
    rw [← Array.toArray_toList (xs := cs), this _ r4]
  subst hcs
  have bk4 : ∀ x, blk env 4 x ↔ x = b := fun x => by rw [blk_some e4]; simp [blksOf, baseOf]
  have bk5 : ∀ x, blk env 5 x ↔ x = c := fun x => by rw [blk_some e5]; simp [blksOf, baseOf]
  have bk1 : ∀ x, blk env 1 x ↔ x ∈ faB G := fun x => by rw [blk_some e1]; exact blks_pB _ x
  have nb : b ∉ faB G := fun q => hk.mem.sep 4 1 _ _ b rfl rfl (by omega) rfl trivial ((bk4 b).2 rfl) ((bk1 b).2 q)
  have nc : c ∉ faB G := fun q => hk.mem.sep 5 1 _ _ c rfl rfl (by omega) rfl trivial ((bk5 c).2 rfl) ((bk1 c).2 q)
  have nbc : b ≠ c := fun q => hk.mem.sep 4 5 _ _ b rfl rfl (by omega) rfl trivial ((bk4 b).2 rfl) ((bk5 b).2 q)
  have hmem : ∀ x, x ∈ faB (G ++ [(b, c)]) ↔ x ∈ faB G ∨ x = b ∨ x = c := fun x => by
    unfold faB
    simp only [List.map_append, List.map_cons, List.map_nil, List.mem_append, List.mem_singleton]
    constructor
    · rintro ((h | h) | (h | h))
      · exact .inl (.inl h)
      · exact .inr (.inl h)
      · exact .inl (.inr h)
      · exact .inr (.inr h)
    · rintro ((h | h) | h | h)
      · exact .inl (.inl h)
      · exact .inr (.inl h)
      · exact .inl (.inr h)
      · exact .inr (.inr h)
  have hnd : (faB (G ++ [(b, c)])).Nodup := by
    have h0 := hG.nd
    unfold faB at h0 nb nc ⊢
    simp only [List.map_append, List.map_cons, List.map_nil]
    rw [List.nodup_append] at h0
    obtain ⟨n1, n2, n3⟩ := h0
    simp only [List.mem_append, not_or] at nb nc
    rw [List.nodup_append, List.nodup_append, List.nodup_append]
    refine ⟨⟨n1, by simp, fun x hx y hy e => ?_⟩, ⟨n2, by simp, fun x hx y hy e => ?_⟩, fun x hx y hy e => ?_⟩
    · simp at hy; subst hy; subst e; exact nb.1 hx
    · simp at hy; subst hy; subst e; exact nc.2 hx
    · subst e
      rcases List.mem_append.1 hx with hx | hx
      · rcases List.mem_append.1 hy with hy | hy
        · exact n3 _ hx _ hy rfl
        · simp at hy; subst hy; exact nc.1 hx
      · simp at hx
        subst hx
        rcases List.mem_append.1 hy with hy | hy
        · exact nb.2 hy
        · simp at hy; exact nbc hy
  have hW : FaW w (G ++ [(b, c)]) (L ++ [l]) := by
    refine ⟨by simp [hG.len], hnd, fun j g m hg hm => ?_⟩
    by_cases hj : j < G.length
    · rw [List.getElem?_append_left hj] at hg
      rw [List.getElem?_append_left (by rw [← hG.len]; exact hj)] at hm
      exact hG.ok j g m hg hm
    · have hj2 : j = G.length := by
        have := (List.getElem?_eq_some_iff.1 hg).1
        simp at this; omega
      subst hj2
      rw [List.getElem?_append_right (Nat.le_refl _), Nat.sub_self] at hg
      rw [hG.len, List.getElem?_append_right (Nat.le_refl _), Nat.sub_self] at hm
      cases hg; cases hm
      exact ⟨h4, s, r, h5⟩
  have hM : MemOk (extE env 6 [.tuple (faV (G ++ [(b, c)]))]) [S0, .gone, .row tP 1 (i + 1) (gBx i), A3, .gone, .gone, .abs (FA (L ++ [l]))] cx.w0 w cx.S := by
    refine MemOk.recast hk.mem [1, 4, 5] [.tuple (faV (G ++ [(b, c)]))] [.abs (FA (L ++ [l]))] rfl ?_ ?_ ?_
    · intro i s hi
      match i, hi with
      | 0, hi => cases hi; exact ⟨_, extE_ge 0, _, rfl, hW⟩
    · intro i s v x hi hv hx
      match i, hv, hi with
      | 0, hv, hi =>
        cases hv; cases hi
        rcases (hmem x).1 ((blks_pB _ x).1 hx) with q | rfl | rfl
        · exact ⟨1, _, by simp, rfl, (bk1 x).2 q, fun _ => rfl, trivial⟩
        · exact ⟨4, _, by simp, rfl, (bk4 _).2 rfl, fun _ => rfl, trivial⟩
        · exact ⟨5, _, by simp, rfl, (bk5 _).2 rfl, fun _ => rfl, trivial⟩
    · intro i i' s s' v v' x hi hi' _ _ hne
      match i, i', hi, hi' with
      | 0, 0, _, _ => exact (hne rfl).elim
  obtain ⟨v2, cs2, f1, f2, f3, f4, f5⟩ := hM.ok 2 _ rfl
  have e6 : extE env 6 [.tuple (faV (G ++ [(b, c)]))] 6 = some (.tuple (faV (G ++ [(b, c)]))) := rfl
  have e41 : extE env 6 [.tuple (faV (G ++ [(b, c)]))] 4 = some (pB b) := by rw [extE_lt (by omega)]; exact e4
  have e11 : extE env 6 [.tuple (faV (G ++ [(b, c)]))] 1 = some (.tuple (faV G)) := by rw [extE_lt (by omega)]; exact e1
  have hM2 := hM.retell 2 _ (.row tP 1 (i + 1) (rtG 6)) rfl (fun _ => rfl) (fun _ => trivial) ⟨v2, cs2, f1, f2, f3, fun j hj => by
    have := f4 j hj
    unfold gBx at this
    by_cases ej : j = i
    · rw [if_pos ej] at this
      match (cs2.drop (j * 1)).take 1, this with
      | [u], ⟨⟨z1, z2, z3, z4, z5⟩, _⟩ =>
        rw [e41] at z3
        cases z3
        simp only [baseOf, Option.some.injEq] at z4
        subst z4
        have hg : (G ++ [(b, c)])[j]? = some (b, c) := by
          rw [ej, ← hi, ← hG.len, List.getElem?_append_right (Nat.le_refl _), Nat.sub_self]; rfl
        exact ⟨⟨_, some ⟨b, 0, none⟩, e6, by rw [z5]; simpa [Addr.add] using faV_at hg, by rw [z5]; simp [Addr.add], fun _ => by simp⟩, trivial⟩
    · rw [if_neg ej] at this
      match (cs2.drop (j * 1)).take 1, this with
      | [u], ⟨⟨vs', ao, z1, z2, z3, z4⟩, _⟩ =>
        rw [e11] at z1
        cases z1
        have hjl : j < G.length := by rw [hG.len]; omega
        have hg0 : G[j]? = some G[j] := List.getElem?_eq_getElem hjl
        have hg : (G ++ [(b, c)])[j]? = some G[j] := by rw [List.getElem?_append_left hjl]; exact hg0
        rw [faV_at hg0] at z2
        exact ⟨⟨_, ao, e6, (faV_at hg).trans z2, z3, z4⟩, trivial⟩, f5⟩
  exact ⟨_, hk.defers, AllSV.le (le_extE hk.mem.top) hk.tm, hM2, Nat.le_trans hk.long (by show 6 ≤ 7; omega), fun j hj => by
    rw [extE_lt (Nat.lt_of_lt_of_le hj hk.long)]; exact hk.fix j hj⟩
/-! a slot's slice that lay in memory from the beginning -/
def svS (ao : Option Addr) (n cap : Nat) : SV := .nv (.one (.val (.slice ao n cap)))
theorem CodeOkW.bringS {P : Program} {w0 : World} {m0 : Nat} {c : Code} {tm : List SV} {mem : List Seg} {post : E.St} {ex : Ex} {t : Nat} {ao : Option Addr} {n cap : Nat} (ht : tm[t]? = some (svS ao n cap)) {wd : Nat} {g : Nat → List At}
    (hs : ∀ env' : Env, env' mem.length = some (.slice ao n cap) → SegOk env' w0 mem.length (.ro wd n g))
    (h : CodeOkW P w0 m0 c ⟨tm.set t (.nv (.one (.own mem.length))), mem ++ [.ro wd n g]⟩ ex post) : CodeOkW P w0 m0 c ⟨tm, mem⟩ ex post := by
  intro cx env a w k1 k2 k3 hk
  refine h cx (extE env mem.length [.slice ao n cap]) a w k1 k2 k3 ?_
  have eK := extE_ge (env := env) (m := mem.length) (vals := [.slice ao n cap]) 0
  rw [Nat.add_zero] at eK
  have hseg0 := hs (extE env mem.length [.slice ao n cap]) eK
  have hseg : SegOk (extE env mem.length [.slice ao n cap]) w mem.length (.ro wd n g) := hseg0.heap (fun b hb' _ hlt => by rw [← k1] at hlt ⊢; exact hk.mem.frame b hlt (by rw [k2]; exact fun k => k))
  have hM : MemOk (extE env mem.length [.slice ao n cap]) (mem ++ [.ro wd n g]) cx.w0 w cx.S := by
    have hm := hk.mem
    have get : ∀ (j : Nat) s, (mem ++ [.ro wd n g])[j]? = some s → (j < mem.length ∧ mem[j]? = some s) ∨ (j = mem.length ∧ s = .ro wd n g) := fun j s hj => by
      by_cases q : j < mem.length
      · rw [List.getElem?_append_left q] at hj; exact .inl ⟨q, hj⟩
      · rw [List.getElem?_append_right (by omega)] at hj
        have := (List.getElem?_eq_some_iff.1 hj).1
        simp at this
        have : j = mem.length := by omega
        subst this
        rw [Nat.sub_self] at hj
        cases hj
        exact .inr ⟨rfl, rfl⟩
    have bold : ∀ j b, j < mem.length → blk (extE env mem.length [.slice ao n cap]) j b → blk env j b := fun j b hj hb => by rwa [blk_congr (extE_lt hj)] at hb
    refine ⟨fun j s hj => ?_, fun j hj => ?_, fun j k s t' b hj hkk hne hx hl hb hb' => ?_, fun j s b hj hx hb => ?_, hm.os, hm.tape, hm.output, hm.grow, hm.frame⟩
    · rcases get j s hj with ⟨q1, q2⟩ | ⟨rfl, rfl⟩
      · exact (hm.ok j s q2).le (le_extE hm.top)
      · exact hseg
    · simp at hj
      unfold extE
      rw [if_neg (by omega), List.getElem?_eq_none (by simp; omega)]
    · rcases get j s hj with ⟨q1, q2⟩ | ⟨rfl, rfl⟩
      · rcases get k t' hkk with ⟨p1, p2⟩ | ⟨rfl, rfl⟩
        · exact hm.sep j k s t' b q2 p2 hne hx hl (bold j b q1 hb) (bold k b p1 hb')
        · have hlt := hseg0.lt hl hb'
          rcases hm.own j s b q2 hx (bold j b q1 hb) with z | z
          · rw [k1] at z; omega
          · rw [k2] at z; exact z
      · cases hx
    · rcases get j s hj with ⟨q1, q2⟩ | ⟨rfl, rfl⟩
      · exact hm.own j s b q2 hx (bold j b q1 hb)
      · cases hx
  refine ⟨hk.defers, ?_, hM, Nat.le_trans hk.long (by simp), fun j hj => by rw [extE_lt (Nat.lt_of_lt_of_le hj hk.long)]; exact hk.fix j hj⟩
  have h1 : AllSV (extE env mem.length [.slice ao n cap]) tm a.tmps.toList := AllSV.le (le_extE hk.mem.top) hk.tm
  obtain ⟨v, hv, hr⟩ := h1.get ht
  have hr : v = .slice ao n cap := hr
  subst hr
  have h2 := h1.set t (a := .nv (.one (.own mem.length))) (v := .slice ao n cap) ⟨eK, _, _, _, rfl⟩
  have e : a.tmps.toList.set t (.slice ao n cap) = a.tmps.toList := by
    apply List.ext_getElem? fun i => ?_
    by_cases q : i = t
    · subst q
      rw [List.getElem?_set_self (List.getElem?_eq_some_iff.1 hv).1, hv]
    · rw [List.getElem?_set_ne (Ne.symm q)]
  rw [e] at h2
  exact h2
theorem CodeOkW.blk {P : Program} {w0 : World} {m0 id : Nat} {c : Code} {pre post : E.St} (h : CodeOkW P w0 m0 c pre .normal post) : CodeOkW P w0 m0 (.block id c) pre .normal post := by
  intro cx env a w k1 k2 k3 hk
  refine wp_block (wp_mono (h cx env a w k1 k2 k3 hk) ?_)
  rintro e' a' w' ⟨rfl, env', hk'⟩
  exact ⟨rfl, env', hk'⟩
end Go.Proofs.Ytajdkbgbekdbmaa

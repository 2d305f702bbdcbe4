/- trie: find's loop. No condition. -/
import Derived.Test.YtfienpkogkepkaaTfB
namespace Go.Proofs.Ytfienpkogkepkaa
set_option linter.unusedVariables false
set_option linter.unusedSimpArgs false
open Go.RowKit E
section
variable {P : Program} {m0 : Nat} {c : Code} {st st1 st2 : E.St} {e : Ex}
/-- A loop, by its rounds. -/
def E.LpOk (P : Program) (m0 : Nat) (c : Code) (st : E.St) (e : Ex) (st2 : E.St) : Prop := ∃ n, ∀ (cx : Cx) (env : Env) (a : Act) (w : World), cx.m0 = m0 → Ok cx env st a w → Code.rounds P c (fun e' a' w' => e' = e.to ∧ ∃ env', Ok cx env' st2 a' w') n a w
theorem E.LpOk.code (h : LpOk P m0 c st e st2) : CodeOk P m0 (.loop c) st e st2 := fun cx env a w hm hk => by
  obtain ⟨n, h⟩ := h
  exact wp_loop_rounds n (h cx env a w hm hk)
theorem E.LpOk.stop (hne : e ≠ .normal) (h : CodeOk P m0 c st e st2) : LpOk P m0 c st e st2 := ⟨1, fun cx env a w hm hk => by
  rw [rounds_succ]
  refine wp_mono (h cx env a w hm hk) ?_
  rintro e' a' w' ⟨rfl, env', hk'⟩
  cases e with
  | normal => exact (hne rfl).elim
  | exit id => exact ⟨rfl, env', hk'⟩
  | ret => exact ⟨rfl, env', hk'⟩⟩
theorem E.LpOk.step (h : CodeOk P m0 c st .normal st1) (k : LpOk P m0 c st1 e st2) : LpOk P m0 c st e st2 := by
  obtain ⟨n, k⟩ := k
  refine ⟨n + 1, fun cx env a w hm hk => ?_⟩
  rw [rounds_succ]
  refine wp_mono (h cx env a w hm hk) ?_
  rintro e' a' w' ⟨rfl, env', hk'⟩
  exact k cx env' a' w' hm hk'
end
def unA (h k K : Nat) : At → At
  | .ptr h' 0 => if Nat.beq h' K then .root h (k + 1) true else .ptr h' 0
  | x => x
/-- Code that looks at one node of a tree. -/
theorem look_code {P : Program} {m0 : Nat} {c : Code} {tm : List SV} {mem : List Seg} {h k : Nat} {pin : Option Value} {t : PT} {a n : Int} {u : Bool} {x : Int} {l r : PT} {e : Ex} {tm2 : List SV} {mem2 : List Seg}
    (hh : mem[h]? = some (.roabs (TA pin t))) (hs : subAt t k = .node a n u x l r) (hm : m0 ≤ mem.length) (hh2 : mem2[h]? = some (.roabs (TA pin t)))
    (hc : CodeOk P (mem.length + 1) c ⟨tm.map (SV.map (lkA h k mem.length)), mem ++ [.robox tNd (ndA a n u x (kidI h (k + 1) l) (kidI h (k + 1 + l.sz) r))]⟩ e ⟨tm2, mem2⟩) :
    CodeOk P m0 c ⟨tm, mem⟩ e ⟨tm2.map (SV.map (unA h k mem.length)), mem2⟩ := by
  refine CodeOk.rebase (Q := fun env1 => ∃ vs b, env1 h = some (.tuple vs) ∧ vs[k + 1]? = some (pB b) ∧ env1 mem.length = some (pB b)) (fun cx env act w _ hk => look_ok hh hs hk) (by omega) (by simp) hc ?_
  rintro cx env1 env2 act w hm0 ⟨vs, b, q1, q2, q3⟩ hf hk
  have hlt : h < mem.length := (List.getElem?_eq_some_iff.1 hh).1
  have eh : env2 h = some (.tuple vs) := by
    obtain ⟨vs', z, _⟩ := hk.mem.ok h _ hh2
    rcases hf h (by omega) with y | y
    · rw [z] at y; cases y
    · rw [y, q1]
  refine ⟨env2, hk.defers, AllSV.map (σ := unA h k mem.length) ?_ hk.tm, hk.mem, hk.long, hk.fix⟩
  intro x v hx
  unfold unA
  split
  · split
    · rename_i e
      have e := Nat.eq_of_beq_eq_true e
      subst e
      obtain ⟨u, a, p1, p2, p3⟩ := hx
      have eK : env2 mem.length = some (pB b) := by
        rcases hf mem.length (by omega) with y | y
        · rw [p1] at y; cases y
        · rw [y, q3]
      rw [eK] at p1; cases p1
      simp only [baseOf, Option.some.injEq] at p2
      subst p2
      rw [p3]
      exact ⟨vs, _, eh, q2, rfl, fun _ => by simp⟩
    · exact hx
  · exact hx
def rtA (h : Nat) : At → At
  | .root h' 0 nn => if Nat.beq h' h then .root h 1 true else .root h' 0 nn
  | x => x
theorem rt_tran {m0 : Nat} {tm : List SV} {mem : List Seg} {h : Nat} {pin : Option Value} {a n : Int} {u : Bool} {x : Int} {l r : PT} (hh : mem[h]? = some (.roabs (TA pin (.node a n u x l r)))) : Tran m0 ⟨tm, mem⟩ ⟨tm.map (SV.map (rtA h)), mem⟩ := fun cx env act w _ hk => by
  obtain ⟨vs, e1, v', F, rfl, ht, hp⟩ := hk.mem.ok h _ hh
  obtain ⟨b, hv, hb⟩ := ht.head
  refine ⟨env, hk.defers, AllSV.map (σ := rtA h) ?_ hk.tm, hk.mem, hk.long, hk.fix⟩
  intro x v hx
  unfold rtA
  split
  · split
    · rename_i e
      have e := Nat.eq_of_beq_eq_true e
      subst e
      obtain ⟨vs', ao, p1, p2, p3, p4⟩ := hx
      rw [e1] at p1; cases p1
      rw [trV_0, hv] at p2
      cases p2
      exact ⟨_, _, e1, trV_at hb, rfl, fun _ => by simp⟩
    · exact hx
  · exact hx
end Go.Proofs.Ytfienpkogkepkaa

/- trie: find. No condition. -/
namespace Go.Proofs.Ytfienpkogkepkaa
set_option linter.unusedVariables false
set_option linter.unusedSimpArgs false
open Go.RowKit E
/-- What find's loop ends with: an address, or it has told nothing. -/
def fdO (pa pn : Int) : PT → Nat → Option At
  | .nil, _ => some (.val (.pointer none))
  | .node a n u x l r, j => if a = pa ∧ n = pn then some (.root 1 (j + 1) true) else if n ≥ pn then none else if covB a n pa pn = false then none else
    if sdN pa n = 0 then fdO pa pn l (j + 1) else fdO pa pn r (j + 1 + l.sz)
def FdOk (pa pn : Int) : PT → Prop
  | .nil => True
  | .node a n u x l r => (0 ≤ a ∧ a ≤ 4294967295) ∧ (n < pn → 0 ≤ n ∧ n ≤ 31) ∧ FdOk pa pn l ∧ FdOk pa pn r
abbrev fdTb (c : Int) : Seg := .robox 57 [.root 1 0 true, .val (.int .i64 c)]
abbrev fdPb (pa pn : Int) : Seg := .box 28 [.val (.int .u32 pa), .val (.int .i64 pn)]
def fdS (pa pn c : Int) (t : PT) (d : At) : E.St := mkSt 54 [(3, .nv (.one (.ptr 2 0))), (5, .nv (.one d))] [fdTb c, .roabs (TA none t), fdPb pa pn]
def fdR (pa pn c : Int) (t : PT) (d : At) : E.St := mkSt 54 [(4, .nv (.one d))] [fdTb c, .roabs (TA none t), fdPb pa pn]
def fdEx : Option At → Ex
  | none => .ret
  | some _ => .exit 0
def fdSt (pa pn c : Int) (t : PT) : Option At → E.St
  | none => fdR pa pn c t (.val (.pointer none))
  | some d => fdS pa pn c t d
theorem map53 (σ : At → At) (c d : At) (M : List Seg) : (mkSt 54 [(3, .nv (.one c)), (5, .nv (.one d))] M).tm.map (SV.map σ) = (mkSt 54 [(3, .nv (.one (σ c))), (5, .nv (.one (σ d)))] M).tm := rfl
theorem map54 (σ : At → At) (d : At) (M : List Seg) : (mkSt 54 [(4, .nv (.one d))] M).tm.map (SV.map σ) = (mkSt 54 [(4, .nv (.one (σ d)))] M).tm := rfl
theorem lkA_hit {h k K : Nat} {nn : Bool} : lkA h k K (.root h (k + 1) nn) = .ptr K 0 := by simp [lkA]
noncomputable abbrev fdB : Code := subC [true, true, true, false, true, true] (bodyOf Try.f19)
def fdN (a n : Int) (u : Bool) (x : Int) (cl cr : At) : Seg := .robox tNd (ndA a n u x cl cr)
/-- One round at a node. -/
theorem fd_round {t : PT} {pa pn c : Int} {j : Nat} {a n : Int} {u : Bool} {x : Int} {l r : PT} (hs : subAt t j = .node a n u x l r) {e : Ex} {tm2 : List SV}
    (hc : CodeOk Try.prog 4 fdB (mkSt 54 [(3, .nv (.one (.ptr 2 0))), (5, .nv (.one (.ptr 3 0)))] [fdTb c, .roabs (TA none t), fdPb pa pn, fdN a n u x (kidI 1 (j + 1) l) (kidI 1 (j + 1 + l.sz) r)]) e ⟨tm2, [fdTb c, .roabs (TA none t), fdPb pa pn, fdN a n u x (kidI 1 (j + 1) l) (kidI 1 (j + 1 + l.sz) r)]⟩) :
    CodeOk Try.prog 2 fdB (fdS pa pn c t (.root 1 (j + 1) true)) e ⟨tm2.map (SV.map (unA 1 j 3)), [fdTb c, .roabs (TA none t), fdPb pa pn, fdN a n u x (kidI 1 (j + 1) l) (kidI 1 (j + 1 + l.sz) r)]⟩ := by
  refine look_code (h := 1) (k := j) (pin := none) (mem := [fdTb c, .roabs (TA none t), fdPb pa pn]) rfl hs (by simp) rfl ?_
  have e1 : (mkSt 54 [(3, .nv (.one (.ptr 2 0))), (5, .nv (.one (.root 1 (j + 1) true)))] []).tm.map (SV.map (lkA 1 j 3)) = (mkSt 54 [(3, .nv (.one (.ptr 2 0))), (5, .nv (.one (.ptr 3 0)))] []).tm := by rw [map53, lkA_hit]; rfl
  have hc' : CodeOk Try.prog 4 fdB ⟨(mkSt 54 [(3, .nv (.one (.ptr 2 0))), (5, .nv (.one (.root 1 (j + 1) true)))] []).tm.map (SV.map (lkA 1 j 3)), [fdTb c, .roabs (TA none t), fdPb pa pn, fdN a n u x (kidI 1 (j + 1) l) (kidI 1 (j + 1 + l.sz) r)]⟩ e ⟨tm2, [fdTb c, .roabs (TA none t), fdPb pa pn, fdN a n u x (kidI 1 (j + 1) l) (kidI 1 (j + 1 + l.sz) r)]⟩ := by rw [e1]; exact hc
  exact hc'
set_option maxRecDepth 100000 in
theorem trimK {pa pn c a n : Int} {u : Bool} {x : Int} {t : PT} {k : Nat} {cl cr : At} : Tran 2 ⟨(mkSt 54 [(3, .nv (.one (.ptr 2 0))), (5, .nv (.one (.root 1 k true)))] []).tm, [fdTb c, .roabs (TA none t), fdPb pa pn, fdN a n u x cl cr]⟩ (fdS pa pn c t (.root 1 k true)) := Tran.le (by repeat' (first | exact trivial | refine ⟨rfl, ?_⟩)) (Nat.le_of_ble_eq_true rfl)
set_option maxRecDepth 100000 in
theorem trimN {pa pn c a n : Int} {u : Bool} {x : Int} {t : PT} {cl cr : At} : Tran 2 ⟨(mkSt 54 [(3, .nv (.one (.ptr 2 0))), (5, .nv (.one (.val (.pointer none))))] []).tm, [fdTb c, .roabs (TA none t), fdPb pa pn, fdN a n u x cl cr]⟩ (fdS pa pn c t (.val (.pointer none))) := Tran.le (by repeat' (first | exact trivial | refine ⟨rfl, ?_⟩)) (Nat.le_of_ble_eq_true rfl)
set_option maxRecDepth 100000 in
theorem trimR {pa pn c a n : Int} {u : Bool} {x : Int} {t : PT} {cl cr : At} : Tran 2 ⟨(mkSt 54 [(4, .nv (.one (.val (.pointer none))))] []).tm, [fdTb c, .roabs (TA none t), fdPb pa pn, fdN a n u x cl cr]⟩ (fdR pa pn c t (.val (.pointer none))) := Tran.le (by repeat' (first | exact trivial | refine ⟨rfl, ?_⟩)) (Nat.le_of_ble_eq_true rfl)
end Go.Proofs.Ytfienpkogkepkaa

/- trie: find, the whole. No condition. -/
namespace Go.Proofs.Ytfienpkogkepkaa
set_option linter.unusedVariables false
set_option linter.unusedSimpArgs false
open Go.RowKit E
theorem subAt_lt : ∀ {t : PT} {k : Nat}, subAt t k ≠ .nil → k < t.sz
  | .nil, k, h => (h rfl).elim
  | .node a n u x l r, k, h => by
    rw [subAt] at h
    simp only [PT.sz]
    by_cases hk : k = 0
    · omega
    · rw [if_neg hk] at h
      by_cases hl : k - 1 < l.sz
      · omega
      · rw [if_neg hl] at h
        have := subAt_lt h
        omega
theorem subAt_0 {t : PT} : subAt t 0 = t := by cases t <;> rfl
theorem subAt_l : ∀ {t : PT} {k : Nat} {a n : Int} {u : Bool} {x : Int} {l r : PT}, subAt t k = .node a n u x l r → l ≠ .nil → subAt t (k + 1) = l
  | .nil, k, _, _, _, _, _, _, h, _ => by cases h
  | .node a0 n0 u0 x0 l0 r0, k, a, n, u, x, l, r, h, hl => by
    rw [subAt] at h
    rw [subAt, if_neg (by omega), Nat.add_sub_cancel]
    by_cases hk : k = 0
    · rw [if_pos hk] at h
      cases h
      subst hk
      have : 0 < l0.sz := subAt_lt (k := 0) (by rw [subAt_0]; exact hl)
      rw [if_pos this, subAt_0]
    · rw [if_neg hk] at h
      by_cases hl0 : k - 1 < l0.sz
      · rw [if_pos hl0] at h
        have ih := subAt_l h hl
        rw [show k - 1 + 1 = k by omega] at ih
        have : k < l0.sz := subAt_lt (by rw [ih]; exact hl)
        rw [if_pos this, ih]
      · rw [if_neg hl0] at h
        have ih := subAt_l h hl
        rw [if_neg (by omega), ← ih]
        congr 1
        omega
theorem subAt_r : ∀ {t : PT} {k : Nat} {a n : Int} {u : Bool} {x : Int} {l r : PT}, subAt t k = .node a n u x l r → r ≠ .nil → subAt t (k + 1 + l.sz) = r
  | .nil, k, _, _, _, _, _, _, h, _ => by cases h
  | .node a0 n0 u0 x0 l0 r0, k, a, n, u, x, l, r, h, hr => by
    rw [subAt] at h
    rw [subAt, if_neg (by omega), show k + 1 + l.sz - 1 = k + l.sz by omega]
    by_cases hk : k = 0
    · rw [if_pos hk] at h
      cases h
      subst hk
      rw [if_neg (by omega), show 0 + l0.sz - l0.sz = 0 by omega, subAt_0]
    · rw [if_neg hk] at h
      by_cases hl0 : k - 1 < l0.sz
      · rw [if_pos hl0] at h
        have ih := subAt_r h hr
        rw [show k - 1 + 1 + l.sz = k + l.sz by omega] at ih
        have : k + l.sz < l0.sz := subAt_lt (by rw [ih]; exact hr)
        rw [if_pos this, ih]
      · rw [if_neg hl0] at h
        have ih := subAt_r h hr
        rw [if_neg (by omega), ← ih]
        congr 1
        omega
theorem sdN_01 (a n : Int) : sdN a n = 0 ∨ sdN a n = 1 := by unfold sdN; omega
set_option maxRecDepth 100000 in
theorem fd_loop {t : PT} {pa pn c : Int} (ha : 0 ≤ pa ∧ pa ≤ 4294967295) : ∀ (sub : PT) (j : Nat), (sub ≠ .nil → subAt t j = sub) → FdOk pa pn sub → LpOk Try.prog 2 fdB (fdS pa pn c t (kidI 1 j sub)) (fdEx (fdO pa pn sub j)) (fdSt pa pn c t (fdO pa pn sub j))
  | .nil, j, _, _ => LpOk.stop (by simp [fdO, fdEx]) (fdb_nil pa pn 0 0 0 c false (TA none t) 0 0)
  | .node a n u x l r, j, hs, hk => by
    have hs := hs (by simp)
    obtain ⟨h1, h2, h3, h4⟩ := hk
    have ihl := fd_loop (t := t) (c := c) ha l (j + 1) (subAt_l hs) h3
    have ihr := fd_loop (t := t) (c := c) ha r (j + 1 + l.sz) (subAt_r hs) h4
    by_cases he : a = pa ∧ n = pn
    · have hb : (!(a == pa && (n == pn && true))) = false := by simp [he]
      rw [show fdO pa pn (.node a n u x l r) j = some (.root 1 (j + 1) true) by rw [fdO, if_pos he]]
      refine LpOk.stop (by simp [fdEx]) (CodeOk.post (fd_round (tm2 := (mkSt 54 [(3, .nv (.one (.ptr 2 0))), (5, .nv (.one (.ptr 3 0)))] []).tm) hs ?_) (trimK (k := j + 1)))
      cases l <;> cases r
      · exact fdb_eqnn pa pn a n x c u (TA none t) (j + 1 + 1) 0 hb
      · exact fdb_eqnk pa pn a n x c u (TA none t) (j + 1 + 1) _ hb
      · exact fdb_eqkn pa pn a n x c u (TA none t) (j + 1 + 1) 0 hb
      · exact fdb_eqkk pa pn a n x c u (TA none t) (j + 1 + 1) _ hb
    · have hb : (!(a == pa && (n == pn && true))) = true := by
        rw [Bool.not_eq_true', Bool.eq_false_iff]; simp; exact fun e1 e2 => he ⟨e1, e2⟩
      by_cases hge : n ≥ pn
      · rw [show fdO pa pn (.node a n u x l r) j = none by rw [fdO, if_neg he, if_pos hge]]
        refine LpOk.stop (by simp [fdEx]) (CodeOk.post (fd_round (tm2 := (mkSt 54 [(4, .nv (.one (.val (.pointer none))))] []).tm) hs ?_) trimR)
        cases l <;> cases r
        · exact fdb_genn pa pn a n x c u (TA none t) (j + 1 + 1) 0 hb hge
        · exact fdb_genk pa pn a n x c u (TA none t) (j + 1 + 1) _ hb hge
        · exact fdb_gekn pa pn a n x c u (TA none t) (j + 1 + 1) 0 hb hge
        · exact fdb_gekk pa pn a n x c u (TA none t) (j + 1 + 1) _ hb hge
      · cases hcv : covB a n pa pn with
        | false =>
          rw [show fdO pa pn (.node a n u x l r) j = none by rw [fdO, if_neg he, if_neg hge, if_pos hcv]]
          refine LpOk.stop (by simp [fdEx]) (CodeOk.post (fd_round (tm2 := (mkSt 54 [(4, .nv (.one (.val (.pointer none))))] []).tm) hs ?_) trimR)
          cases l <;> cases r
          · exact fdb_nonn pa pn a n x c u (TA none t) (j + 1 + 1) 0 ha.1 ha.2 h1.1 h1.2 hb hge hcv
          · exact fdb_nonk pa pn a n x c u (TA none t) (j + 1 + 1) _ ha.1 ha.2 h1.1 h1.2 hb hge hcv
          · exact fdb_nokn pa pn a n x c u (TA none t) (j + 1 + 1) 0 ha.1 ha.2 h1.1 h1.2 hb hge hcv
          · exact fdb_nokk pa pn a n x c u (TA none t) (j + 1 + 1) _ ha.1 ha.2 h1.1 h1.2 hb hge hcv
        | true =>
          have hn := h2 (by omega)
          rcases sdN_01 pa n with hd | hd
          · rw [show fdO pa pn (.node a n u x l r) j = fdO pa pn l (j + 1) by rw [fdO, if_neg he, if_neg hge, if_neg (by rw [hcv]; simp), if_pos hd]]
            refine LpOk.step ?_ ihl
            cases l
            · refine CodeOk.post (fd_round (tm2 := (mkSt 54 [(3, .nv (.one (.ptr 2 0))), (5, .nv (.one (.val (.pointer none))))] []).tm) hs ?_) trimN
              cases r
              · exact fdb_0nn pa pn a n x c u (TA none t) (j + 1 + 1) 0 ha.1 ha.2 h1.1 h1.2 hn.1 hn.2 hb hge hcv hd
              · exact fdb_0nk pa pn a n x c u (TA none t) (j + 1 + 1) _ ha.1 ha.2 h1.1 h1.2 hn.1 hn.2 hb hge hcv hd
            · refine CodeOk.post (fd_round (tm2 := (mkSt 54 [(3, .nv (.one (.ptr 2 0))), (5, .nv (.one (.root 1 (j + 1 + 1) true)))] []).tm) hs ?_) (trimK (k := j + 1 + 1))
              cases r
              · exact fdb_0kn pa pn a n x c u (TA none t) (j + 1 + 1) 0 ha.1 ha.2 h1.1 h1.2 hn.1 hn.2 hb hge hcv hd
              · exact fdb_0kk pa pn a n x c u (TA none t) (j + 1 + 1) _ ha.1 ha.2 h1.1 h1.2 hn.1 hn.2 hb hge hcv hd
          · rw [show fdO pa pn (.node a n u x l r) j = fdO pa pn r (j + 1 + l.sz) by rw [fdO, if_neg he, if_neg hge, if_neg (by rw [hcv]; simp), if_neg (by omega)]]
            refine LpOk.step ?_ ihr
            cases r
            · refine CodeOk.post (fd_round (tm2 := (mkSt 54 [(3, .nv (.one (.ptr 2 0))), (5, .nv (.one (.val (.pointer none))))] []).tm) hs ?_) trimN
              cases l
              · exact fdb_1nn pa pn a n x c u (TA none t) (j + 1 + 1) 0 ha.1 ha.2 h1.1 h1.2 hn.1 hn.2 hb hge hcv hd
              · exact fdb_1kn pa pn a n x c u (TA none t) (j + 1 + 1) 0 ha.1 ha.2 h1.1 h1.2 hn.1 hn.2 hb hge hcv hd
            · refine CodeOk.post (fd_round (tm2 := (mkSt 54 [(3, .nv (.one (.ptr 2 0))), (5, .nv (.one (.root 1 (j + 1 + l.sz + 1) true)))] []).tm) hs ?_) (trimK (k := j + 1 + l.sz + 1))
              cases l
              · exact fdb_1nk pa pn a n x c u (TA none t) (j + 1 + 1) _ ha.1 ha.2 h1.1 h1.2 hn.1 hn.2 hb hge hcv hd
              · exact fdb_1kk pa pn a n x c u (TA none t) (j + 1 + 1) _ ha.1 ha.2 h1.1 h1.2 hn.1 hn.2 hb hge hcv hd
end Go.Proofs.Ytfienpkogkepkaa

/- trie: find, what it tells. No condition. -/
namespace Go.Proofs.Ytfienpkogkepkaa
set_option linter.unusedVariables false
set_option linter.unusedSimpArgs false
open Go.RowKit E
def fdZ : At := .val (.pointer none)
theorem fdO_cases {pa pn : Int} : ∀ {t : PT} {j : Nat}, fdO pa pn t j = none ∨ fdO pa pn t j = some (.val (.pointer none)) ∨ ∃ k, fdO pa pn t j = some (.root 1 (k + 1) true)
  | .nil, j => .inr (.inl rfl)
  | .node a n u x l r, j => by
    rw [fdO]
    by_cases he : a = pa ∧ n = pn
    · rw [if_pos he]; exact .inr (.inr ⟨j, rfl⟩)
    · rw [if_neg he]
      by_cases hge : n ≥ pn
      · rw [if_pos hge]; exact .inl rfl
      · rw [if_neg hge]
        by_cases hcv : covB a n pa pn = false
        · rw [if_pos hcv]; exact .inl rfl
        · rw [if_neg hcv]
          by_cases hd : sdN pa n = 0
          · rw [if_pos hd]; exact fdO_cases
          · rw [if_neg hd]; exact fdO_cases
def fdRes (pa pn : Int) (t : PT) : At := match fdO pa pn t 0 with
  | none => .val (.pointer none)
  | some d => d
noncomputable abbrev fdC (p : List Bool) : Code := subC p (bodyOf Try.f19)
set_option maxRecDepth 100000 in
theorem fd_body : bodyOf Try.f19 = .seq (fdC [false]) (.seq (fdC [true, false]) (.seq (fdC [true, true, false]) (.seq (.block 0 (.loop fdB)) (fdC [true, true, true, true])))) := by kernel_rfl
def fdTm (pa pn : Int) : List SV := [.nv (.one (.ptr 0 0)), .nv (.agg [.val (.int .u32 pa), .val (.int .i64 pn)])] ++ List.replicate 52 .any
set_option maxRecDepth 100000 in
theorem fd_start {pa pn c : Int} {a n : Int} {u : Bool} {x : Int} {l r : PT} : Tran 2 (mkSt 54 [(3, .nv (.one (.ptr 2 0))), (5, .nv (.one (.root 1 0 true)))] [fdTb c, .roabs (TA none (.node a n u x l r)), fdPb pa pn]) (fdS pa pn c (.node a n u x l r) (.root 1 1 true)) := (rt_tran (h := 1) (pin := none) rfl).eq (by kernel_rfl)
set_option maxRecDepth 100000 in
theorem fd_endK {pa pn c : Int} {t : PT} {k : Nat} : Tran 2 (fdR pa pn c t (.root 1 k true)) (mkSt 54 [(4, .nv (.one (.root 1 k true)))] [.gone, .gone]) := Tran.le (by repeat' (first | exact trivial | refine ⟨rfl, ?_⟩)) (Nat.le_of_ble_eq_true rfl)
set_option maxRecDepth 100000 in
theorem fd_endN {pa pn c : Int} {t : PT} : Tran 2 (fdR pa pn c t (.val (.pointer none))) (mkSt 54 [(4, .nv (.one (.val (.pointer none))))] [.gone, .gone]) := Tran.le (by repeat' (first | exact trivial | refine ⟨rfl, ?_⟩)) (Nat.le_of_ble_eq_true rfl)
set_option maxRecDepth 100000 in
theorem fnFind {pa pn c : Int} (ha : 0 ≤ pa ∧ pa ≤ 4294967295) (hr : rgt pa pn = true) {a n : Int} {u : Bool} {x : Int} {l r : PT} (hok : FdOk pa pn (.node a n u x l r)) :
    FnOk Try.prog 19 [.nv (.one (.ptr 0 0)), .nv (.agg [.val (.int .u32 pa), .val (.int .i64 pn)])] [fdTb c, .roabs (TA none (.node a n u x l r))] (.nv (.one (fdRes pa pn (.node a n u x l r)))) [.gone, .gone] := by
  have hl := LpOk.code (fd_loop (t := .node a n u x l r) (c := c) ha (.node a n u x l r) 0 (fun _ => subAt_0) hok)
  have key : CodeOk Try.prog 2 (bodyOf Try.f19) ⟨fdTm pa pn, [fdTb c, .roabs (TA none (.node a n u x l r))]⟩ .ret (mkSt 54 [(4, .nv (.one (fdRes pa pn (.node a n u x l r))))] [.gone, .gone]) := by
    rw [fd_body]
    refine CodeOk.seq (fd_0 pa pn c (TA none (.node a n u x l r)) 0) (CodeOk.seq (fd_1 pa pn c (TA none (.node a n u x l r)) 0 ha.1 ha.2 hr) (CodeOk.seq (CodeOk.post (fd_3 pa pn c (TA none (.node a n u x l r)) 0) fd_start) ?_))
    unfold fdRes
    rcases fdO_cases (pa := pa) (pn := pn) (t := .node a n u x l r) (j := 0) with e | e | ⟨k, e⟩
    · rw [e] at hl ⊢
      exact CodeOk.seqX (by simp) (CodeOk.block (CodeOk.post hl fd_endN) (by simp))
    · rw [e] at hl ⊢
      exact CodeOk.seq (CodeOk.blockX hl) (CodeOk.post (fd_8n pa pn c (TA none (.node a n u x l r)) 0) fd_endN)
    · rw [e] at hl ⊢
      exact CodeOk.seq (CodeOk.blockX hl) (CodeOk.post (fd_8k pa pn c (TA none (.node a n u x l r)) (k + 1)) fd_endK)
  exact fn_of_code (c := bodyOf Try.f19) (tm := fdTm pa pn) (r := .nv (.one (fdRes pa pn (.node a n u x l r)))) (o := []) Try.func19 (by kernel_rfl) (by kernel_rfl) key (.inl rfl) (by kernel_rfl) trivial
end Go.Proofs.Ytfienpkogkepkaa

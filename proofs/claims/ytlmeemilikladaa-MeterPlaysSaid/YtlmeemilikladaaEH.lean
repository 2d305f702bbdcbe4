/- A symbolic run of Go code: a region that draws its order. No condition. -/
import Derived.Test.YtlmeemilikladaaEG
namespace Go.Proofs.Ytlmeemilikladaa
set_option linter.unusedVariables false
set_option linter.unusedSimpArgs false
namespace E
open Go.RowKit

theorem MemOk.pads {env : Env} {mem : List Seg} {w0 w : World} {S : Nat → Prop} (h : MemOk env mem w0 w S) : ∀ k, MemOk env (mem ++ List.replicate k .gone) w0 w S
  | 0 => by simpa using h
  | k + 1 => by
    have := (MemOk.pads h k).pad
    rwa [List.append_assoc, ← List.replicate_succ'] at this

theorem un_none : ∀ {n m : Nat}, n ≤ m → un (Array.replicate m false) n = n
  | 0, _, _ => rfl
  | n + 1, m, h => by
    unfold un
    rw [un_none (n := n) (by omega)]
    have : (Array.replicate m false).getD n true = false := by
      rw [Array.getD_eq_getD_getElem?, Array.getElem?_replicate, if_pos (by omega)]; rfl
    rw [this]; simp

def tabs (dst : Nat → Option Tmp) (I : Nat → Inf) (tm0 : List SV) : Nat → List SV
  | 0 => tm0
  | k + 1 => put (tabs dst I tm0 k) (dst k) (I k).v
theorem put_length (tm : List SV) (d : Option Tmp) (x : SV) : (put tm d x).length = tm.length := by cases d <;> simp [put]
theorem put_getD (tm : List SV) (d : Option Tmp) (x : SV) {t : Nat} (h : d ≠ some t) : (put tm d x).getD t .any = tm.getD t .any := by
  cases d with
  | none => rfl
  | some d =>
    show (tm.set d x).getD t .any = _
    rw [List.getD_eq_getElem?_getD, List.getElem?_set_ne (fun e => h (by rw [e])), ← List.getD_eq_getElem?_getD]
theorem tabs_length (dst : Nat → Option Tmp) (I : Nat → Inf) (tm0 : List SV) : ∀ k, (tabs dst I tm0 k).length = tm0.length
  | 0 => rfl
  | k + 1 => by unfold tabs; rw [put_length, tabs_length]
theorem tabs_after {dst : Nat → Option Tmp} {I : Nat → Inf} {tm0 : List SV} {t : Nat} : ∀ {i n : Nat}, i ≤ n → (∀ k, i ≤ k → k < n → dst k ≠ some t) → (tabs dst I tm0 n).getD t .any = (tabs dst I tm0 i).getD t .any
  | i, 0, h, _ => by
    have : i = 0 := by omega
    subst this; rfl
  | i, n + 1, h, k => by
    by_cases e : i = n + 1
    · subst e; rfl
    · show (put (tabs dst I tm0 n) (dst n) (I n).v).getD t .any = _
      rw [put_getD _ _ _ (k n (by omega) (by omega))]
      exact tabs_after (by omega) (fun q h1 h2 => k q h1 (by omega))

theorem edgesB_spec : ∀ {l : List Oper} {i : Nat}, edgesB l i = true → ∀ k o, l[k]? = some o → ∀ e ∈ o.after, Region.binds .any e = true → e.on < i + k
  | o :: os, i, h, 0, o', hk, e, he, hb => by
    simp only [edgesB, Bool.and_eq_true] at h
    simp at hk; subst hk
    have := List.all_eq_true.1 h.1 e (by simpa using he)
    simp only [hb, Bool.not_true, Bool.false_or, decide_eq_true_eq] at this
    omega
  | o :: os, i, h, k + 1, o', hk, e, he, hb => by
    simp only [edgesB, Bool.and_eq_true] at h
    simp at hk
    have := edgesB_spec h.2 k o' hk e he hb
    omega
  | [], i, h, k, o', hk, e, he, hb => by simp at hk

theorem all_of_getD {env : Env} : ∀ {l : List SV} {vs : List Value}, l.length = vs.length → (∀ t, t < l.length → (l.getD t .any).rel env (vs.getD t undef)) → AllSV env l vs
  | [], [], _, _ => trivial
  | x :: l, v :: vs, h, k => ⟨by simpa using k 0 (by simp), all_of_getD (by simpa using h) (fun t ht => by simpa using k (t + 1) (by simpa using ht))⟩

section
variable {P : Program} {Γ : List (FuncId × Sp)} {cx : Cx}

set_option maxHeartbeats 2000000 in
theorem drawOps_sound (hΓ : CtxOk P Γ) (hmo : P.follows .mixedOrders = true) {ops : List Oper} {st st' : St} {orc orc' : List Bool} {obl : List Prop} {id : Nat} {env : Env} {a : Act} {w : World} {Q : Exit → Act → World → Prop}
    (h : drawOps P Γ ops st orc = some (st', obl, orc')) (ho : AllT obl) (hk : Ok cx env st a w) (hQ : ∀ env' a' w', Ok cx env' st' a' w' → Q .normal a' w') : (Code.region id ops.toArray true).wp P Q a w := by
  unfold drawOps at h
  simp only at h
  generalize hbase : st.mem.length = base at h
  generalize hK : (ops.filter fun o => mk? o.op).length = K at h
  generalize hmem0 : st.mem ++ List.replicate (K + 1) Seg.gone = mem0 at h
  generalize hmasks : befs ops = masks at h
  generalize hdsts : ops.map (·.dst) = dsts at h
  split at h
  · rename_i infs0 _ _ _ _ h0
    clear h0
    split at h
    · rename_i infs tmF memF obl' orcF h1
      split at h
      · rename_i hchk
        obtain ⟨hW, hed, hpair, hone⟩ := hchk
        simp only [Option.some.injEq, Prod.mk.injEq] at h
        obtain ⟨rfl, rfl, rfl⟩ := h
        rw [← hW] at h1
        obtain ⟨T, M, N, t0, m0, hlen, tF, mF, hall⟩ := drawGo_spec h1 ho
        clear h1
        generalize hn : ops.length = n at *
        have hsz : ops.toArray.size = n := by simpa using hn
        have hopsA : ∀ i, ops.toArray[i]? = ops[i]? := fun i => List.getElem?_toArray
        have hlt_n : ∀ i o, ops[i]? = some o → i < n := fun i o e => by rw [← hn]; exact (List.getElem?_eq_some_iff.1 e).1
        let I : Nat → Inf := fun i => infs.getD i ⟨.any, .none, 0⟩
        have hI : ∀ i x, infs[i]? = some x → I i = x := fun i x e => by
          show infs.getD i _ = x
          rw [List.getD_eq_getElem?_getD, e]; rfl
        let dst : Nat → Option Tmp := fun i => dsts.getD i none
        have hdst : ∀ i o, ops[i]? = some o → dst i = o.dst := fun i o e => by
          show dsts.getD i none = _
          rw [← hdsts, List.getD_eq_getElem?_getD, List.getElem?_map, e]; rfl
        have hdstsg : ∀ (i : Nat) (o : Oper), ops[i]? = some o → dsts[i]? = some o.dst := fun i o e => by rw [← hdsts, List.getElem?_map, e]; rfl
        have hm0len : mem0.length = base + K + 1 := by rw [← hmem0, List.length_append, List.length_replicate]; omega
        -- the memory along the run
        have hM : ∀ k, k ≤ n → M k = foldE I mem0 (fun _ => true) k := by
          intro k
          induction k with
          | zero => intro _; exact m0
          | succ k ih =>
            intro hkn
            have : ops[k]? = some (ops[k]'(by omega)) := List.getElem?_eq_getElem (by omega)
            obtain ⟨x, orc1, d, e1, e2, e3, e4, e5, e6⟩ := hall k _ this
            rw [e6, ih (by omega)]
            show _ = (if (fun _ => true) k = true then (I k).app (foldE I mem0 (fun _ => true) k) else foldE I mem0 (fun _ => true) k)
            rw [if_pos rfl, hI k x e1]
        have hMlt : ∀ i, i ≤ n → foldE I mem0 (fun j => decide (j < i)) n = M i := by
          intro i hi
          rw [hM i hi]
          have key : ∀ m, i ≤ m → foldE I mem0 (fun j => decide (j < i)) m = foldE I mem0 (fun _ => true) i := by
            intro m
            induction m with
            | zero => intro hm; have : i = 0 := by omega
                      subst this; rfl
            | succ m ih =>
              intro hm
              by_cases e : i = m + 1
              · subst e
                have : ∀ q, q ≤ m + 1 → foldE I mem0 (fun j => decide (j < m + 1)) q = foldE I mem0 (fun _ => true) q := by
                  intro q
                  induction q with
                  | zero => intro _; rfl
                  | succ q ihq =>
                    intro hq
                    unfold foldE
                    rw [ihq (by omega)]
                    simp [show q < m + 1 by omega]
                exact this _ (Nat.le_refl _)
              · conv => lhs; unfold foldE
                simp only [show ¬ m < i by omega, decide_false, Bool.false_eq_true, if_false]
                exact ih (by omega)
          exact key n hi
        -- the tables along the run
        have hT : ∀ k, k ≤ n → (T k).length = st.tm.length ∧ ∀ t env u, ((tabs dst I st.tm k).getD t .any).rel env u → ((T k).getD t .any).rel env u := by
          intro k
          induction k with
          | zero => intro _; rw [t0]; exact ⟨rfl, fun _ _ _ q => q⟩
          | succ k ih =>
            intro hkn
            obtain ⟨ih1, ih2⟩ := ih (by omega)
            have ho' : ops[k]? = some (ops[k]'(by omega)) := List.getElem?_eq_getElem (by omega)
            obtain ⟨x, orc1, d, e1, e2, e3, e4, e5, e6⟩ := hall k _ ho'
            obtain ⟨f1, f2, f3, f4⟩ := drawStep_facts e2 e4
            refine ⟨by rw [e5, put_length, f3, ih1], fun t env u q => ?_⟩
            rw [e5]
            have q' : ((put (tabs dst I st.tm k) (ops[k]).dst x.v).getD t .any).rel env u := by
              have := q
              unfold tabs at this
              rwa [hI k x e1, hdst k _ ho'] at this
            by_cases hd : (ops[k]'(by omega)).dst = some t
            · rw [hd] at q' ⊢
              by_cases htl : t < st.tm.length
              · have e7 : ∀ l : List SV, l.length = st.tm.length → (put l (some t) x.v).getD t .any = x.v := fun l hl => by
                  show (l.set t x.v).getD t .any = _
                  rw [List.getD_eq_getElem?_getD, List.getElem?_set_self (by omega)]; rfl
                rw [e7 _ (tabs_length _ _ _ _)] at q'
                rw [e7 _ (by rw [f3, ih1])]
                exact q'
              · rw [List.getD_eq_getElem?_getD, List.getElem?_eq_none (by rw [put_length, f3, ih1]; omega)]
                trivial
            · rw [put_getD _ _ _ hd] at q'
              rw [put_getD _ _ _ hd]
              exact f4 t env u (ih2 t env u q')
        -- the pairs
        have pair : ∀ i j o o', ops[i]? = some o → ops[j]? = some o' → i < j →
            (∀ t, o.dst = some t → o'.dst ≠ some t) ∧ (∀ h, h ∈ (I i).touch → h ∈ (I j).touch → bef masks j i = true) ∧ ((I j).eff.makes = true → (I j).nh ∉ (I i).touch ∧ ((I i).eff.makes = true → (I i).nh ≠ (I j).nh)) := by
          intro i j o o' hi hj hij
          have hin := hlt_n i o hi
          have hjn := hlt_n j o' hj
          have hp := List.all_eq_true.1 (List.all_eq_true.1 hpair i (List.mem_range.2 hin)) j (List.mem_range.2 hjn)
          rw [if_pos hij] at hp
          have hx : infs[i]? = some (infs[i]'(by omega)) := List.getElem?_eq_getElem (by omega)
          have hy : infs[j]? = some (infs[j]'(by omega)) := List.getElem?_eq_getElem (by omega)
          rw [hx, hy, hdstsg i o hi, hdstsg j o' hj] at hp
          rw [hI i _ hx, hI j _ hy]
          simp only [Bool.and_eq_true] at hp
          obtain ⟨⟨p1, p2⟩, p3⟩ := hp
          refine ⟨fun t e1 e2 => ?_, fun h h1 h2 => ?_, fun hmk => ?_⟩
          · rw [e1, e2] at p1
            simp at p1
          · split at p2
            · rename_i hc
              have := List.all_eq_true.1 hc h h1
              simp at this
              exact absurd h2 this
            · exact p2
          · rw [hmk] at p3
            simp only [Bool.not_true, Bool.false_or, Bool.and_eq_true, Bool.not_eq_true', List.contains_eq_mem, decide_eq_false_iff_not, Bool.or_eq_true, decide_eq_true_eq] at p3
            refine ⟨p3.1, fun hmi => ?_⟩
            rcases p3.2 with q | q
            · rw [hmi] at q; cases q
            · exact q
        have one : ∀ i, i < n → ((I i).eff.makes = true → base ≤ (I i).nh ∧ (I i).nh ≠ base + K ∧ (I i).nh < mem0.length) ∧ (base + K) ∉ (I i).touch := by
          intro i hi
          have hx : infs[i]? = some (infs[i]'(by omega)) := List.getElem?_eq_getElem (by omega)
          rw [hI i _ hx]
          have hp := List.all_eq_true.1 hone _ (List.getElem_mem (by omega : i < infs.length))
          simp only [Bool.and_eq_true, Bool.or_eq_true, Bool.not_eq_true', decide_eq_true_eq, List.contains_eq_mem, decide_eq_false_iff_not] at hp
          refine ⟨fun hmk => ?_, hp.2⟩
          rcases hp.1 with q | q
          · rw [hmk] at q; cases q
          · exact ⟨q.1.1, q.1.2, q.2⟩
        have hgoneAt : ∀ c, base ≤ c → c < mem0.length → mem0[c]? = some .gone := by
          intro c h1 h2
          rw [← hmem0, List.getElem?_append_right (by omega), List.getElem?_replicate, if_pos (by omega)]
        have hedge : ∀ i o, ops.toArray[i]? = some o → ∀ e ∈ o.after, Region.binds .any e = true → e.on < i := by
          intro i o hi e he hb
          have := edgesB_spec hed i o (by simpa using hi) e he hb
          omega
        have hbefd : ∀ (D : Nat → Bool) i j o, (∀ k o', ops.toArray[k]? = some o' → D k = true → ∀ e ∈ o'.after, Region.binds .any e = true → D e.on = true) → ops.toArray[i]? = some o → (∀ e ∈ o.after, Region.binds .any e = true → D e.on = true) → bef masks i j = true → D j = true := by
          intro D i j o hc hi hp hb
          exact bef_down D hc i o j hi hp (by rw [List.toList_toArray, hmasks]; exact hb)
        have hlt : ∀ i j, bef masks i j = true → j < i := by
          intro i
          induction i using Nat.strongRecOn with
          | _ i ih =>
            intro j hb
            have hin : i < n := by
              rcases Nat.lt_or_ge i n with q | q
              · exact q
              · exfalso
                have hl : ∀ (l : List Oper) (acc : List Nat), (befsAux l acc).length = acc.length + l.length := by
                  intro l
                  induction l with
                  | nil => intro acc; rfl
                  | cons o l ihl => intro acc; show (befsAux l (acc ++ [maskOf acc o])).length = _; rw [ihl]; simp; omega
                have : masks.length = n := by rw [← hmasks]; unfold befs; rw [hl]; simp [hn]
                unfold bef at hb
                rw [List.getD_eq_getElem?_getD, List.getElem?_eq_none (by omega)] at hb
                simp at hb
            have hoi : ops[i]? = some (ops[i]'(by omega)) := List.getElem?_eq_getElem (by omega)
            obtain ⟨e, he, hbn, q⟩ := bef_spec (l := ops) hoi (by rw [hmasks]; exact hb)
            have h1 := hedge i _ (by rw [hopsA]; exact hoi) e he hbn
            rcases q with q | ⟨q1, q2⟩
            · omega
            · have := ih e.on q1 j (by rw [← hmasks]; exact q2)
              omega
        -- each operation
        have hgood : ∀ i o, ops.toArray[i]? = some o → GoodOp P cx ops.toArray I mem0 st.tm (fun t => (tabs dst I st.tm n).getD t .any) (base + K) (bef masks) i o.dst := by
          intro i o hi env a w mem K' Q hdef hvis hvis0 hml hmem hm hnh hr hrn hKK
          have hi' : ops[i]? = some o := by rw [← hopsA]; exact hi
          have hin := hlt_n i o hi'
          obtain ⟨x, orc1, d, e1, e2, e3, e4, e5, e6⟩ := hall i o hi'
          obtain ⟨f1, f2, f3, f4⟩ := drawStep_facts e2 e4
          simp only [Nat.zero_add] at e2
          have hIx : I i = d.inf := by rw [hI i x e1, e3]
          rw [hIx] at hnh hKK
          have hnheq : d.inf.nh = (if mk? o.op then N i else base + K) := f1
          refine drawStep_good hΓ hi e2 e4 ?_ ?_ hm ?_ ?_
          · intro y hy
            cases y with
            | const v => exact ofConst_rel env v
            | func f => rfl
            | global g => rfl
            | tmp t =>
              show ((T i).getD t .any).rel env (a.tmps.getD t undef)
              have hy0 : (visAux (masks.getD i 0) t dsts 0 || visAft masks i t dsts 0) = true := hy
              refine (hT i (by omega)).2 t env _ ?_
              rcases Bool.or_eq_true_iff.1 hy0 with hy' | hy'
              · have hw : ∀ j o', ops[j]? = some o' → o'.dst = some t → bef masks i j = true := by
                  intro j o' hj hd
                  have := visAux_spec hy' j (by rw [hdstsg j o' hj, hd])
                  simpa [bef] using this
                rw [← tabs_after (i := i) (n := n) (by omega) (fun k hik hkn hd => by
                  have hok : ops[k]? = some (ops[k]'(by omega)) := List.getElem?_eq_getElem (by omega)
                  have := hlt i k (hw k _ hok (by rw [← hdst k _ hok]; exact hd))
                  omega)]
                exact hvis t (fun j o' hj hd => hw j o' (by rw [← hopsA]; exact hj) hd)
              · have hw : ∀ j o', ops[j]? = some o' → o'.dst = some t → bef masks j i = true := by
                  intro j o' hj hd
                  have := visAft_spec hy' j (by rw [hdstsg j o' hj, hd])
                  simpa using this
                rw [tabs_after (i := 0) (n := i) (by omega) (fun k hik hkn hd => by
                  have hok : ops[k]? = some (ops[k]'(by omega)) := List.getElem?_eq_getElem (by omega)
                  have := hlt k i (hw k _ hok (by rw [← hdst k _ hok]; exact hd))
                  omega)]
                exact hvis0 t (fun j o' hj hd => hw j o' (by rw [← hopsA]; exact hj) hd)
          · intro c s hc
            rcases maskMem_get masks i _ 0 _ c s hc with q | ⟨q1, q2⟩
            · exact .inl q
            · refine .inr ?_
              rw [hmem c (fun j hj hne hjt => ?_), hsz, hMlt i (by omega)]
              · exact q1
              · have hjn : j < n := by rw [hsz] at hj; exact hj
                have hxj : infs[j]? = some (infs[j]'(by omega)) := List.getElem?_eq_getElem (by omega)
                rw [hI j _ hxj] at hjt
                have := q2 j _ (by rw [List.getElem?_map, hxj]; rfl) hjt
                simp only [Nat.zero_add] at this
                rcases this with q | q | q
                · exact absurd q hne
                · exact .inl q
                · exact .inr q
          · intro hmk
            by_cases q : mk? o.op = true
            · rw [q] at hmk
              have := hnh hmk
              rw [hnheq, if_pos q] at this
              rw [if_pos q]
              exact this
            · rw [if_neg q]
              exact ⟨hr, hrn⟩
          · intro env' u w' hle hoth hv hm'
            refine hKK env' u w' hle (fun c hc => hoth c (fun hmk => ?_)) hv ?_
            · have := hc hmk
              rw [hnheq] at this
              exact this
            · unfold Inf.app
              rw [hnheq]
              exact hm'
        refine wp_region_any hmo ?_
        rw [hsz]
        refine draw_any (I := I) (mem0 := mem0) (tm0 := st.tm) (TB := fun t => (tabs dst I st.tm n).getD t .any) (r := base + K) (bef := bef masks) hgood ?_ ?_ ?_ hedge hbefd hlt ?_ ?_ ?_ ?_ ?_ ?_ ?_ n (Array.replicate n false) env a _ ?_ ?_
        · -- hdst
          intro i j o o' t hi hj h1 h2
          rw [hopsA] at hi hj
          rcases Nat.lt_trichotomy i j with q | q | q
          · exact absurd h2 ((pair i j o o' hi hj q).1 t h1)
          · exact q
          · exact absurd h1 ((pair j i o' o hj hi q).1 t h2)
        · -- hTB
          intro i o t hi hd htl
          rw [hopsA] at hi
          have hin := hlt_n i o hi
          have : (tabs dst I st.tm n).getD t .any = (tabs dst I st.tm (i + 1)).getD t .any := tabs_after (by omega) (fun k hik hkn hdk => by
            have hok : ops[k]? = some (ops[k]'(by omega)) := List.getElem?_eq_getElem (by omega)
            rw [hdst k _ hok] at hdk
            exact (pair i k o _ hi hok (by omega)).1 t hd hdk)
          rw [this]
          show (put (tabs dst I st.tm i) (dst i) (I i).v).getD t .any = _
          rw [hdst i o hi, hd]
          show ((tabs dst I st.tm i).set t (I i).v).getD t .any = _
          rw [List.getD_eq_getElem?_getD, List.getElem?_set_self (by rw [tabs_length]; exact htl)]; rfl
        · intro t ht
          rw [List.getD_eq_getElem?_getD, List.getElem?_eq_none (by rw [tabs_length]; exact ht)]; rfl
        · -- htouch
          intro i j c hij hj h1 h2
          rw [hsz] at hj
          exact (pair i j _ _ (List.getElem?_eq_getElem (by omega)) (List.getElem?_eq_getElem (by omega)) hij).2.1 c h1 h2
        · -- hfresh
          intro i j hi hj hne h1 h2
          rw [hsz] at hi hj
          rcases Nat.lt_or_gt_of_ne hne with q | q
          · exact ((pair i j _ _ (List.getElem?_eq_getElem (by omega)) (List.getElem?_eq_getElem (by omega)) q).2.2 h1).2 h2
          · exact Ne.symm (((pair j i _ _ (List.getElem?_eq_getElem (by omega)) (List.getElem?_eq_getElem (by omega)) q).2.2 h2).2 h1)
        · -- hmk
          intro i j hij hj h1
          rw [hsz] at hj
          exact ((pair i j _ _ (List.getElem?_eq_getElem (by omega)) (List.getElem?_eq_getElem (by omega)) hij).2.2 h1).1
        · -- hnh
          intro i hi hmk
          rw [hsz] at hi
          obtain ⟨q1, q2, q3⟩ := (one i hi).1 hmk
          have := hk.long
          exact ⟨hgoneAt _ q1 q3, by omega, q2⟩
        · exact hgoneAt _ (by omega) (by omega)
        · intro i hi; rw [hsz] at hi; exact (one i hi).2
        · -- the end
          intro env' a' w' hrs
          have hfin : foldE I mem0 (fun _ => true) ops.toArray.size = memF := by
            rw [hsz, ← hM n (Nat.le_refl _)]; exact mF
          have hmemF := hrs.mem
          rw [hfin] at hmemF
          have hlF : memF.length = base + K + 1 := by rw [← hfin, foldE_length]; exact hm0len
          have hlast : memF[base + K]? = some .gone := by
            rw [← hfin]
            have : (foldE I mem0 (fun _ => true) ops.toArray.size)[base + K]? = (foldE I mem0 (fun _ => false) ops.toArray.size)[base + K]? := foldE_agree (fun j hj hjt => by rw [hsz] at hj; exact absurd hjt (one j hj).2)
            rw [this, foldE_none (fun _ _ => rfl)]
            exact hgoneAt _ (by omega) (by omega)
          have hsplit : memF = memF.take (base + K) ++ [.gone] := by
            apply List.ext_getElem?
            intro c
            by_cases q : c < base + K
            · rw [List.getElem?_append_left (by simp; omega), List.getElem?_take, if_pos q]
            · rw [List.getElem?_append_right (by simp; omega)]
              have hl2 : (memF.take (base + K)).length = base + K := by simp; omega
              rw [hl2]
              by_cases q2 : c = base + K
              · subst q2; simp [hlast]
              · rw [List.getElem?_eq_none (by omega), List.getElem?_eq_none (by simp; omega)]
          have hl2 : (memF.take (base + K)).length = base + K := by simp; omega
          refine hQ env' a' w' ⟨hrs.defers, ?_, ?_, ?_, hrs.fix⟩
          · refine all_of_getD ?_ (fun t ht => ?_)
            · rw [← tF, (hT n (Nat.le_refl _)).1]; simpa using hrs.size.symm
            · rw [← tF]
              have := (hT n (Nat.le_refl _)).2 t env' _ (hrs.slots t (fun _ _ _ _ => rfl))
              simpa [Array.getD_eq_getD_getElem?, List.getD_eq_getElem?_getD] using this
          · refine MemOk.unpad (by rw [← hsplit]; exact hmemF) ?_
            rw [hl2]; exact hrs.spare
          · show cx.m0 ≤ (memF.take (base + K)).length
            have := hk.long
            omega
        · rw [hsz]; exact un_none (Nat.le_refl _)
        · -- the start
          have hD : ∀ j, j < n → (Array.replicate n false).getD j true = false := fun j hj => by
            rw [Array.getD_eq_getD_getElem?, Array.getElem?_replicate, if_pos hj]; rfl
          have hsize : a.tmps.size = st.tm.length := by
            have := hk.tm.length; simpa using this.symm
          refine ⟨hk.defers, hsize, fun t ht => ?_, ?_, fun j hj hDj hmk => ?_, ?_, fun j o hj hDj => ?_, hk.fix, fun t _ => getD_tmps hk.tm t⟩
          · show ((tabs dst I st.tm n).getD t .any).rel env _
            rw [tabs_after (i := 0) (n := n) (Nat.zero_le _) (fun k _ hkn hd => by
              have hok : ops[k]? = some (ops[k]'(by omega)) := List.getElem?_eq_getElem (by omega)
              rw [hdst k _ hok] at hd
              have := ht k _ (by rw [hopsA]; exact hok) hd
              rw [hD k hkn] at this
              cases this)]
            exact getD_tmps hk.tm t
          · rw [hsz, foldE_none (fun j hj => hD j hj), ← hmem0]
            exact (hk.mem.pads (K + 1)).trans (Ext.refl w).drew
          · rw [hsz] at hj
            obtain ⟨q1, _, _⟩ := (one j hj).1 hmk
            exact hk.mem.top _ (by omega)
          · exact hk.mem.top _ (by omega)
          · rw [hopsA] at hj
            rw [hD j (hlt_n j o hj)] at hDj
            cases hDj
      · cases h
    · cases h
  · cases h
end
end E
end Go.Proofs.Ytlmeemilikladaa

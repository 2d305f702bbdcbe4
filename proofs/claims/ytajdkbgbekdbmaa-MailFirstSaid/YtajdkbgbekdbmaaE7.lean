/- A symbolic run of Go code: the builtins. No condition. -/
import Derived.Conc.SmallLaws
import Derived.Conc.LoneSelectN
import Derived.Test.YtajdkbgbekdbmaaE3
import Derived.Lib.AppendStr
import Derived.Lib.UnsafeStr
import Derived.Lib.Builder
import Derived.LaidEqlPtr
namespace Go.Proofs.Ytajdkbgbekdbmaa
set_option linter.unusedVariables false
set_option linter.unusedSimpArgs false
namespace E
open Go.RowKit Go.Lib
section
variable {P : Program} {env : Env} {mem : List Seg} {w0 w : World} {S : Nat → Prop} {nh : Nat}

/-- The elements that a slice names, with their cells in memory. -/
def srcOf (mem : List Seg) (wd : Nat) : At → Option (Nat × (Nat → List At) × List Prop)
  | .own h => match mem[h]? with
    | some (.ro wd' n g) => if wd' = wd then some (n, g, []) else none
    | some (.row _ wd' n g) => if wd' = wd then some (n, g, []) else none
    | _ => none
  | .sub h wd0 off k => if wd0 = wd then match mem[h]? with
    | some (.ro wd' n g) => if wd' = wd then some (k, fun i => g (off + i), [off + k ≤ n]) else none
    | some (.row _ wd' n g) => if wd' = wd then some (k, fun i => g (off + i), [off + k ≤ n]) else none
    | _ => none
    else none
  | .val (.slice none 0 0) => some (0, fun _ => [], [])
  | _ => none
theorem Elems.window {wd N : Nat} {g : Nat → List At} {cs : List Value} (h : Elems env wd N g cs) {off k : Nat} (hk : off + k ≤ N) : Elems env wd k (fun i => g (off + i)) ((cs.drop (off * wd)).take (k * wd)) := by
  have hle : off * wd + k * wd ≤ N * wd := by rw [← Nat.add_mul]; exact Nat.mul_le_mul_right _ hk
  refine ⟨by rw [List.length_take, List.length_drop, h.1]; omega, fun i hi => ?_, fun v hv => h.2.2 v (List.mem_of_mem_drop (List.mem_of_mem_take hv))⟩
  have := h.2.1 (off + i) (by omega)
  have e : (((cs.drop (off * wd)).take (k * wd)).drop (i * wd)).take wd = (cs.drop ((off + i) * wd)).take wd := by
    apply List.ext_getElem?
    intro q
    rw [seg_get _ (i * wd), seg_get _ ((off + i) * wd)]
    by_cases q1 : q < wd
    · rw [if_pos q1, if_pos q1, seg_get, if_pos (by
        have := Nat.mul_le_mul_right wd (show i + 1 ≤ k by omega)
        rw [Nat.add_mul] at this; omega), Nat.add_mul]
      congr 1; omega
    · rw [if_neg q1, if_neg q1]
  rw [e]; exact this
theorem srcOf_sound {wd n : Nat} {g : Nat → List At} {x : At} {v : Value} {obl : List Prop} (h : srcOf mem wd x = some (n, g, obl)) (ho : AllT obl) (hm : MemOk env mem w0 w S) (hx : x.rel env v) :
    ∃ ao cap cs, v = .slice ao n cap ∧ Elems env wd n g cs ∧ (ao = none → n = 0) ∧ ∀ j u, cs[j]? = some u → ∃ a, ao = some a ∧ w.cell? (a.add j) = some u := by
  have key : ∀ (hd wd' n' : Nat) (g' : Nat → List At) (off k : Nat) (ao : Option Addr) (cap : Nat) (cs : List Value), env hd = some (.slice ao n' cap) → Elems env wd' n' g' cs → (ao = none → n' = 0) → (∀ i v, cs[i]? = some v → ∃ a, ao = some a ∧ w.cell? (a.add i) = some v) →
      off + k ≤ n' → At.rel env (.sub hd wd' off k) v →
      ∃ ao cap cs, v = .slice ao k cap ∧ Elems env wd' k (fun i => g' (off + i)) cs ∧ (ao = none → k = 0) ∧ ∀ j u, cs[j]? = some u → ∃ a, ao = some a ∧ w.cell? (a.add j) = some u := by
    intro hd wd' n' g' off k ao cap cs h1 h5 h4 h6 hle hx
    obtain ⟨ao', len', cap', bo, c, e1, rfl, hkc, e2, e3⟩ := hx
    rw [h1] at e1
    obtain ⟨rfl, rfl, rfl⟩ : ao = ao' ∧ n' = len' ∧ cap = cap' := by simpa using e1
    by_cases hk : k = 0
    · subst hk
      exact ⟨bo, c, [], rfl, ⟨by simp, fun i hi => by omega, fun v hv => by cases hv⟩, fun _ => rfl, fun j u hj => by simp at hj⟩
    · cases ao with
      | none => have := h4 rfl; omega
      | some a =>
        have e3 := e3 (by omega)
        simp only [Option.map_some] at e3
        subst e3
        refine ⟨_, c, _, rfl, h5.window hle, (fun e => by cases e), fun j u hj => ?_⟩
        rw [seg_get] at hj
        split at hj
        · obtain ⟨a', ea, hc⟩ := h6 _ _ hj
          obtain rfl := Option.some.inj ea
          exact ⟨_, rfl, by rw [add_add]; exact hc⟩
        · cases hj
  unfold srcOf at h
  split at h
  · rename_i hd
    split at h
    · rename_i wd' n' g' hs
      split at h
      · rename_i e
        subst e
        simp only [Option.some.injEq, Prod.mk.injEq] at h
        obtain ⟨rfl, rfl, rfl⟩ := h
        obtain ⟨ao, cap, cs, h1, h2, h3, h4, h5, h6⟩ := hm.ok _ _ hs
        have hx1 := hx.1
        rw [h1] at hx1
        obtain rfl := Option.some.inj hx1
        exact ⟨ao, cap, cs, rfl, h5, fun e => (h4 e).1, h6⟩
      · cases h
    · rename_i e wd' n' g' hs
      split at h
      · rename_i ee
        subst ee
        simp only [Option.some.injEq, Prod.mk.injEq] at h
        obtain ⟨rfl, rfl, rfl⟩ := h
        obtain ⟨u, cs, h1, h2, h3⟩ := hm.ok _ _ hs
        have hx1 := hx.1
        rw [h1] at hx1
        obtain rfl := Option.some.inj hx1
        have hcells := fun b => h2.cells (g := b)
        rcases h2.2 with ⟨rfl, e0⟩ | ⟨b, cap, cur, rfl, _⟩
        · subst e0
          refine ⟨none, 0, cs, rfl, h3, fun _ => rfl, fun j u hj => ?_⟩
          have := h3.1
          have hlt := (List.getElem?_eq_some_iff.1 hj).1
          omega
        · exact ⟨_, cap, cs, rfl, h3, (fun e => by cases e), fun j u hj => ⟨_, rfl, hcells b rfl j u hj⟩⟩
      · cases h
    · cases h
  · rename_i hd wd0 off k
    split at h
    · rename_i e0
      subst e0
      split at h
      · rename_i wd' n' g' hs
        split at h
        · rename_i e
          subst e
          simp only [Option.some.injEq, Prod.mk.injEq] at h
          obtain ⟨rfl, rfl, rfl⟩ := h
          simp only [AllT, and_true] at ho
          obtain ⟨ao, cap, cs, h1, h2, h3, h4, h5, h6⟩ := hm.ok _ _ hs
          exact key hd _ n' g' off k ao cap cs h1 h5 (fun e => (h4 e).1) h6 ho hx
        · cases h
      · rename_i e wd' n' g' hs
        split at h
        · rename_i ee
          subst ee
          simp only [Option.some.injEq, Prod.mk.injEq] at h
          obtain ⟨rfl, rfl, rfl⟩ := h
          simp only [AllT, and_true] at ho
          obtain ⟨u, cs, h1, h2, h3⟩ := hm.ok _ _ hs
          have hcells := fun b => h2.cells (g := b)
          rcases h2.2 with ⟨rfl, e0⟩ | ⟨b, cap, cur, rfl, _⟩
          · subst e0
            refine key hd _ 0 g' off k none 0 cs h1 h3 (fun _ => rfl) (fun j u hj => ?_) ho hx
            have := h3.1
            have hlt := (List.getElem?_eq_some_iff.1 hj).1
            omega
          · exact key hd _ n' g' off k _ cap cs h1 h3 (fun e => by cases e) (fun j u hj => ⟨_, rfl, hcells b rfl j u hj⟩) ho hx
        · cases h
      · cases h
    · cases h
  · simp only [Option.some.injEq, Prod.mk.injEq] at h
    obtain ⟨rfl, rfl, rfl⟩ := h
    cases hx
    exact ⟨none, 0, [], rfl, ⟨by simp, fun i hi => by omega, fun v hv => by cases hv⟩, fun _ => rfl, fun j u hj => by simp at hj⟩
  · cases h

def joinG (n : Nat) (g g2 : Nat → List At) : Nat → List At := fun k => if k < n then g k else g2 (k - n)
theorem Elems.join {wd n m : Nat} {g g2 : Nat → List At} {cs ds : List Value} (h : Elems env wd n g cs) (k : Elems env wd m g2 ds) : Elems env wd (n + m) (joinG n g g2) (cs ++ ds) := by
  refine ⟨by rw [List.length_append, h.1, k.1, Nat.add_mul], fun i hi => ?_, fun v hv => ?_⟩
  · unfold joinG
    by_cases q : i < n
    · rw [if_pos q]
      have hle : i * wd + wd ≤ n * wd := by
        have := Nat.mul_le_mul_right wd (show i + 1 ≤ n by omega)
        rw [Nat.add_mul] at this; omega
      have hx : ((cs ++ ds).drop (i * wd)).take wd = (cs.drop (i * wd)).take wd := by
        apply List.ext_getElem?
        intro k'
        rw [seg_get, seg_get]
        by_cases q2 : k' < wd
        · rw [if_pos q2, if_pos q2, List.getElem?_append_left (by rw [h.1]; omega)]
        · rw [if_neg q2, if_neg q2]
      rw [hx]
      exact h.2.1 i q
    · rw [if_neg q]
      have hx : ((cs ++ ds).drop (i * wd)).take wd = (ds.drop ((i - n) * wd)).take wd := by
        apply List.ext_getElem?
        intro k'
        rw [seg_get, seg_get]
        have hle : n * wd ≤ i * wd := Nat.mul_le_mul_right wd (by omega)
        have e : (i - n) * wd = i * wd - n * wd := Nat.sub_mul i n wd
        by_cases q2 : k' < wd
        · rw [if_pos q2, if_pos q2, List.getElem?_append_right (by rw [h.1]; omega), h.1, e]
          congr 1; omega
        · rw [if_neg q2, if_neg q2]
      rw [hx]
      exact k.2.1 (i - n) (by omega)
  · rcases List.mem_append.1 hv with hv | hv
    · exact h.2.2 v hv
    · exact k.2.2 v hv

theorem run_append_none (t ty e : TypeId) (i : TypeInfo) (ht : P.underlying t = some (.slice e)) (hi : P.info? e = some i) (base : Option Addr) (n cap c : Nat) (hn : n ≤ cap) (w : World) :
    (Builtin.append_ #[t, t] ty #[.slice base n cap, .slice none 0 c]).run P w = .ok (.slice base n cap) w := by
  cases base with
  | none => simp [Builtin.append_, run_underlying ht, sizeOf, typeInfo, hi, Builtin.lenOf, hn, Builtin.firstCells]
  | some a => simp [Builtin.append_, run_underlying ht, sizeOf, typeInfo, hi, Builtin.lenOf, hn, Builtin.firstCells, storeCells]

/-- What stands in a slice with m elements more. -/
def appG (n m : Nat) (g g2 : Nat → List At) : Nat → List At := fun k => if m = 1 then (if k = n then g2 0 else g k) else joinG n g g2 k
theorem appG_eq {n m : Nat} {g g2 : Nat → List At} {k : Nat} (hk : k < n + m) : appG n m g g2 k = joinG n g g2 k := by
  unfold appG joinG
  split
  · rename_i e
    subst e
    split
    · rename_i e; subst e; rw [if_neg (by omega), Nat.sub_self]
    · rw [if_pos (by omega)]
  · rfl
theorem Elems.app {wd n m : Nat} {g g2 : Nat → List At} {cs : List Value} (h : Elems env wd (n + m) (joinG n g g2) cs) : Elems env wd (n + m) (appG n m g g2) cs :=
  ⟨h.1, fun i hi => by rw [appG_eq hi]; exact h.2.1 i hi, h.2.2⟩
def evAppend (P : Program) (t : TypeId) (mem : List Seg) (s x : At) (nh : Nat) : Option (SV × Eff × List Prop) :=
  match P.underlying t with
  | some (.slice e) => match P.info? e, zeroOf P e with
    | some i, some z =>
      if z.cells.size = i.size ∧ 0 < i.size then
        match srcOf mem i.size x with
        | some (m, g2, so) => match s with
          | .own h => match mem[h]? with
            | some (.row e' wd n g) => if e' = e ∧ wd = i.size ∧ h ≠ nh then some (.nv (.one (.own nh)), .app h (.row e wd (n + m) (appG n m g g2)), so ++ [n + m ≤ 4611686018427387904, (n + m) * i.bytes ≤ 140737488355328]) else none
            | _ => none
          | .sub h wd0 off n => match mem[h]? with
            | some (.row e' wd N g) => if e' = e ∧ wd = i.size ∧ h ≠ nh ∧ wd0 = wd ∧ off = 0 then some (.nv (.one (.own nh)), .app h (.row e wd (n + m) (appG n m g g2)), so ++ [n ≤ N, n + m ≤ 4611686018427387904, (n + m) * i.bytes ≤ 140737488355328]) else none
            | _ => none
          | .val (.slice none 0 0) => some (.nv (.one (.own nh)), .new (.row e i.size m g2), so ++ [m ≤ 4611686018427387904, m * i.bytes ≤ 140737488355328])
          | _ => none
        | none => none
      else none
    | _, _ => none
  | _ => none

/-- What is appended to: what it owns, and where. -/
theorem append_run {t ty e : TypeId} {i : TypeInfo} {z : Value} (ht : P.underlying t = some (.slice e)) (hi : P.info? e = some i) (hz : zeroOf P e = some z) (hzs : z.cells.size = i.size) (h0 : 0 < i.size)
    {v : Value} {n : Nat} {g : Nat → List At} {cs : List Value} (hown : w.ownsRow 0 e i.size v n cs) (he : Elems env i.size n g cs)
    {m : Nat} {g2 : Nat → List At} {x : At} {xv : Value} {so : List Prop} (hs : srcOf mem i.size x = some (m, g2, so)) (hso : AllT so) (hm : MemOk env mem w0 w S) (hx : x.rel env xv) (o1 : n + m ≤ 4611686018427387904) (o2 : (n + m) * i.bytes ≤ 140737488355328) :
    ∃ v' w' ds, (Builtin.append_ #[t, t] ty #[v, xv]).run P w = .ok v' w' ∧ w'.ownsRow 0 e i.size v' (n + m) (cs ++ ds) ∧ Elems env i.size (n + m) (joinG n g g2) (cs ++ ds) ∧ w.grownBy w' v.ownBlock ∧
      (v'.ownBlock = v.ownBlock ∨ v'.ownBlock = some w.heap.size) ∧ (∃ ao k c, v' = .slice ao k c) := by
  have hz' : i.zero = some z := by simpa [zeroOf, hi] using hz
  obtain ⟨ao, cap, ds, rfl, hd, hnil, hcell⟩ := srcOf_sound hs hso hm hx
  have hj := he.join hd
  cases ao with
  | none =>
    have e0 := hnil rfl
    subst e0
    have hds : ds = [] := List.eq_nil_of_length_eq_zero (by simpa using hd.1)
    subst hds
    have hv : ∃ ao k c, v = .slice ao k c ∧ k ≤ c := by
      rcases hown.2 with ⟨rfl, _⟩ | ⟨b, c, cur, rfl, _, _, hc, _⟩
      · exact ⟨_, _, _, rfl, by omega⟩
      · exact ⟨_, _, _, rfl, hc⟩
    obtain ⟨a', k, c, rfl, hkc⟩ := hv
    exact ⟨_, w, [], run_append_none t ty e i ht hi a' k c cap hkc w, by simpa using hown, hj, ⟨rfl, rfl, rfl, Nat.le_refl _, fun _ _ _ => rfl⟩, .inl rfl, _, _, _, rfl⟩
  | some a =>
    obtain ⟨v', w', r1, r2, r3, r4, r5⟩ := run_append_own_at (P := P) w 0 t ty e i z i.size i.bytes ht hi hz' rfl rfl hzs h0 v n cs hown a m cap ds hd.1 (fun j u hj => by
      obtain ⟨a', ea, hc⟩ := hcell j u hj
      obtain rfl := Option.some.inj ea
      exact hc) hd.2.2 (by unfold maxLen; omega) o2 (Nat.zero_le _)
    refine ⟨v', w', ds, r1, r2, hj, r3, r5, ?_⟩
    rcases r2.2 with ⟨rfl, _⟩ | ⟨b, c, cur, rfl, _⟩
    · exact ⟨_, _, _, rfl⟩
    · exact ⟨_, _, _, rfl⟩

theorem ownsRow_cut {e : TypeId} {wd N n cap : Nat} {ao : Option Addr} {cs : List Value} (h : w.ownsRow 0 e wd (.slice ao N cap) N cs) (hn : n ≤ N) : w.ownsRow 0 e wd (.slice ao n cap) n (cs.take (n * wd)) := by
  have hle : n * wd ≤ N * wd := Nat.mul_le_mul_right _ hn
  have hl := h.1
  refine ⟨by rw [List.length_take, hl]; omega, ?_⟩
  rcases h.2 with ⟨e1, e2⟩ | ⟨b, c, cur, e1, h0, h1, h2, h3, h4, h5⟩
  · obtain ⟨rfl, rfl, rfl⟩ : ao = none ∧ N = 0 ∧ cap = 0 := by simpa using e1
    obtain rfl : n = 0 := by omega
    exact .inl ⟨rfl, rfl⟩
  · obtain ⟨rfl, _, rfl⟩ : ao = some ⟨b, 0, none⟩ ∧ N = N ∧ cap = c := by simpa using e1
    exact .inr ⟨b, cap, cur, rfl, h0, h1, by omega, h3, h4, by rw [← h5, List.take_take, Nat.min_eq_left hle]⟩
theorem app_own {hd : Nat} {e : TypeId} {wd N k : Nat} {g G : Nat → List At} {v0 v v' : Value} {ds : List Value} {w' : World} (hrow : mem[hd]? = some (.row e wd N g)) (h1 : env hd = some v0) (hb0 : v.ownBlock = v0.ownBlock)
    (hown0 : ∃ cs0, w.ownsRow 0 e wd v0 N cs0) (hm : MemOk env mem w0 w S) (hg : mem[nh]? = some .gone) (hn : env nh = none) (hne : hd ≠ nh) (r2 : w'.ownsRow 0 e wd v' k ds) (r3 : Elems env wd k G ds) (r4 : w.grownBy w' v.ownBlock)
    (r5 : v'.ownBlock = v.ownBlock ∨ v'.ownBlock = some w.heap.size) (r6 : ∃ ao k c, v' = .slice ao k c) :
    (SV.nv (.one (.own nh))).rel (env.put nh v') v' ∧ After env (env.put nh v') (.app hd (.row e wd k G)) mem w0 w' S nh := by
  obtain ⟨cs0, h2⟩ := hown0
  have hdrop := hm.drop hd
  refine ⟨⟨Env.put_same _ _, r6⟩, Env.le_put hn, fun k hk => Env.put_other _ hk, ?_, (fun h => by cases h), fun _ _ e => by cases e⟩
  refine hdrop.fill2 nh v' _ (by rw [List.getElem?_set_ne hne]; exact hg) hn v.ownBlock r4.os r4.tape r4.output r4.size r4.block ?_ ?_ ?_ ⟨v', _, Env.put_same _ _, r2, r3.le (Env.le_put hn)⟩
  · intro k t b hb hk hl
    by_cases ek : k = hd
    · subst ek
      rw [List.getElem?_set_self (List.getElem?_eq_some_iff.1 hrow).1] at hk
      cases hk
      exact hl.elim
    · rw [List.getElem?_set_ne (Ne.symm ek)] at hk
      refine hm.sep hd k _ t b hrow hk (Ne.symm ek) rfl hl ?_
      rw [hb0] at hb
      rcases h2.2 with ⟨rfl, _⟩ | ⟨b', c, cur, rfl, _⟩
      · cases hb
      · simpa [blk, h1, blksOf, baseOf, Value.ownBlock, eq_comm] using hb
  · intro b hb
    refine hm.own hd _ b hrow rfl ?_
    rw [hb0] at hb
    rcases h2.2 with ⟨rfl, _⟩ | ⟨b', c, cur, rfl, _⟩
    · cases hb
    · simpa [blk, h1, blksOf, baseOf, Value.ownBlock, eq_comm] using hb
  · intro b hb
    have := own_base r2 hb
    rcases r5 with e5 | e5
    · exact .inl (by rw [← e5]; exact this)
    · rw [e5] at this
      exact .inr (by simp at this; omega)
/-- A part from the beginning on owns what it names. -/
theorem sub_own {hd wd n N : Nat} {e : TypeId} {g : Nat → List At} {sv : Value} (hrow : mem[hd]? = some (.row e wd N g)) (hm : MemOk env mem w0 w S) (hs : At.rel env (.sub hd wd 0 n) sv) (hn : n ≤ N) :
    ∃ v0 cs, env hd = some v0 ∧ sv.ownBlock = v0.ownBlock ∧ (∃ cs0, w.ownsRow 0 e wd v0 N cs0) ∧ w.ownsRow 0 e wd sv n cs ∧ Elems env wd n g cs := by
  obtain ⟨v, cs, h1, h2, h3⟩ := hm.ok _ _ hrow
  obtain ⟨ao, len, cap, bo, c, e1, rfl, hkc, e2, e3⟩ := hs
  obtain ⟨rfl, rfl⟩ := e2 rfl
  rw [h1] at e1
  obtain rfl := Option.some.inj e1
  have hlen : len = N := by
    rcases h2.2 with ⟨q, q2⟩ | ⟨b, c, cur, q, _⟩
    · simp at q; omega
    · simp at q; omega
  subst hlen
  refine ⟨_, _, h1, by cases bo <;> rfl, ⟨cs, h2⟩, ownsRow_cut h2 hn, ?_⟩
  have := h3.window (off := 0) (k := n) (by omega)
  simpa using this
theorem run_evAppend {t ty : TypeId} {s x : At} {sv xv : Value} {r : SV} {eff : Eff} {obl : List Prop} (h : evAppend P t mem s x nh = some (r, eff, obl)) (ho : AllT obl) (hm : MemOk env mem w0 w S) (hg : mem[nh]? = some .gone) (hn : env nh = none)
    (hs : s.rel env sv) (hx : x.rel env xv) : ∃ u env' w', (Builtin.append_ #[t, t] ty #[sv, xv]).run P w = .ok u w' ∧ r.rel env' u ∧ After env env' eff mem w0 w' S nh := by
  unfold evAppend at h
  split at h
  · rename_i e hu
    split at h
    · rename_i i z hi hz
      split at h
      · rename_i hc
        split at h
        · rename_i m g2 so hsrc
          split at h
          · rename_i hd
            split at h
            · rename_i e' wd n g hrow
              split at h
              · rename_i hcc
                obtain ⟨rfl, rfl, hne⟩ := hcc
                simp only [Option.some.injEq, Prod.mk.injEq] at h
                obtain ⟨rfl, rfl, rfl⟩ := h
                obtain ⟨ho0, ho⟩ := AllT.append.1 ho
                simp only [AllT, and_true] at ho
                obtain ⟨v, cs, h1, h2, h3⟩ := hm.ok _ _ hrow
                have hs1 := hs.1
                rw [h1] at hs1
                obtain rfl := Option.some.inj hs1
                obtain ⟨v', w', ds, r1, r2, r3, r4, r5, r6⟩ := append_run (ty := ty) hu hi hz hc.1 hc.2 h2 h3 hsrc ho0 hm hx ho.1 ho.2
                obtain ⟨q1, q2⟩ := app_own hrow h1 rfl ⟨cs, h2⟩ hm hg hn hne r2 r3.app r4 r5 r6
                exact ⟨v', _, w', r1, q1, q2⟩
              · cases h
            · cases h
          · rename_i hd wd0 off n
            split at h
            · rename_i e' wd N g hrow
              split at h
              · rename_i hcc
                obtain ⟨rfl, rfl, hne, rfl, rfl⟩ := hcc
                simp only [Option.some.injEq, Prod.mk.injEq] at h
                obtain ⟨rfl, rfl, rfl⟩ := h
                obtain ⟨ho0, ho⟩ := AllT.append.1 ho
                simp only [AllT, and_true] at ho
                obtain ⟨v0, cs, h1, hb0, hown0, h2, h3⟩ := sub_own hrow hm hs ho.1
                obtain ⟨v', w', ds, r1, r2, r3, r4, r5, r6⟩ := append_run (ty := ty) hu hi hz hc.1 hc.2 h2 h3 hsrc ho0 hm hx ho.2.1 ho.2.2
                obtain ⟨q1, q2⟩ := app_own hrow h1 hb0 hown0 hm hg hn hne r2 r3.app r4 r5 r6
                exact ⟨v', _, w', r1, q1, q2⟩
              · cases h
            · cases h
          · simp only [Option.some.injEq, Prod.mk.injEq] at h
            obtain ⟨rfl, rfl, rfl⟩ := h
            obtain ⟨ho0, ho⟩ := AllT.append.1 ho
            simp only [AllT, and_true] at ho
            cases hs
            obtain ⟨v', w', ds, r1, r2, r3, r4, r5, r6⟩ := append_run (ty := ty) (v := .slice none 0 0) (n := 0) (g := fun _ => []) (cs := []) hu hi hz hc.1 hc.2 (World.ownsRow_nil w 0 e i.size) ⟨by simp, fun i hi => by omega, fun v hv => by cases hv⟩ hsrc ho0 hm hx (by omega) (by simpa using ho.2)
            refine ⟨v', env.put nh v', w', r1, ⟨Env.put_same _ _, r6⟩, Env.le_put hn, fun k hk => Env.put_other _ hk, ?_, (fun h => by cases h), fun _ _ e => by cases e⟩
            have e1 : joinG 0 (fun _ => []) g2 = g2 := by funext k; simp [joinG]
            rw [Nat.zero_add] at r2 r3
            rw [e1] at r3
            refine hm.fill2 nh v' _ hg hn none r4.os r4.tape r4.output r4.size (fun k hk _ => r4.block k hk (by simp [Value.ownBlock])) (fun _ _ _ e => by cases e) (fun _ e => by cases e) ?_ ⟨v', _, Env.put_same _ _, r2, r3.le (Env.le_put hn)⟩
            intro b hb
            have := own_base r2 hb
            rcases r5 with e5 | e5
            · rw [e5] at this; cases this
            · rw [e5] at this
              exact .inr (by simp at this; omega)
          · cases h
        · cases h
      · cases h
    · cases h
  · cases h

/-! a text's bytes behind a row -/
def strG (s : ByteArray) : Nat → List At := fun k => [.val (.int .u8 (byteAt s k))]
theorem strCells_elems (s : ByteArray) : Elems env 1 s.size (strG s) (strCells s) := by
  have hl : (strCells s).length = s.size := strCells_length s
  refine ⟨by rw [hl, Nat.mul_one], fun i hi => ?_, fun v hv => strCells_oneCell s v hv⟩
  have hi' : i < (strCells s).length := by omega
  have e : ((strCells s).drop (i * 1)).take 1 = [(strCells s)[i]] := by
    rw [Nat.mul_one, List.drop_eq_getElem_cons hi']; rfl
  rw [e]
  refine ⟨?_, trivial⟩
  show (strCells s)[i] = _
  have hd : i < s.data.toList.length := by simpa using hi
  have : byteAt s (i : Int) = ((s.data.toList[i]'hd).toNat : Int) := by
    unfold byteAt
    rw [Int.toNat_natCast, List.getD_eq_getElem?_getD, List.getElem?_eq_getElem hd]; rfl
  rw [this]
  simp [strCells]
theorem append_str_blk {t u ty e : TypeId} {i : TypeInfo} (ht : P.underlying t = some (.slice e)) (hu : P.underlying u = some .string) (hi : P.info? e = some i) (hz : i.zero = some (.int .u8 0)) (hs : i.size = 1) (hb : i.bytes = 1)
    {v : Value} {n : Nat} {xs : List Value} (hown : w.ownsRow 0 e 1 v n xs) {s : ByteArray} (hbytes : n + s.size ≤ 140737488355328) {v' : Value} {w' : World} (hr : (Builtin.append_ #[t, u] ty #[v, .string s]).run P w = .ok v' w') :
    v'.ownBlock = v.ownBlock ∨ v'.ownBlock = some w.heap.size := by
  rcases hown.2 with ⟨rfl, rfl⟩ | ⟨g, cap, cur, rfl, hbg, hg, hnc, hcm, hcs, htake⟩
  · by_cases hm : s.size = 0
    · have hf := run_firstCells_string (P := P) w 1 s
      rw [hm] at hf
      simp [Builtin.append_, run_underlying ht, run_underlying hu, sizeOf, typeInfo, hi, hs, Builtin.lenOf, hm, hf] at hr
      exact .inl (by rw [← hr.1])
    · rw [run_append_nil_string (P := P) w t u ty e i (.int .u8 0) ht hu hi hz s (by omega) (by omega) (by rw [hb]; omega)] at hr
      simp only [Result.ok.injEq] at hr
      exact .inr (by rw [← hr.1]; rfl)
  · by_cases hroom : n + s.size ≤ cap
    · have hcs' : cur.size = cap := by simpa using hcs
      rw [run_append_room_string (P := P) w t u ty e i ht hu hi hs g n cap cur hg s hroom (by omega)] at hr
      simp only [Result.ok.injEq] at hr
      exact .inl (by rw [← hr.1]; rfl)
    · have holds : ∀ j u, xs[j]? = some u → w.cell? ((⟨g, 0, none⟩ : Addr).add j) = some u := hown.cells (g := g) rfl
      rw [run_append_grow_string (P := P) w t u ty e i (.int .u8 0) ht hu hi hz ⟨g, 0, none⟩ n cap xs (by rw [hs]; simpa using hown.1) holds s (by omega) (by omega) (by rw [hb]; exact growslice_fits (by omega) (by omega))] at hr
      simp only [Result.ok.injEq] at hr
      exact .inr (by rw [← hr.1]; rfl)
def evAppendStr (P : Program) (t t' : TypeId) (mem : List Seg) (s : At) (str : ByteArray) (nh : Nat) : Option (SV × Eff × List Prop) :=
  match P.underlying t, P.underlying t' with
  | some (.slice e), some .string => match P.info? e, zeroOf P e with
    | some i, some (.int .u8 0) =>
      if i.size = 1 ∧ i.bytes = 1 then
        match s with
        | .own h => match mem[h]? with
          | some (.row e' wd n g) => if e' = e ∧ wd = 1 ∧ h ≠ nh then some (.nv (.one (.own nh)), .app h (.row e 1 (n + str.size) (joinG n g (strG str))), [n + str.size ≤ 140737488355328]) else none
          | _ => none
        | .val (.slice none 0 0) => some (.nv (.one (.own nh)), .new (.row e 1 str.size (strG str)), [str.size ≤ 140737488355328])
        | _ => none
      else none
    | _, _ => none
  | _, _ => none
theorem run_evAppendStr {t t' ty : TypeId} {s : At} {str : ByteArray} {sv : Value} {r : SV} {eff : Eff} {obl : List Prop} (h : evAppendStr P t t' mem s str nh = some (r, eff, obl)) (ho : AllT obl) (hm : MemOk env mem w0 w S) (hg : mem[nh]? = some .gone) (hn : env nh = none)
    (hs : s.rel env sv) : ∃ u env' w', (Builtin.append_ #[t, t'] ty #[sv, .string str]).run P w = .ok u w' ∧ r.rel env' u ∧ After env env' eff mem w0 w' S nh := by
  unfold evAppendStr at h
  split at h
  · rename_i e hu hu'
    split at h
    · rename_i i hi hz
      have hz' : i.zero = some (.int .u8 0) := by simpa [zeroOf, hi] using hz
      split at h
      · rename_i hc
        split at h
        · rename_i hd
          split at h
          · rename_i e' wd n g hrow
            split at h
            · rename_i hcc
              obtain ⟨rfl, rfl, hne⟩ := hcc
              simp only [Option.some.injEq, Prod.mk.injEq] at h
              obtain ⟨rfl, rfl, rfl⟩ := h
              simp only [AllT, and_true] at ho
              obtain ⟨v, cs, h1, h2, h3⟩ := hm.ok _ _ hrow
              have hs1 := hs.1
              rw [h1] at hs1
              obtain rfl := Option.some.inj hs1
              obtain ⟨v', w', r1, r2, r3, r4⟩ := run_append_own_string (P := P) w 0 t t' ty e' i hu hu' hi hz' hc.1 hc.2 v n cs h2 str (by unfold maxLen; omega) ho (Nat.zero_le _)
              have r6 : ∃ ao k c, v' = .slice ao k c := by
                rcases r2.2 with ⟨rfl, _⟩ | ⟨b, c, cur, rfl, _⟩
                · exact ⟨_, _, _, rfl⟩
                · exact ⟨_, _, _, rfl⟩
              obtain ⟨q1, q2⟩ := app_own hrow h1 rfl ⟨cs, h2⟩ hm hg hn hne r2 (h3.join (strCells_elems str)) r3 (append_str_blk hu hu' hi hz' hc.1 hc.2 h2 ho r1) r6
              exact ⟨v', _, w', r1, q1, q2⟩
            · cases h
          · cases h
        · simp only [Option.some.injEq, Prod.mk.injEq] at h
          obtain ⟨rfl, rfl, rfl⟩ := h
          simp only [AllT, and_true] at ho
          cases hs
          obtain ⟨v', w', r1, r2, r3, r4⟩ := run_append_own_string (P := P) w 0 t t' ty e i hu hu' hi hz' hc.1 hc.2 (.slice none 0 0) 0 [] (World.ownsRow_nil w 0 e 1) str (by unfold maxLen; omega) (by omega) (Nat.zero_le _)
          have r6 : ∃ ao k c, v' = .slice ao k c := by
            rcases r2.2 with ⟨rfl, _⟩ | ⟨b, c, cur, rfl, _⟩
            · exact ⟨_, _, _, rfl⟩
            · exact ⟨_, _, _, rfl⟩
          have e1 : joinG 0 (fun _ => []) (strG str) = strG str := by funext k; simp [joinG]
          have he : Elems env 1 (0 + str.size) (strG str) ([] ++ strCells str) := by simpa using strCells_elems (env := env) str
          refine ⟨v', env.put nh v', w', r1, ⟨Env.put_same _ _, r6⟩, Env.le_put hn, fun k hk => Env.put_other _ hk, ?_, (fun h => by cases h), fun _ _ e => by cases e⟩
          rw [Nat.zero_add] at r2 he
          refine hm.fill2 nh v' _ hg hn none r3.os r3.tape r3.output r3.size (fun k hk _ => r3.block k hk (by simp [Value.ownBlock])) (fun _ _ _ e => by cases e) (fun _ e => by cases e) ?_ ⟨v', _, Env.put_same _ _, r2, he.le (Env.le_put hn)⟩
          intro b hb
          have hob := own_base r2 hb
          rcases append_str_blk hu hu' hi hz' hc.1 hc.2 (World.ownsRow_nil w 0 e 1) (by omega) r1 with e5 | e5
          · rw [e5] at hob; cases hob
          · rw [e5] at hob
            exact .inr (by simp at hob; omega)
        · cases h
      · cases h
    · cases h
  · cases h

/-! len, min, max -/
def evLen (P : Program) (t : TypeId) (mem : List Seg) : NV → Option Int
  | .one (.val (.string s)) => match P.underlying t with | some .string => some s.size | _ => none
  | .one (.val (.slice _ n _)) => match P.underlying t with | some (.slice _) => some n | _ => none
  | .one (.own h) => match P.underlying t, mem[h]? with
    | some (.slice _), some (.ro _ n _) => some n
    | some (.slice _), some (.row _ _ n _) => some n
    | _, _ => none
  | .one (.sub _ _ _ n) => match P.underlying t with | some (.slice _) => some n | _ => none
  | .agg _ => match P.underlying t with | some (.array n _) => some n | _ => none
  | _ => none
theorem run_evLen {t ty : TypeId} {x : NV} {v : Value} {n : Int} (h : evLen P t mem x = some n) (hm : MemOk env mem w0 w S) (hx : x.rel env v) (ts : Array TypeId) (ht : ts[0]? = some t) :
    (Builtin.len_ ts ty #[v]).run P w = .ok (.int .i64 n) w := by
  unfold evLen at h
  unfold Builtin.len_
  rw [ht]
  split at h
  · split at h
    · rename_i s _ hu
      simp only [Option.some.injEq] at h; subst h
      cases hx
      simp [run_underlying hu, goInt]
    · cases h
  · split at h
    · rename_i hu
      simp only [Option.some.injEq] at h; subst h
      cases hx
      simp [run_underlying hu, goInt]
    · cases h
  · split at h
    · rename_i hu hs
      simp only [Option.some.injEq] at h; subst h
      obtain ⟨ao, cap, cs, h1, _⟩ := hm.ok _ _ hs
      have hx1 := hx.1
      rw [h1] at hx1
      obtain rfl := Option.some.inj hx1
      simp [run_underlying hu, goInt]
    · rename_i hu hs
      simp only [Option.some.injEq] at h; subst h
      obtain ⟨u, cs, h1, h2, _⟩ := hm.ok _ _ hs
      have hx1 := hx.1
      rw [h1] at hx1
      obtain rfl := Option.some.inj hx1
      rcases h2.2 with ⟨rfl, rfl⟩ | ⟨b, c, cur, rfl, _⟩
      · simp [run_underlying hu, goInt]
      · simp [run_underlying hu, goInt]
    · cases h
  · split at h
    · rename_i hu
      simp only [Option.some.injEq] at h; subst h
      obtain ⟨_, _, _, _, _, _, rfl, _⟩ := hx
      simp [run_underlying hu, goInt]
    · cases h
  · split at h
    · rename_i hu
      simp only [Option.some.injEq] at h; subst h
      obtain ⟨cs, rfl, _⟩ := hx
      simp [run_underlying hu, goInt]
    · cases h
  · cases h

def intOf? : SV → Option (IntKind × Int)
  | .nv (.one (.val (.int k a))) => some (k, a)
  | _ => none
theorem intOf?_rel {x : SV} {k : IntKind} {a : Int} {v : Value} (h : intOf? x = some (k, a)) (hx : x.rel env v) : v = .int k a := by
  unfold intOf? at h
  split at h
  · simp only [Option.some.injEq, Prod.mk.injEq] at h
    obtain ⟨rfl, rfl⟩ := h
    exact hx
  · cases h
def intsOf (k : IntKind) : List SV → Option (List Int)
  | [] => some []
  | x :: xs => match intOf? x, intsOf k xs with
    | some (k', a), some l => if k' = k then some (a :: l) else none
    | _, _ => none
theorem intsOf_rel {k : IntKind} : ∀ {xs : List SV} {l : List Int} {vs : List Value}, intsOf k xs = some l → AllSV env xs vs → vs = l.map (.int k)
  | [], l, [], h, _ => by simp only [intsOf, Option.some.injEq] at h; subst h; rfl
  | x :: xs, l, v :: vs, h, hx => by
    unfold intsOf at h
    split at h
    · rename_i k' a l' e1 e2
      split at h
      · rename_i ek
        subst ek
        simp only [Option.some.injEq] at h; subst h
        rw [intOf?_rel e1 hx.1, intsOf_rel e2 hx.2]; rfl
      · cases h
    · cases h
def evFold (f : Int → Int → Int) : List SV → Option (IntKind × Int)
  | [] => none
  | x :: xs => match intOf? x with
    | some (k, a) => match intsOf k xs with
      | some l => some (k, l.foldl f a)
      | none => none
    | none => none
theorem run_evMin {k : IntKind} {n : Int} (ts : Array TypeId) (ty : TypeId) {xs : List SV} {vs : List Value} (h : evFold (fun x y => if y < x then y else x) xs = some (k, n)) (hx : AllSV env xs vs) (w : World) :
    (Builtin.min_ ts ty vs.toArray).run P w = .ok (.int k n) w := by
  cases xs with
  | nil => cases h
  | cons x xs =>
    cases vs with
    | nil => exact hx.elim
    | cons v vs =>
      simp only [evFold] at h
      split at h
      · rename_i k' a e1
        split at h
        · rename_i l e2
          simp only [Option.some.injEq, Prod.mk.injEq] at h
          obtain ⟨rfl, rfl⟩ := h
          rw [intOf?_rel e1 hx.1, intsOf_rel e2 hx.2]
          have key : ∀ (l : List Int) (a : Int), (List.foldlM Builtin.min2 (Value.int k' a) (l.map (Value.int k'))).run P w = .ok (.int k' (l.foldl (fun x y => if y < x then y else x) a)) w := by
            intro l
            induction l with
            | nil => intro a; rfl
            | cons b l ih =>
              intro a
              simp only [List.map_cons, List.foldlM_cons, List.foldl_cons]
              exact ih _
          exact key l a
        · cases h
      · cases h
theorem run_evMax {k : IntKind} {n : Int} (ts : Array TypeId) (ty : TypeId) {xs : List SV} {vs : List Value} (h : evFold (fun x y => if y > x then y else x) xs = some (k, n)) (hx : AllSV env xs vs) (w : World) :
    (Builtin.max_ ts ty vs.toArray).run P w = .ok (.int k n) w := by
  cases xs with
  | nil => cases h
  | cons x xs =>
    cases vs with
    | nil => exact hx.elim
    | cons v vs =>
      simp only [evFold] at h
      split at h
      · rename_i k' a e1
        split at h
        · rename_i l e2
          simp only [Option.some.injEq, Prod.mk.injEq] at h
          obtain ⟨rfl, rfl⟩ := h
          rw [intOf?_rel e1 hx.1, intsOf_rel e2 hx.2]
          have key : ∀ (l : List Int) (a : Int), (List.foldlM Builtin.max2 (Value.int k' a) (l.map (Value.int k'))).run P w = .ok (.int k' (l.foldl (fun x y => if y > x then y else x) a)) w := by
            intro l
            induction l with
            | nil => intro a; rfl
            | cons b l ih =>
              intro a
              simp only [List.map_cons, List.foldlM_cons, List.foldl_cons]
              exact ih _
          exact key l a
        · cases h
      · cases h

/-! slices of texts, and of rows -/
def evSliceStr (s : ByteArray) (lo hi : Option Int) : ByteArray × List Prop :=
  (s.extract (lo.getD 0).toNat (hi.getD s.size).toNat, [0 ≤ lo.getD 0, lo.getD 0 ≤ hi.getD s.size, hi.getD s.size ≤ s.size])
theorem run_evSliceStr {t : TypeId} (hu : P.underlying t = some .string) (s : ByteArray) (lo hi : Option Int) (kl kh : IntKind) {r : ByteArray} {obl : List Prop} (h : evSliceStr s lo hi = (r, obl)) (ho : AllT obl) (w : World) :
    (Instr.sliceAt t (.string s) (lo.map (.int kl)) (hi.map (.int kh)) none).run P w = .ok (.string r) w := by
  unfold evSliceStr at h
  obtain ⟨rfl, rfl⟩ := Prod.mk.inj h
  simp only [AllT, and_true] at ho
  unfold Instr.sliceAt
  simp only [Sem.run_bind, run_underlying hu, Result.andThen_ok]
  unfold Instr.slice
  simp only [Sem.run_bind, run_underlying hu, Result.andThen_ok]
  cases lo <;> cases hi <;> simp_all [Instr.sliceBounds, Instr.sliceBound, asIntOf]
  rw [if_pos (by omega), if_pos (by omega)]

def loN (lo : Option Int) : Nat := match lo with | none => 0 | some l => l.toNat
def cntN (lo hi : Option Int) (n : Nat) : Nat := match hi, lo with | none, none => n | some h, none => h.toNat | none, some l => n - l.toNat | some h, some l => h.toNat - l.toNat
def sliceObl (lo hi : Option Int) (n : Nat) : List Prop := match hi, lo with | none, none => [] | some h, none => [0 ≤ h, h ≤ n] | none, some l => [0 ≤ l, l ≤ n] | some h, some l => [0 ≤ l, l ≤ h, h ≤ n]
/-- A part of a row. -/
def evSliceRow (P : Program) (t : TypeId) (mem : List Seg) (x : At) (lo hi : Option Int) : Option (At × List Prop) :=
  match P.underlying t with
  | some (.slice e) => if (P.info? e).isSome then match x with
    | .own h => match mem[h]? with
      | some (.ro wd n _) => if wd = P.cellsOf e then some (.sub h wd (loN lo) (cntN lo hi n), sliceObl lo hi n) else none
      | some (.row _ wd n _) => if wd = P.cellsOf e then some (.sub h wd (loN lo) (cntN lo hi n), sliceObl lo hi n) else none
      | _ => none
    | .sub h wd off n => if wd = P.cellsOf e then some (.sub h wd (off + loN lo) (cntN lo hi n), sliceObl lo hi n) else none
    | .val (.slice none 0 0) => some (.val (.slice none 0 0), sliceObl lo hi 0)
    | _ => none
    else none
  | _ => none
theorem run_slice_of {t e : TypeId} (hu : P.underlying t = some (.slice e)) (hi : (P.info? e).isSome = true) (lo hi' : Option Int) (kl kh : IntKind) (ao : Option Addr) (n c : Nat) (hnc : n ≤ c) (ho : AllT (sliceObl lo hi' n)) (w : World) :
    (Instr.sliceAt t (.slice ao n c) (lo.map (.int kl)) (hi'.map (.int kh)) none).run P w = .ok (.slice (if c = loN lo then ao else ao.map (·.add (loN lo * P.cellsOf e))) (cntN lo hi' n) (c - loN lo)) w ∧ loN lo + cntN lo hi' n ≤ n := by
  unfold Instr.sliceAt
  simp only [Sem.run_bind, run_underlying hu, Result.andThen_ok]
  unfold Instr.slice
  simp only [Sem.run_bind, run_underlying hu, Result.andThen_ok]
  cases lo <;> cases hi' <;> simp only [sliceObl, AllT, and_true] at ho <;> simp only [loN, cntN]
  · refine ⟨?_, by omega⟩
    simp [Instr.sliceBounds, run_sizeOf_info hi]
  · rename_i h
    refine ⟨?_, by omega⟩
    have h1 : (h : Int) ≤ c := by omega
    simp [Instr.sliceBounds, Instr.sliceBound, asIntOf, run_sizeOf_info hi, ho.1, h1]
  · rename_i l
    refine ⟨?_, by omega⟩
    simp [Instr.sliceBounds, Instr.sliceBound, asIntOf, run_sizeOf_info hi, ho.1, ho.2]
    rfl
  · rename_i l h
    refine ⟨?_, by omega⟩
    have h1 : (h : Int) ≤ c := by omega
    have h2 : (0 : Int) ≤ h := by omega
    have h3 : l ≤ ((h.toNat : Nat) : Int) := by omega
    have h4 : l ≤ max h 0 := by omega
    simp [Instr.sliceBounds, Instr.sliceBound, asIntOf, run_sizeOf_info hi, ho.1, h1, h2, h3, h4]
    rfl
theorem run_evSliceRow {t : TypeId} {x r : At} {lo hi : Option Int} {obl : List Prop} {v : Value} (h : evSliceRow P t mem x lo hi = some (r, obl)) (ho : AllT obl) (kl kh : IntKind) (hm : MemOk env mem w0 w S) (hx : x.rel env v) :
    ∃ u, (Instr.sliceAt t v (lo.map (.int kl)) (hi.map (.int kh)) none).run P w = .ok u w ∧ r.rel env u := by
  have whole : ∀ (hd wd N : Nat) (e : TypeId) (ao : Option Addr) (cap : Nat), P.underlying t = some (.slice e) → (P.info? e).isSome = true → env hd = some (.slice ao N cap) → N ≤ cap → wd = P.cellsOf e → AllT (sliceObl lo hi N) →
      ∃ u, (Instr.sliceAt t (.slice ao N cap) (lo.map (.int kl)) (hi.map (.int kh)) none).run P w = .ok u w ∧ At.rel env (.sub hd wd (loN lo) (cntN lo hi N)) u := by
    intro hd wd N e ao cap hu hi' h1 hnc ew ho
    obtain ⟨r1, r2⟩ := run_slice_of hu hi' lo hi kl kh ao N cap hnc ho w
    refine ⟨_, r1, ao, N, cap, _, _, h1, rfl, by omega, ?_, ?_⟩
    · intro e0
      rw [e0]
      constructor
      · split
        · rfl
        · cases ao <;> simp [Addr.add]
      · omega
    · intro hp
      rw [if_neg (by omega), ew]
  unfold evSliceRow at h
  split at h
  · rename_i e hu
    split at h
    · rename_i hi'
      split at h
      · rename_i hd
        split at h
        · rename_i wd n g hs
          split at h
          · rename_i ew
            simp only [Option.some.injEq, Prod.mk.injEq] at h
            obtain ⟨rfl, rfl⟩ := h
            obtain ⟨ao, cap, cs, h1, h2, h3, h4, h5, h6⟩ := hm.ok _ _ hs
            have hx1 := hx.1
            rw [h1] at hx1
            obtain rfl := Option.some.inj hx1
            exact whole hd wd n e ao cap hu hi' h1 h2 ew ho
          · cases h
        · rename_i e' wd n g hs
          split at h
          · rename_i ew
            simp only [Option.some.injEq, Prod.mk.injEq] at h
            obtain ⟨rfl, rfl⟩ := h
            obtain ⟨u, cs, h1, h2, h3⟩ := hm.ok _ _ hs
            have hx1 := hx.1
            rw [h1] at hx1
            obtain rfl := Option.some.inj hx1
            rcases h2.2 with ⟨rfl, rfl⟩ | ⟨b, cap, cur, rfl, _, _, hnc, _⟩
            · exact whole hd wd 0 e none 0 hu hi' h1 (Nat.le_refl _) ew ho
            · exact whole hd wd n e _ cap hu hi' h1 hnc ew ho
          · cases h
        · cases h
      · rename_i hd wd off n
        split at h
        · rename_i ew
          simp only [Option.some.injEq, Prod.mk.injEq] at h
          obtain ⟨rfl, rfl⟩ := h
          obtain ⟨ao, len, cap, bo, c, e1, rfl, hkc, e2, e3⟩ := hx
          obtain ⟨r1, r2⟩ := run_slice_of hu hi' lo hi kl kh bo n c hkc ho w
          refine ⟨_, r1, ao, len, cap, _, _, e1, rfl, by omega, ?_, ?_⟩
          · intro e0
            obtain ⟨q1, q2⟩ := e2 (by omega)
            have q3 : loN lo = 0 := by omega
            rw [q3, q1, q2]
            constructor
            · split
              · rfl
              · cases ao <;> simp [Addr.add]
            · omega
          · intro hp
            rw [if_neg (by omega), e3 (by omega), ← ew, Option.map_map]
            congr 1
            funext a
            simp [add_add, Nat.add_mul]
        · cases h
      · simp only [Option.some.injEq, Prod.mk.injEq] at h
        obtain ⟨rfl, rfl⟩ := h
        cases hx
        obtain ⟨r1, r2⟩ := run_slice_of hu hi' lo hi kl kh none 0 0 (Nat.le_refl _) ho w
        refine ⟨_, r1, ?_⟩
        have q1 : loN lo = 0 := by omega
        have q2 : cntN lo hi 0 = 0 := by omega
        simp [q1, q2, At.rel]
      · cases h
    · cases h
  · cases h

/-! copies -/
def pasteG (off k : Nat) (g g2 : Nat → List At) : Nat → List At := fun q => if off ≤ q ∧ q < off + k then g2 (q - off) else g q
theorem Elems.paste {wd N k off : Nat} {g g2 : Nat → List At} {cs ds : List Value} (h : Elems env wd N g cs) (h2 : Elems env wd k g2 ds) (hk : off + k ≤ N) : Elems env wd N (pasteG off k g g2) (splice cs (off * wd) ds) := by
  have hle : off * wd + k * wd ≤ N * wd := by rw [← Nat.add_mul]; exact Nat.mul_le_mul_right _ hk
  have hfit : off * wd + ds.length ≤ cs.length := by rw [h.1, h2.1]; exact hle
  refine ⟨by rw [splice_length _ _ _ hfit]; exact h.1, fun i hi => ?_, fun v hv => ?_⟩
  · unfold pasteG
    have hiw := Nat.mul_le_mul_right wd (show i + 1 ≤ N by omega)
    rw [Nat.add_mul] at hiw
    split
    · rename_i hq
      have e : ((splice cs (off * wd) ds).drop (i * wd)).take wd = (ds.drop ((i - off) * wd)).take wd := by
        apply List.ext_getElem?
        intro q
        rw [seg_get, seg_get]
        by_cases q1 : q < wd
        · have a1 := Nat.mul_le_mul_right wd hq.1
          have a2 := Nat.mul_le_mul_right wd (show i + 1 ≤ off + k by omega)
          rw [Nat.add_mul, Nat.add_mul] at a2
          have a3 : (i - off) * wd = i * wd - off * wd := Nat.sub_mul _ _ _
          rw [if_pos q1, if_pos q1, splice_get _ _ _ hfit, if_neg (by omega), if_pos (by rw [h2.1]; omega), a3]
          congr 1; omega
        · rw [if_neg q1, if_neg q1]
      rw [e]
      exact h2.2.1 _ (by omega)
    · rename_i hq
      have e : ((splice cs (off * wd) ds).drop (i * wd)).take wd = (cs.drop (i * wd)).take wd := by
        apply List.ext_getElem?
        intro q
        rw [seg_get, seg_get]
        by_cases q1 : q < wd
        · rw [if_pos q1, if_pos q1, splice_get _ _ _ hfit]
          rcases Nat.lt_or_ge i off with q2 | q2
          · have a1 := Nat.mul_le_mul_right wd (show i + 1 ≤ off by omega)
            rw [Nat.add_mul] at a1
            rw [if_pos (by omega)]
          · have a2 := Nat.mul_le_mul_right wd (show off + k ≤ i by omega)
            rw [Nat.add_mul] at a2
            rw [if_neg (by omega), if_neg (by rw [h2.1]; omega)]
        · rw [if_neg q1, if_neg q1]
      rw [e]
      exact h.2.1 i hi
  · unfold splice at hv
    rcases List.mem_append.1 hv with hv | hv
    · rcases List.mem_append.1 hv with hv | hv
      · exact h.2.2 v (List.mem_of_mem_take hv)
      · exact h2.2.2 v hv
    · exact h.2.2 v (List.mem_of_mem_drop hv)

def evCopy (P : Program) (t : TypeId) (mem : List Seg) (d x : At) : Option (Int × Eff × List Prop) :=
  match P.underlying t with
  | some (.slice e) => match P.info? e with
    | some i => match srcOf mem i.size x with
      | some (m, g2, so) => match d with
        | .own h => match mem[h]? with
          | some (.row e' wd N g) => if wd = i.size then some (((Nat.min m N : Nat) : Int), .set h (.row e' wd N (pasteG 0 (Nat.min m N) g g2)), so) else none
          | _ => none
        | .sub h wd0 off n => match mem[h]? with
          | some (.row e' wd N g) => if wd = i.size ∧ wd0 = wd then some (((Nat.min m n : Nat) : Int), .set h (.row e' wd N (pasteG off (Nat.min m n) g g2)), so ++ [off + n ≤ N]) else none
          | _ => none
        | .val (.slice none 0 0) => some (0, .none, so)
        | _ => none
      | none => none
    | none => none
  | _ => none
theorem set_same {α : Type} {l : List α} {h : Nat} {x : α} (e : l[h]? = some x) : l.set h x = l := by
  apply List.ext_getElem?
  intro k
  rw [List.getElem?_set]
  split
  · rename_i q
    subst q
    rw [if_pos (List.getElem?_eq_some_iff.1 e).1, e]
  · rfl
theorem run_copy_core {t t' ty e : TypeId} {i : TypeInfo} (ht : P.underlying t = some (.slice e)) (hi : P.info? e = some i) {m : Nat} {g2 : Nat → List At} {x : At} {xv : Value} {so : List Prop} (hs : srcOf mem i.size x = some (m, g2, so)) (hso : AllT so) (hm : MemOk env mem w0 w S) (hx : x.rel env xv)
    {hd : Nat} {e' : TypeId} {N off n : Nat} {g : Nat → List At} (hrow : mem[hd]? = some (.row e' i.size N g)) (hle : off + n ≤ N) {ao : Option Addr} {cap : Nat} (h1 : env hd = some (.slice ao N cap)) {bo : Option Addr} {c : Nat} (hbo : (n = 0 ∧ bo = none) ∨ bo = ao.map (·.add (off * i.size)) ∨ (n = 0 ∧ bo = ao)) :
    ∃ w', (Builtin.copy_ #[t, t'] ty #[.slice bo n c, xv]).run P w = .ok (.int .i64 ((Nat.min m n : Nat) : Int)) w' ∧ MemOk env (mem.set hd (.row e' i.size N (pasteG off (Nat.min m n) g g2))) w0 w' S := by
  obtain ⟨so', scap, ds, rfl, hd2, hnil, hcell⟩ := srcOf_sound hs hso hm hx
  obtain ⟨v, cs, h1', h2, h3⟩ := hm.ok _ _ hrow
  rw [h1] at h1'
  obtain rfl := Option.some.inj h1'
  generalize hk : Nat.min m n = k
  have hkm : k ≤ m := by rw [← hk]; exact Nat.min_le_left _ _
  have hkn : k ≤ n := by rw [← hk]; exact Nat.min_le_right _ _
  have hwin := hd2.window (off := 0) (k := k) (by omega)
  simp only [Nat.zero_mul, List.drop_zero, Nat.zero_add] at hwin
  have hfirst : (Builtin.firstCells i.size k (.slice so' m scap)).run P w = .ok (ds.take (k * i.size)).toArray w := by
    cases so' with
    | none =>
      have := hnil rfl
      have : k = 0 := by omega
      subst this
      simp [Builtin.firstCells]
    | some a =>
      have := run_loadCells_list (P := P) w a (ds.take (k * i.size)) (fun j u hj => by
        rw [List.getElem?_take] at hj
        split at hj
        · obtain ⟨a', ea, hc⟩ := hcell _ _ hj
          obtain rfl := Option.some.inj ea
          exact hc
        · cases hj)
      rw [hwin.1] at this
      simpa [Builtin.firstCells] using this
  have hmin : Nat.min m n = k := hk
  by_cases hk0 : k = 0
  · subst hk0
    have e1 : pasteG off 0 g g2 = g := by funext q; unfold pasteG; rw [if_neg (by omega)]
    rw [e1, set_same hrow]
    refine ⟨w, ?_, hm⟩
    cases bo with
    | none => simp [Builtin.copy_, run_underlying ht, sizeOf, typeInfo, hi, Builtin.lenOf, hmin, hfirst, goInt]
    | some a => simp [Builtin.copy_, run_underlying ht, sizeOf, typeInfo, hi, Builtin.lenOf, hmin, hfirst, goInt, storeCells]
  · rcases h2.2 with ⟨q, q2⟩ | ⟨b, cap', cur, q, hb0, hg, hnc, hcm, hcs, htake⟩
    · omega
    · obtain ⟨rfl, _, rfl⟩ : ao = some ⟨b, 0, none⟩ ∧ N = N ∧ cap = cap' := by simpa using q
      have hbo' : bo = some ⟨b, off * i.size, none⟩ := by
        rcases hbo with ⟨q, _⟩ | q | ⟨q, _⟩
        · omega
        · rw [q]; simp [add_eq]
        · omega
      subst hbo'
      have hdl : (ds.take (k * i.size)).length = k * i.size := hwin.1
      have hle2 : off * i.size + k * i.size ≤ N * i.size := by rw [← Nat.add_mul]; exact Nat.mul_le_mul_right _ (by omega)
      have hnw : N * i.size ≤ cap * i.size := Nat.mul_le_mul_right _ hnc
      have hf : off * i.size + (ds.take (k * i.size)).length ≤ cur.size := by omega
      have hst : (storeCells ⟨b, off * i.size, none⟩ (ds.take (k * i.size))).run P w = .ok () (w.setRow b (splice cur.toList (off * i.size) (ds.take (k * i.size))).toArray) := by
        have := run_storeCells_at P b (off * i.size) e' (ds.take (k * i.size)) 0 cur w hg (by simpa using hf) hwin.2.2
        simpa [splice] using this
      refine ⟨w.setRow b (splice cur.toList (off * i.size) (ds.take (k * i.size))).toArray, ?_, ?_⟩
      rotate_left
      · refine hm.write _ _ _ b hrow (by simp [blk, h1, blksOf, baseOf]) rfl rfl rfl rfl (by simp [World.setRow]) (fun k _ hk => setRow_other w b k _ hk) ?_
        have hel := h3.paste (off := off) hwin (by omega)
        refine ⟨_, splice cs (off * i.size) (ds.take (k * i.size)), h1, ⟨hel.1, .inr ⟨b, cap, _, rfl, hb0, setRow_heap w b cur _ e' (0, 0) hg, hnc, hcm, ?_, ?_⟩⟩, hel⟩
        · have := splice_length cur.toList (off * i.size) (ds.take (k * i.size)) (by simpa using hf)
          simpa [hcs] using this
        · rw [← htake]
          apply List.ext_getElem?
          intro q
          have hf2 : off * i.size + (ds.take (k * i.size)).length ≤ (cur.toList.take (N * i.size)).length := by
            have : (cur.toList.take (N * i.size)).length = N * i.size := by simp; omega
            omega
          rw [splice_get _ _ _ hf2, List.getElem?_take, splice_get _ _ _ (by simpa using hf)]
          by_cases q1 : q < N * i.size
          · rw [if_pos q1]
            by_cases q2 : q < off * i.size
            · rw [if_pos q2, if_pos q2, List.getElem?_take, if_pos q1]
            · rw [if_neg q2, if_neg q2]
              by_cases q3 : q < off * i.size + (ds.take (k * i.size)).length
              · rw [if_pos q3, if_pos q3]
              · rw [if_neg q3, if_neg q3, List.getElem?_take, if_pos q1]
          · rw [if_neg q1, if_neg (by omega), if_neg (by omega), List.getElem?_take, if_neg q1]
      · simp [Builtin.copy_, run_underlying ht, sizeOf, typeInfo, hi, Builtin.lenOf, hmin, hfirst, goInt, hst]
theorem run_evCopy {t t' ty : TypeId} {d x : At} {dv xv : Value} {n : Int} {eff : Eff} {obl : List Prop} (h : evCopy P t mem d x = some (n, eff, obl)) (ho : AllT obl) (hm : MemOk env mem w0 w S) (hd : d.rel env dv) (hx : x.rel env xv) :
    ∃ w', (Builtin.copy_ #[t, t'] ty #[dv, xv]).run P w = .ok (.int .i64 n) w' ∧ After env env eff mem w0 w' S nh := by
  unfold evCopy at h
  split at h
  · rename_i e hu
    split at h
    · rename_i i hi
      split at h
      · rename_i m g2 so hsrc
        split at h
        · rename_i hh
          split at h
          · rename_i e' wd N g hrow
            split at h
            · rename_i ew
              subst ew
              simp only [Option.some.injEq, Prod.mk.injEq] at h
              obtain ⟨rfl, rfl, rfl⟩ := h
              obtain ⟨v, cs, h1, h2, h3⟩ := hm.ok _ _ hrow
              have hd1 := hd.1
              rw [h1] at hd1
              obtain rfl := Option.some.inj hd1
              have hv : ∃ ao cap, v = .slice ao N cap := by
                rcases h2.2 with ⟨rfl, rfl⟩ | ⟨b, cap, cur, rfl, _⟩
                · exact ⟨_, _, rfl⟩
                · exact ⟨_, _, rfl⟩
              obtain ⟨ao, cap, rfl⟩ := hv
              obtain ⟨w', r1, r2⟩ := run_copy_core (t' := t') (ty := ty) (off := 0) (n := N) (bo := ao) (c := cap) hu hi hsrc ho hm hx hrow (by omega) h1 (.inr (.inl (by cases ao <;> simp [Addr.add])))
              exact ⟨w', r1, Env.le_refl _, fun _ _ => rfl, r2, fun _ => rfl, fun _ _ e => by cases e; exact ⟨_, hrow, rfl⟩⟩
            · cases h
          · cases h
        · rename_i hh wd0 off n'
          split at h
          · rename_i e' wd N g hrow
            split at h
            · rename_i ew
              obtain ⟨rfl, rfl⟩ := ew
              simp only [Option.some.injEq, Prod.mk.injEq] at h
              obtain ⟨rfl, rfl, rfl⟩ := h
              obtain ⟨o1, o2⟩ := AllT.append.1 ho
              simp only [AllT, and_true] at o2
              obtain ⟨ao, len, cap, bo, c, e1, rfl, hkc, e2, e3⟩ := hd
              obtain ⟨v, cs, h1, h2, h3⟩ := hm.ok _ _ hrow
              rw [h1] at e1
              obtain rfl := Option.some.inj e1
              have hlen : len = N := by
                rcases h2.2 with ⟨q, q2⟩ | ⟨b, c, cur, q, _⟩
                · simp at q; omega
                · simp at q; omega
              subst hlen
              by_cases hn0 : n' = 0
              · subst hn0
                obtain ⟨w', r1, r2⟩ := run_copy_core (t' := t') (ty := ty) (off := off) (n := 0) (bo := none) (c := c) hu hi hsrc o1 hm hx hrow o2 h1 (.inl ⟨rfl, rfl⟩)
                have hmin : Nat.min m 0 = 0 := Nat.min_zero _
                rw [hmin] at r1 r2 ⊢
                refine ⟨w', ?_, Env.le_refl _, fun _ _ => rfl, r2, fun _ => rfl, fun _ _ e => by cases e; exact ⟨_, hrow, rfl⟩⟩
                obtain ⟨so', scap, ds, rfl, hd2, hnil, hcell⟩ := srcOf_sound hsrc o1 hm hx
                cases bo with
                | none => exact r1
                | some a =>
                  rw [← r1]
                  have hz : ∀ so' : Option Addr, (Builtin.firstCells i.size 0 (.slice so' m scap)).run P w = .ok #[] w := by
                    intro so'
                    cases so' with
                    | none => rfl
                    | some a =>
                      have := run_loadCells_list (P := P) w a [] (fun j u hj => by simp at hj)
                      simpa [Builtin.firstCells] using this
                  simp [Builtin.copy_, run_underlying hu, sizeOf, typeInfo, hi, Builtin.lenOf, hmin, hz, storeCells]
              · obtain ⟨w', r1, r2⟩ := run_copy_core (t' := t') (ty := ty) (off := off) (n := n') (bo := bo) (c := c) hu hi hsrc o1 hm hx hrow o2 h1 (.inr (.inl (e3 (by omega))))
                exact ⟨w', r1, Env.le_refl _, fun _ _ => rfl, r2, fun _ => rfl, fun _ _ e => by cases e; exact ⟨_, hrow, rfl⟩⟩
            · cases h
          · cases h
        · simp only [Option.some.injEq, Prod.mk.injEq] at h
          obtain ⟨rfl, rfl, rfl⟩ := h
          cases hd
          obtain ⟨so', scap, ds, rfl, hd2, hnil, hcell⟩ := srcOf_sound hsrc ho hm hx
          refine ⟨w, ?_, After.same' hm⟩
          have hmin : Nat.min m 0 = 0 := Nat.min_zero _
          have hz : (Builtin.firstCells i.size 0 (.slice so' m scap)).run P w = .ok #[] w := by
            cases so' with
            | none => rfl
            | some a =>
              have := run_loadCells_list (P := P) w a [] (fun j u hj => by simp at hj)
              simpa [Builtin.firstCells] using this
          simp [Builtin.copy_, run_underlying hu, sizeOf, typeInfo, hi, Builtin.lenOf, hmin, hz, goInt]
        · cases h
      · cases h
    · cases h
  · cases h

/-! the text of a row of bytes -/
def cellN (l : List At) : Int := match l with | [.val (.int _ n)] => n | _ => 0
def _root_.Go.Proofs.Ytajdkbgbekdbmaa.rowStr (n : Nat) (g : Nat → List At) : ByteArray := ⟨((List.range n).map fun i => UInt8.ofNat (cellN (g i)).toNat).toArray⟩
def _root_.Go.Proofs.Ytajdkbgbekdbmaa.bytesG (n : Nat) (g : Nat → List At) : Prop := ∀ i, i < n → g i = [.val (.int .u8 (cellN (g i)))]
theorem rowStr_eq (n : Nat) (g : Nat → List At) : rowStr n g = strOf ((List.range n).map fun i => cellN (g i)) := by
  unfold rowStr strOf
  simp [Function.comp_def]
def evStr (P : Program) (s d : TypeId) (mem : List Seg) (x : At) : Option (ByteArray × List Prop) :=
  match P.underlying s, P.underlying d with
  | some (.slice e), some .string => match P.underlying e with
    | some (.int .u8) => match srcOf mem 1 x with
      | some (n, g, so) => some (rowStr n g, so ++ [bytesG n g])
      | none => none
    | _ => none
  | _, _ => none
theorem run_evStr {s d : TypeId} {x : At} {v : Value} {r : ByteArray} {obl : List Prop} (h : evStr P s d mem x = some (r, obl)) (ho : AllT obl) (hm : MemOk env mem w0 w S) (hx : x.rel env v) : (convert s d v).run P w = .ok (.string r) w := by
  unfold evStr at h
  split at h
  · rename_i e hs hd
    split at h
    · rename_i he
      split at h
      · rename_i n g so hsrc
        simp only [Option.some.injEq, Prod.mk.injEq] at h
        obtain ⟨rfl, rfl⟩ := h
        obtain ⟨o1, o2⟩ := AllT.append.1 ho
        simp only [AllT, and_true] at o2
        obtain ⟨ao, cap, cs, rfl, h1, h2, h3⟩ := srcOf_sound hsrc o1 hm hx
        rw [rowStr_eq]
        cases ao with
        | none =>
          have := h2 rfl
          subst this
          exact run_str_nil s d e hs he hd w none cap
        | some a =>
          have hl : ((List.range n).map fun i => cellN (g i)).length = n := by simp
          have hr := run_str s d e hs he hd w a cap ((List.range n).map fun i => cellN (g i)) (fun j hj => by
            have hj' : j < n := by simpa using hj
            have hc := h1.2.1 j hj'
            rw [o2 j hj'] at hc
            have hlen : j < cs.length := by rw [h1.1]; omega
            have hseg : (cs.drop (j * 1)).take 1 = [cs[j]] := by
              rw [Nat.mul_one, List.drop_eq_getElem_cons hlen]; rfl
            rw [hseg] at hc
            obtain ⟨a', ea, hcell⟩ := h3 j cs[j] (List.getElem?_eq_getElem hlen)
            obtain rfl := Option.some.inj ea
            have e1 : cs[j] = .int .u8 (cellN (g j)) := hc.1
            rw [hcell, e1]
            simp)
          rw [hl] at hr
          exact hr
      · cases h
    · cases h
  · cases h
end
end E
end Go.Proofs.Ytajdkbgbekdbmaa

/- A symbolic run of Go code: one operation. No condition. -/
namespace Go.Proofs.Ytajdkbgbekdbmaa
set_option linter.unusedVariables false
set_option linter.unusedSimpArgs false
namespace E
open Go.RowKit

def plain : At → Option Value
  | .val v => some v
  | .bit b => some (.bool b)
  | _ => none
theorem plain_rel {env : Env} {a : At} {u v : Value} (h : plain a = some u) (k : a.rel env v) : v = u := by
  cases a <;> simp only [plain, Option.some.injEq, reduceCtorEq] at h
  · subst h; exact k
  · subst h; exact k

def isPtr : At → Bool
  | .ptr .. | .eptr .. | .root _ _ true | .val (.pointer (some _)) => true
  | _ => false
theorem isPtr_rel {env : Env} {a : At} {v : Value} (h : isPtr a = true) (k : a.rel env v) : ∃ p, v = .pointer (some p) := by
  unfold isPtr at h
  split at h
  · obtain ⟨_, _, _, _, rfl⟩ := k; exact ⟨_, rfl⟩
  · obtain ⟨_, _, _, _, rfl⟩ := k; exact ⟨_, rfl⟩
  · obtain ⟨_, ao, _, _, rfl, hn⟩ := k
    cases ao with
    | none => exact (hn rfl rfl).elim
    | some p => exact ⟨p, rfl⟩
  · exact ⟨_, k⟩
  · cases h

/-- An address against nil. -/
def evNil (P : Program) (op : BinOp) (t : TypeId) : Option Bool :=
  match P.underlying t, op with
  | some (.pointer _), .eql => some false
  | some (.pointer _), .neq => some true
  | _, _ => none
theorem run_evNil {P : Program} {op : BinOp} {t : TypeId} {r : Bool} (h : evNil P op t = some r) (p : Addr) (X Y : Operand) (w : World) :
    (do eqGuard op t X Y (.pointer (some p)) (.pointer none); binOp op t (.pointer (some p)) (.pointer none) : Sem Value).run P w = .ok (.bool r) w ∧
    (do eqGuard op t X Y (.pointer none) (.pointer (some p)); binOp op t (.pointer none) (.pointer (some p)) : Sem Value).run P w = .ok (.bool r) w := by
  have key : ∀ e, P.underlying t = some (.pointer e) → (Op.equal t (.pointer (some p)) (.pointer none)).run P w = .ok false w ∧ (Op.equal t (.pointer none) (.pointer (some p))).run P w = .ok false w := by
    intro e hu
    constructor
    · show (Op.equalIn (9999 + 1) t _ _).run P w = _
      unfold Op.equalIn
      simp only [Sem.run_bind, run_underlying hu, Result.andThen_ok]
      rfl
    · show (Op.equalIn (9999 + 1) t _ _).run P w = _
      unfold Op.equalIn
      simp only [Sem.run_bind, run_underlying hu, Result.andThen_ok]
      rfl
  unfold evNil at h
  split at h
  · rename_i e hu
    simp only [Option.some.injEq] at h; subst h
    obtain ⟨k1, k2⟩ := key e hu
    constructor
    · simp [eqGuard, binOp, k1]
    · simp [eqGuard, binOp, k2]
  · rename_i e hu
    simp only [Option.some.injEq] at h; subst h
    obtain ⟨k1, k2⟩ := key e hu
    constructor
    · simp [eqGuard, binOp, k1]
    · simp [eqGuard, binOp, k2]
  · cases h

/-- An address against itself. -/
def evSame (P : Program) (op : BinOp) (t : TypeId) : At → At → Option Bool
  | .ptr h j, .ptr h' j' => if h = h' ∧ j = j' then match P.underlying t, op with
    | some (.pointer e), .eql => if (P.info? e).isSome then some true else none
    | some (.pointer e), .neq => if (P.info? e).isSome then some false else none
    | _, _ => none
    else none
  | _, _ => none
theorem run_evSame {P : Program} {env : Env} {op : BinOp} {t : TypeId} {a b : At} {r : Bool} {x y : Value} (h : evSame P op t a b = some r) (ha : a.rel env x) (hb : b.rel env y) (X Y : Operand) (w : World) :
    (do eqGuard op t X Y x y; binOp op t x y : Sem Value).run P w = .ok (.bool r) w := by
  unfold evSame at h
  split at h
  · rename_i c j c' j'
    split at h
    · rename_i e
      obtain ⟨rfl, rfl⟩ := e
      obtain ⟨v, p, e1, e2, rfl⟩ := ha
      obtain ⟨v', p', e3, e4, rfl⟩ := hb
      rw [e1] at e3
      obtain rfl := Option.some.inj e3
      rw [e2] at e4
      obtain rfl := Option.some.inj e4
      have key : ∀ e, P.underlying t = some (.pointer e) → (P.info? e).isSome = true → (Op.equal t (.pointer (some (p.add j))) (.pointer (some (p.add j)))).run P w = .ok true w := by
        intro e hu hi
        obtain ⟨i, hi⟩ := Option.isSome_iff_exists.1 hi
        have h : ∀ d : Nat, (Op.equalIn (d + 1) t (.pointer (some (p.add j))) (.pointer (some (p.add j)))).run P w = .ok true w := fun d => by
          simp [Op.equalIn, run_underlying hu, sizeOf, typeInfo, hi, run_sameAddr_same]
        exact h 9999
      split at h
      · rename_i e hu
        split at h
        · rename_i hi
          simp only [Option.some.injEq] at h; subst h
          simp [eqGuard, binOp, key e hu hi]
        · cases h
      · rename_i e hu
        split at h
        · rename_i hi
          simp only [Option.some.injEq] at h; subst h
          simp [eqGuard, binOp, key e hu hi]
        · cases h
      · cases h
    · cases h
  · cases h

def evBinOp (P : Program) (op : BinOp) (t : TypeId) : NV → NV → Option (Value × List Prop)
  | .one a, .one b =>
    match plain a, plain b with
    | some u, some v => evBin P op t u v
    | none, some (.pointer none) => if isPtr a then (evNil P op t).map fun r => (.bool r, []) else none
    | some (.pointer none), none => if isPtr b then (evNil P op t).map fun r => (.bool r, []) else none
    | none, none => (evSame P op t a b).map fun r => (.bool r, [])
    | _, _ => none
  | .agg l, .agg m => (evBinAgg P op t l m).map fun r => (.bool r, [])
  | _, _ => none
theorem run_evBinOp {P : Program} {env : Env} {op : BinOp} {t : TypeId} {a b : NV} {x y v : Value} {obl : List Prop} (h : evBinOp P op t a b = some (v, obl)) (ho : AllT obl) (ha : a.rel env x) (hb : b.rel env y) (X Y : Operand) (w : World) :
    (do eqGuard op t X Y x y; binOp op t x y : Sem Value).run P w = .ok v w := by
  unfold evBinOp at h
  split at h
  · split at h
    · rename_i u v' e1 e2
      rw [plain_rel e1 ha, plain_rel e2 hb]
      exact run_evBin h ho X Y w
    · rename_i e1 e2
      split at h
      · rename_i hp
        rw [Option.map_eq_some_iff] at h
        obtain ⟨r, hr, e⟩ := h
        obtain ⟨rfl, rfl⟩ := Prod.mk.inj e
        obtain ⟨p, rfl⟩ := isPtr_rel hp ha
        rw [plain_rel e2 hb]
        exact (run_evNil hr p X Y w).1
      · cases h
    · rename_i e1 e2
      split at h
      · rename_i hp
        rw [Option.map_eq_some_iff] at h
        obtain ⟨r, hr, e⟩ := h
        obtain ⟨rfl, rfl⟩ := Prod.mk.inj e
        obtain ⟨p, rfl⟩ := isPtr_rel hp hb
        rw [plain_rel e1 ha]
        exact (run_evNil hr p X Y w).2
      · cases h
    · rw [Option.map_eq_some_iff] at h
      obtain ⟨r, hr, e⟩ := h
      obtain ⟨rfl, rfl⟩ := Prod.mk.inj e
      exact run_evSame hr ha hb X Y w
    · cases h
  · rw [Option.map_eq_some_iff] at h
    obtain ⟨r, hr, e⟩ := h
    obtain ⟨rfl, rfl⟩ := Prod.mk.inj e
    exact run_evBinAgg hr ha hb X Y w
  · cases h

def pairUp : List Nat → List SV → Option (List (Nat × NV))
  | [], [] => some []
  | i :: is, .nv x :: xs => (pairUp is xs).map ((i, x) :: ·)
  | _, _ => none
theorem pairUp_rel {env : Env} {ρ : Operand → Value} : ∀ {ps : List (Nat × Operand)} {xs : List SV} {r : List (Nat × NV)}, pairUp (ps.map (·.1)) xs = some r → AllSV env xs (ps.map fun p => ρ p.2) → AllParts env r (ps.map fun p => (p.1, ρ p.2))
  | [], [], r, h, _ => by simp only [List.map_nil, pairUp, Option.some.injEq] at h; subst h; trivial
  | (i, p) :: ps, .nv x :: xs, r, h, hx => by
    simp only [List.map_cons, pairUp] at h
    rw [Option.map_eq_some_iff] at h
    obtain ⟨r', h1, rfl⟩ := h
    exact ⟨rfl, hx.1, pairUp_rel h1 hx.2⟩
  | (i, p) :: ps, .any :: xs, r, h, hx => by simp [pairUp] at h
  | (i, p) :: ps, .tup _ :: xs, r, h, hx => by simp [pairUp] at h
  | (i, p) :: ps, [], r, h, hx => by simp [pairUp] at h
  | [], _ :: _, r, h, hx => by simp [pairUp] at h

def sliceArgs (lo hi : Option Operand) (xs : List SV) : Option (Option Int × Option Int) :=
  match lo, hi, xs with
  | none, none, [] => some (none, none)
  | some _, none, [l] => (intOf? l).map fun l => (some l.2, none)
  | none, some _, [h] => (intOf? h).map fun h => (none, some h.2)
  | some _, some _, [l, h] => match intOf? l, intOf? h with
    | some l, some h => some (some l.2, some h.2)
    | _, _ => none
  | _, _, _ => none

def toA0s : List SV → Option (List A0)
  | [] => some []
  | .nv (.one (.val v)) :: l => (toA0s l).map (.val v :: ·)
  | .nv (.one (.bit b)) :: l => (toA0s l).map (.val (.bool b) :: ·)
  | .nv (.one (.ptr h j)) :: l => (toA0s l).map (.ptr h j :: ·)
  | .nv (.one (.own h)) :: l => (toA0s l).map (.own h :: ·)
  | _ => none
theorem toA0s_rel {env : Env} : ∀ {xs : List SV} {l : List A0} {vs : List Value}, toA0s xs = some l → AllSV env xs vs → A0s.rel env l vs
  | [], l, [], h, _ => by simp only [toA0s, Option.some.injEq] at h; subst h; trivial
  | x :: xs, l, v :: vs, h, k => by
    unfold toA0s at h
    split at h
    · simp_all
    · rename_i e; simp only [List.cons.injEq] at e; obtain ⟨rfl, rfl⟩ := e
      rw [Option.map_eq_some_iff] at h; obtain ⟨l', h1, rfl⟩ := h; exact ⟨k.1, toA0s_rel h1 k.2⟩
    · rename_i e; simp only [List.cons.injEq] at e; obtain ⟨rfl, rfl⟩ := e
      rw [Option.map_eq_some_iff] at h; obtain ⟨l', h1, rfl⟩ := h; exact ⟨k.1, toA0s_rel h1 k.2⟩
    · rename_i e; simp only [List.cons.injEq] at e; obtain ⟨rfl, rfl⟩ := e
      rw [Option.map_eq_some_iff] at h; obtain ⟨l', h1, rfl⟩ := h; exact ⟨k.1, toA0s_rel h1 k.2⟩
    · rename_i e; simp only [List.cons.injEq] at e; obtain ⟨rfl, rfl⟩ := e
      rw [Option.map_eq_some_iff] at h; obtain ⟨l', h1, rfl⟩ := h; exact ⟨k.1, toA0s_rel h1 k.2⟩
    · cases h

/-- A slice that is not empty, against nil. -/
def lenOf? (mem : List Seg) : At → Option Nat
  | .own h => match mem[h]? with
    | some (.ro _ n _) => some n
    | some (.row _ _ n _) => some n
    | _ => none
  | _ => none
def evNilSlice (P : Program) (op : BinOp) (t : TypeId) (mem : List Seg) : At → At → Option (Bool × List Prop)
  | a, .val (.slice none 0 0) => match P.underlying t, op, lenOf? mem a with
    | some (.slice _), .eql, some n => some (false, [0 < n])
    | some (.slice _), .neq, some n => some (true, [0 < n])
    | _, _, _ => none
  | _, _ => none
theorem run_eql_slice_nil {P : Program} {t e : TypeId} (hu : P.underlying t = some (.slice e)) (a : Addr) (m c : Nat) (w : World) : (Op.equal t (.slice (some a) m c) (.slice none 0 0)).run P w = .ok false w := by
  show (Op.equalIn (9999 + 1) t _ _).run P w = _
  unfold Op.equalIn
  simp only [Sem.run_bind, run_underlying hu, Result.andThen_ok]
  rfl
theorem run_evNilSlice {P : Program} {env : Env} {mem : List Seg} {w0 w : World} {S : Nat → Prop} {op : BinOp} {t : TypeId} {a b : At} {r : Bool} {obl : List Prop} {x y : Value} (h : evNilSlice P op t mem a b = some (r, obl)) (ho : AllT obl) (hm : MemOk env mem w0 w S) (ha : a.rel env x) (hb : b.rel env y) (X Y : Operand) :
    (do eqGuard op t X Y x y; binOp op t x y : Sem Value).run P w = .ok (.bool r) w := by
  have key : ∀ n, lenOf? mem a = some n → 0 < n → ∃ p c, x = .slice (some p) n c := by
    intro n hl hn
    unfold lenOf? at hl
    split at hl
    · rename_i hd
      split at hl
      · rename_i wd k g hs
        simp only [Option.some.injEq] at hl; subst hl
        obtain ⟨ao, cap, cs, h1, h2, h3, h4, h5, h6⟩ := hm.ok _ _ hs
        have hx := ha.1
        rw [h1] at hx
        obtain rfl := Option.some.inj hx
        cases ao with
        | none => have := (h4 rfl).1; omega
        | some p => exact ⟨p, cap, rfl⟩
      · rename_i e wd k g hs
        simp only [Option.some.injEq] at hl; subst hl
        obtain ⟨u, cs, h1, h2, h3⟩ := hm.ok _ _ hs
        have hx := ha.1
        rw [h1] at hx
        obtain rfl := Option.some.inj hx
        rcases h2.2 with ⟨rfl, e0⟩ | ⟨b, cap, cur, rfl, _⟩
        · omega
        · exact ⟨_, _, rfl⟩
      · cases hl
    · cases hl
  unfold evNilSlice at h
  split at h
  · cases hb
    split at h
    · rename_i e n hu hl
      simp only [Option.some.injEq, Prod.mk.injEq] at h
      obtain ⟨rfl, rfl⟩ := h
      simp only [AllT, and_true] at ho
      obtain ⟨p, c, rfl⟩ := key n hl ho
      simp [eqGuard, binOp, run_eql_slice_nil hu]
    · rename_i e n hu hl
      simp only [Option.some.injEq, Prod.mk.injEq] at h
      obtain ⟨rfl, rfl⟩ := h
      simp only [AllT, and_true] at ho
      obtain ⟨p, c, rfl⟩ := key n hl ho
      simp [eqGuard, binOp, run_eql_slice_nil hu]
    · cases h
  · cases h

/-- One operation, that is no call of a Go function. -/
def evalOld (P : Program) (op : Op) (xs : List SV) (mem : List Seg) (nh : Nat) : Option (SV × Eff × List Prop) :=
  match op, xs with
  | .move _, [.nv x] => some (.nv x, .none, [])
  | .move _, [.tup l] => some (.tup l, .none, [])
  | .assign _, [.nv x] => some (.nv x, .none, [])
  | .assign _, [.tup l] => some (.tup l, .none, [])
  | .extract _ i, [.tup l] => match l[i]? with
    | some x => some (.nv x, .none, [])
    | none => none
  | .binOp op t _ _ _, [.nv a, .nv b] => match evBinOp P op t a b with
    | some (v, obl) => some (.nv (.one (.val v)), .none, obl)
    | none => match a, b with
      | .one a, .one b => match evNilSlice P op t mem a b with
        | some (r, obl) => some (.nv (.one (.val (.bool r))), .none, obl)
        | none => none
      | _, _ => none
  | .unOp op _ _, [.nv (.one a)] => match plain a with
    | some u => match evUn op u with
      | some v => some (.nv (.one (.val v)), .none, [])
      | none => none
    | none => none
  | .convert s d _, [.nv (.one a)] => match plain a with
    | some u => match evConv P s d u with
      | some v => some (.nv (.one (.val v)), .none, [])
      | none => match evStr P s d mem a with
        | some (b, obl) => some (.nv (.one (.val (.string b))), .none, obl)
        | none => none
    | none => match evStr P s d mem a with
      | some (b, obl) => some (.nv (.one (.val (.string b))), .none, obl)
      | none => none
  | .field t _ i, [.nv (.agg l)] => match evField P t l i with
    | some r => some (.nv r, .none, [])
    | none => none
  | .index t _ _, [.nv x, i] => match intOf? i with
    | some (_, i) => match evIndex P t x i with
      | some (r, obl) => some (.nv r, .none, obl)
      | none => none
    | none => none
  | .nilCheck _, [.nv (.one a)] => if isPtr a then some (.nv (.one a), .none, []) else none
  | .box t _, [.nv x] => match evBox t x nh with
    | some (r, eff) => some (r, eff, [])
    | none => none
  | .alloc t, [] => match evAlloc P t nh with
    | some (r, eff) => some (r, eff, [])
    | none => none
  | .load t _, [.nv (.one a)] => match evLoad P t mem a with
    | some (r, obl) => some (.nv r, .none, obl)
    | none => none
  | .store t _ _, [.nv (.one a), .nv x] => match evStore P t mem a x with
    | some (h, s, obl) => some (.any, .set h s, obl)
    | none => none
  | .fieldAddr s _ f, [.nv (.one a)] => match evFieldAddr P s f a with
    | some r => some (.nv (.one r), .none, [])
    | none => none
  | .indexAddr t _ _, [.nv (.one a), i] => match intOf? i with
    | some (_, i) => match evIndexAddr P t mem a i with
      | some (r, obl) => some (.nv (.one r), .none, obl)
      | none => none
    | none => none
  | .build t ps, xs => match pairUp (ps.toList.map (·.1)) xs with
    | some l => match evBuild P t l with
      | some r => some (.nv r, .none, [])
      | none => none
    | none => none
  | .buildSlice t len ps, xs => match pairUp (ps.toList.map (·.1)) xs with
    | some l => match evBuildSlice P t len l nh with
      | some (r, eff) => some (r, eff, [])
      | none => none
    | none => none
  | .makeSlice t _ _, [l, c] => match intOf? l, intOf? c with
    | some (_, l), some (_, c) => evMake P t l c nh
    | _, _ => none
  | .slice t _ lo hi none, .nv (.one (.val (.string s))) :: xs => match P.underlying t, sliceArgs lo hi xs with
    | some .string, some (l, h) => some (.nv (.one (.val (.string (evSliceStr s l h).1))), .none, (evSliceStr s l h).2)
    | _, _ => none
  | .slice t _ lo hi none, .nv (.one x) :: xs => match sliceArgs lo hi xs with
    | some (l, h) => match evSliceRow P t mem x l h with
      | some (r, obl) => some (.nv (.one r), .none, obl)
      | none => none
    | none => none
  | .makeFunc (.func f) first _, xs => if first.toList.isEmpty then match toA0s xs with
    | some l => some (.nv (.one (.clo f l)), .none, [])
    | none => none
    else none
  | .call { callee := .builtin .copy, args := _, argTypes := ts }, [.nv (.one d), .nv (.one x)] =>
    match ts.toList with
    | [t, _] => match evCopy P t mem d x with
      | some (n, eff, obl) => some (.nv (.one (.val (.int .i64 n))), eff, obl)
      | none => none
    | _ => none
  | .call { callee := .builtin .len, args := _, argTypes := ts }, [.nv x] => match ts[0]? with
    | some t => match evLen P t mem x with
      | some n => some (.nv (.one (.val (.int .i64 n))), .none, [])
      | none => none
    | none => none
  | .call { callee := .builtin .min, args := _, argTypes := _ }, xs => match evFold (fun x y => if y < x then y else x) xs with
    | some (k, n) => some (.nv (.one (.val (.int k n))), .none, [])
    | none => none
  | .call { callee := .builtin .max, args := _, argTypes := _ }, xs => match evFold (fun x y => if y > x then y else x) xs with
    | some (k, n) => some (.nv (.one (.val (.int k n))), .none, [])
    | none => none
  | .call { callee := .builtin .append, args := _, argTypes := ts }, [.nv (.one s), .nv (.one x)] =>
    match ts.toList with
    | [t, t'] => if t = t' then evAppend P t mem s x nh else match x with
      | .val (.string str) => evAppendStr P t t' mem s str nh
      | _ => none
    | _ => none
  | _, _ => none

/-- What an operation yields. -/
def Yield (P : Program) (ρ : Operand → Value) (o : Oper) (w : World) (u : Value) (w' : World) : Prop :=
  (execOp ρ o).run P w = .ok (.value u) w' ∨ ((execOp ρ o).run P w = .ok .skip w' ∧ u = undef)

section
variable {P : Program} {env : Env} {mem : List Seg} {w0 w : World} {S : Nat → Prop} {nh : Nat}

theorem all1 {l : List SV} {x : SV} {vs : List Value} (hl : l = [x]) (h : AllSV env l vs) : ∃ v, vs = [v] ∧ x.rel env v := by
  subst hl
  match vs, h with
  | [v], h => exact ⟨v, rfl, h.1⟩
theorem all2 {l : List SV} {x y : SV} {vs : List Value} (hl : l = [x, y]) (h : AllSV env l vs) : ∃ v u, vs = [v, u] ∧ x.rel env v ∧ y.rel env u := by
  subst hl
  match vs, h with
  | [v, u], h => exact ⟨v, u, rfl, h.1, h.2.1⟩

theorem run_pureValue (x : Sem Value) {v : Value} {w w' : World} (h : x.run P w = .ok v w') : (do pure (.value (← x)) : Sem Next).run P w = .ok (.value v) w' := by
  simp only [Sem.run_bind, h, Result.andThen_ok, Sem.run_pure]

theorem After.none (h : MemOk env mem w0 w S) : After env env .none mem w0 w S nh := After.same' h
end
end E
end Go.Proofs.Ytajdkbgbekdbmaa

/- A symbolic run of Go code: each operation yields what the run says. No condition. -/
namespace Go.Proofs.Ytajdkbgbekdbmaa
set_option linter.unusedVariables false
set_option linter.unusedSimpArgs false
namespace E
open Go.RowKit
section
variable {P : Program} {env : Env} {mem : List Seg} {w0 w : World} {S : Nat → Prop} {nh : Nat}

theorem sliceArgs_rel {ρ : Operand → Value} {lo hi : Option Operand} {xs : List SV} {l h : Option Int} (hs : sliceArgs lo hi xs = some (l, h)) (hx : AllSV env xs ((lo.toArray ++ hi.toArray).toList.map ρ)) :
    ∃ kl kh : IntKind, lo.map ρ = l.map (.int kl) ∧ hi.map ρ = h.map (.int kh) := by
  unfold sliceArgs at hs
  split at hs
  · simp only [Option.some.injEq, Prod.mk.injEq] at hs
    obtain ⟨rfl, rfl⟩ := hs
    exact ⟨.i64, .i64, rfl, rfl⟩
  · rename_i p x
    rw [Option.map_eq_some_iff] at hs
    obtain ⟨⟨k, n⟩, h1, e⟩ := hs
    obtain ⟨rfl, rfl⟩ := Prod.mk.inj e
    have := intOf?_rel h1 hx.1
    exact ⟨k, .i64, by simpa using this, rfl⟩
  · rename_i p x
    rw [Option.map_eq_some_iff] at hs
    obtain ⟨⟨k, n⟩, h1, e⟩ := hs
    obtain ⟨rfl, rfl⟩ := Prod.mk.inj e
    have := intOf?_rel h1 hx.1
    exact ⟨.i64, k, rfl, by simpa using this⟩
  · rename_i p q x y
    split at hs
    · rename_i a b h1 h2
      simp only [Option.some.injEq, Prod.mk.injEq] at hs
      obtain ⟨rfl, rfl⟩ := hs
      have e1 := intOf?_rel (k := a.1) (a := a.2) h1 hx.1
      have e2 := intOf?_rel (k := b.1) (a := b.2) h2 hx.2.1
      exact ⟨a.1, b.1, by simpa using e1, by simpa using e2⟩
    · cases hs
  · cases hs

theorem old_sound {o : Oper} {ρ : Operand → Value} {xs : List SV} {r : SV} {eff : Eff} {obl : List Prop} (h : evalOld P o.op xs mem nh = some (r, eff, obl)) (ho : AllT obl)
    (hx : AllSV env xs (o.op.operands.toList.map ρ)) (hm : MemOk env mem w0 w S) (hg : mem[nh]? = some .gone) (hn : env nh = none) :
    ∃ u env' w', Yield P ρ o w u w' ∧ r.rel env' u ∧ After env env' eff mem w0 w' S nh := by
  obtain ⟨dst, op, type, pos, after, guard⟩ := o
  simp only at h hx
  unfold evalOld at h
  split at h
  · -- move
    simp only [Option.some.injEq, Prod.mk.injEq] at h
    obtain ⟨rfl, rfl, rfl⟩ := h
    exact ⟨_, _, _, .inl rfl, hx.1, After.none hm⟩
  · simp only [Option.some.injEq, Prod.mk.injEq] at h
    obtain ⟨rfl, rfl, rfl⟩ := h
    exact ⟨_, _, _, .inl rfl, hx.1, After.none hm⟩
  · simp only [Option.some.injEq, Prod.mk.injEq] at h
    obtain ⟨rfl, rfl, rfl⟩ := h
    exact ⟨_, _, _, .inl rfl, hx.1, After.none hm⟩
  · simp only [Option.some.injEq, Prod.mk.injEq] at h
    obtain ⟨rfl, rfl, rfl⟩ := h
    exact ⟨_, _, _, .inl rfl, hx.1, After.none hm⟩
  · -- extract
    rename_i x i l
    split at h
    · rename_i y hy
      simp only [Option.some.injEq, Prod.mk.injEq] at h
      obtain ⟨rfl, rfl, rfl⟩ := h
      obtain ⟨vs, hv, hl⟩ := hx.1
      have hget : ∀ {l : List NV} {vs : List Value} {i : Nat} {a : NV}, AllNV env l vs → l[i]? = some a → ∃ v, vs[i]? = some v ∧ a.rel env v := by
        intro l
        induction l with
        | nil => intro vs i a _ h; simp at h
        | cons b l ih =>
          intro vs i a k h
          cases vs with
          | nil => exact k.elim
          | cons v vs =>
            cases i with
            | zero => simp at h; subst h; exact ⟨v, by simp, k.1⟩
            | succ i => simp at h; obtain ⟨u, h1, h2⟩ := ih k.2 h; exact ⟨u, by simpa using h1, h2⟩
      obtain ⟨v, h1, h2⟩ := hget hl hy
      refine ⟨v, _, _, .inl ?_, h2, After.none hm⟩
      have h1' : vs[i]? = some v := by simpa using h1
      show (do pure (.value (← Instr.extract (ρ x) i)) : Sem Next).run P w = _
      refine run_pureValue _ ?_
      rw [hv]
      simp [Instr.extract, h1']
    · cases h
  · -- binOp
    rename_i bop t x y yt a b
    split at h
    · rename_i v obl' hb
      simp only [Option.some.injEq, Prod.mk.injEq] at h
      obtain ⟨rfl, rfl, rfl⟩ := h
      refine ⟨v, _, _, .inl ?_, rfl, After.none hm⟩
      exact run_pureValue _ (run_evBinOp hb ho hx.1 hx.2.1 x y w)
    · split at h
      · split at h
        · rename_i r' obl' hb
          simp only [Option.some.injEq, Prod.mk.injEq] at h
          obtain ⟨rfl, rfl, rfl⟩ := h
          exact ⟨.bool r', _, _, .inl (run_pureValue _ (run_evNilSlice hb ho hm hx.1 hx.2.1 x y)), rfl, After.none hm⟩
        · cases h
      · cases h
  · -- unOp
    split at h
    · rename_i u e1
      split at h
      · rename_i v e2
        simp only [Option.some.injEq, Prod.mk.injEq] at h
        obtain ⟨rfl, rfl, rfl⟩ := h
        refine ⟨v, _, _, .inl ?_, rfl, After.none hm⟩
        refine run_pureValue _ ?_
        rw [plain_rel e1 hx.1]
        exact run_evUn e2 w
      · cases h
    · cases h
  · -- convert
    split at h
    · rename_i u e1
      split at h
      · rename_i v e2
        simp only [Option.some.injEq, Prod.mk.injEq] at h
        obtain ⟨rfl, rfl, rfl⟩ := h
        refine ⟨v, _, _, .inl ?_, rfl, After.none hm⟩
        refine run_pureValue _ ?_
        rw [plain_rel e1 hx.1]
        exact run_evConv e2 w
      · split at h
        · rename_i b obl' e3
          simp only [Option.some.injEq, Prod.mk.injEq] at h
          obtain ⟨rfl, rfl, rfl⟩ := h
          exact ⟨_, _, _, .inl (run_pureValue _ (run_evStr e3 ho hm hx.1)), rfl, After.none hm⟩
        · cases h
    · split at h
      · rename_i b obl' e3
        simp only [Option.some.injEq, Prod.mk.injEq] at h
        obtain ⟨rfl, rfl, rfl⟩ := h
        exact ⟨_, _, _, .inl (run_pureValue _ (run_evStr e3 ho hm hx.1)), rfl, After.none hm⟩
      · cases h
  · -- field
    split at h
    · rename_i r' e1
      simp only [Option.some.injEq, Prod.mk.injEq] at h
      obtain ⟨rfl, rfl, rfl⟩ := h
      obtain ⟨u, h1, h2⟩ := run_evField e1 hx.1 w
      exact ⟨u, _, _, .inl (run_pureValue _ h1), h2, After.none hm⟩
    · cases h
  · -- index
    split at h
    · rename_i k i e1
      split at h
      · rename_i r' obl' e2
        simp only [Option.some.injEq, Prod.mk.injEq] at h
        obtain ⟨rfl, rfl, rfl⟩ := h
        obtain ⟨u, h1, h2⟩ := run_evIndex (k := k) e2 ho hx.1 w
        refine ⟨u, _, _, .inl (run_pureValue _ ?_), h2, After.none hm⟩
        rw [intOf?_rel e1 hx.2.1]
        exact h1
      · cases h
    · cases h
  · -- nilCheck
    rename_i x a
    split at h
    · rename_i hp
      simp only [Option.some.injEq, Prod.mk.injEq] at h
      obtain ⟨rfl, rfl, rfl⟩ := h
      obtain ⟨p, e⟩ := isPtr_rel hp hx.1
      refine ⟨.pointer (some p), _, _, .inl ?_, by rw [← e]; exact hx.1, After.none hm⟩
      have e' : ρ x = .pointer (some p) := e
      simp [execOp, e']
    · cases h
  · -- box
    split at h
    · rename_i r' eff' e1
      simp only [Option.some.injEq, Prod.mk.injEq] at h
      obtain ⟨rfl, rfl, rfl⟩ := h
      obtain ⟨u, env', w', h1, h2, h3⟩ := run_evBox e1 hm hg hn hx.1
      exact ⟨u, env', w', .inl (run_pureValue _ h1), h2, h3⟩
    · cases h
  · -- alloc
    split at h
    · rename_i r' eff' e1
      simp only [Option.some.injEq, Prod.mk.injEq] at h
      obtain ⟨rfl, rfl, rfl⟩ := h
      obtain ⟨u, env', w', h1, h2, h3⟩ := run_evAlloc e1 hm hg hn
      exact ⟨u, env', w', .inl (run_pureValue _ h1), h2, h3⟩
    · cases h
  · -- load
    split at h
    · rename_i r' obl' e1
      simp only [Option.some.injEq, Prod.mk.injEq] at h
      obtain ⟨rfl, rfl, rfl⟩ := h
      obtain ⟨u, h1, h2⟩ := run_evLoad e1 ho hm hx.1
      exact ⟨u, _, _, .inl (run_pureValue _ h1), h2, After.none hm⟩
    · cases h
  · -- store
    split at h
    · rename_i hd s obl' e1
      simp only [Option.some.injEq, Prod.mk.injEq] at h
      obtain ⟨rfl, rfl, rfl⟩ := h
      obtain ⟨w', h1, h2⟩ := run_evStore e1 ho hm hx.1 hx.2.1
      refine ⟨undef, env, w', .inr ⟨?_, rfl⟩, trivial, Env.le_refl _, fun _ _ => rfl, h2, (fun _ => rfl), fun _ _ e => by cases e; exact evStore_excl e1⟩
      simp only [execOp, Sem.run_bind, h1, Result.andThen_ok, Sem.run_pure]
    · cases h
  · -- fieldAddr
    split at h
    · rename_i r' e1
      simp only [Option.some.injEq, Prod.mk.injEq] at h
      obtain ⟨rfl, rfl, rfl⟩ := h
      obtain ⟨u, h1, h2⟩ := run_evFieldAddr e1 hx.1 w
      exact ⟨u, _, _, .inl (run_pureValue _ h1), h2, After.none hm⟩
    · cases h
  · -- indexAddr
    split at h
    · rename_i k i e1
      split at h
      · rename_i r' obl' e2
        simp only [Option.some.injEq, Prod.mk.injEq] at h
        obtain ⟨rfl, rfl, rfl⟩ := h
        obtain ⟨u, h1, h2⟩ := run_evIndexAddr (k := k) e2 ho hm hx.1
        refine ⟨u, _, _, .inl (run_pureValue _ ?_), h2, After.none hm⟩
        rw [intOf?_rel e1 hx.2.1]
        exact h1
      · cases h
    · cases h
  · -- build
    rename_i _ t ps
    split at h
    · rename_i l e1
      split at h
      · rename_i r' e2
        simp only [Option.some.injEq, Prod.mk.injEq] at h
        obtain ⟨rfl, rfl, rfl⟩ := h
        have hp : AllParts env l ((ps.map fun (i, x) => (i, ρ x)).toList) := by
          have := pairUp_rel (ρ := ρ) e1 (by simpa [Op.operands, Function.comp_def] using hx)
          simpa using this
        obtain ⟨u, h1, h2⟩ := run_evBuild e2 hp w
        exact ⟨u, _, _, .inl (run_pureValue _ h1), h2, After.none hm⟩
      · cases h
    · cases h
  · -- buildSlice
    rename_i _ t len ps
    split at h
    · rename_i l e1
      split at h
      · rename_i r' eff' e2
        simp only [Option.some.injEq, Prod.mk.injEq] at h
        obtain ⟨rfl, rfl, rfl⟩ := h
        have hp : AllParts env l ((ps.map fun (i, x) => (i, ρ x)).toList) := by
          have := pairUp_rel (ρ := ρ) e1 (by simpa [Op.operands, Function.comp_def] using hx)
          simpa using this
        obtain ⟨u, env', w', h1, h2, h3⟩ := run_evBuildSlice e2 hp hm hg hn
        exact ⟨u, _, _, .inl (run_pureValue _ h1), h2, h3⟩
      · cases h
    · cases h
  · -- makeSlice
    split at h
    · rename_i kl l kc c e1 e2
      obtain ⟨u, env', w', h1, h2, h3⟩ := run_evMake (kl := kl) (kc := kc) h ho hm hg hn
      refine ⟨u, _, _, .inl (run_pureValue _ ?_), h2, h3⟩
      rw [intOf?_rel e1 hx.1, intOf?_rel e2 hx.2.1]
      exact h1
    · cases h
  · -- slice of a text
    rename_i t x lo hi s xs'
    split at h
    · rename_i l hh e1 e2
      simp only [Option.some.injEq, Prod.mk.injEq] at h
      obtain ⟨rfl, rfl, rfl⟩ := h
      have hxs : AllSV env xs' ((lo.toArray ++ hi.toArray).toList.map ρ) := by
        have := hx
        simp only [Op.operands, Option.toArray, Array.append_empty] at this
        have e : ((#[x] ++ lo.toArray ++ hi.toArray).toList.map ρ) = ρ x :: ((lo.toArray ++ hi.toArray).toList.map ρ) := by simp
        simp only [Op.operands, Option.toArray_none, Array.append_empty] at hx
        rw [e] at hx
        exact hx.2
      obtain ⟨kl, kh, el, eh⟩ := sliceArgs_rel e2 hxs
      have hv : ρ x = .string s := by
        have e : ((#[x] ++ lo.toArray ++ hi.toArray).toList.map ρ) = ρ x :: ((lo.toArray ++ hi.toArray).toList.map ρ) := by simp
        simp only [Op.operands, Option.toArray_none, Array.append_empty] at hx
        rw [e] at hx
        exact hx.1
      refine ⟨.string (evSliceStr s l hh).1, _, _, .inl (run_pureValue _ ?_), rfl, After.none hm⟩
      rw [hv, el, eh]
      exact run_evSliceStr e1 s l hh kl kh rfl ho w
    · cases h
  · -- slice of a row
    rename_i t x lo hi xv xs' _
    split at h
    · rename_i l hh e2
      split at h
      · rename_i r' obl' e1
        simp only [Option.some.injEq, Prod.mk.injEq] at h
        obtain ⟨rfl, rfl, rfl⟩ := h
        have e : ((#[x] ++ lo.toArray ++ hi.toArray).toList.map ρ) = ρ x :: ((lo.toArray ++ hi.toArray).toList.map ρ) := by simp
        simp only [Op.operands, Option.toArray_none, Array.append_empty] at hx
        rw [e] at hx
        obtain ⟨kl, kh, el, eh⟩ := sliceArgs_rel e2 hx.2
        obtain ⟨u, h1, h2⟩ := run_evSliceRow e1 ho kl kh hm hx.1
        refine ⟨u, _, _, .inl (run_pureValue _ ?_), h2, After.none hm⟩
        rw [el, eh]
        exact h1
      · cases h
    · cases h
  · -- makeFunc
    rename_i f first caps
    split at h
    · rename_i he
      split at h
      · rename_i l e1
        simp only [Option.some.injEq, Prod.mk.injEq] at h
        obtain ⟨rfl, rfl, rfl⟩ := h
        have hf : first = #[] := by
          apply Array.ext'
          simpa using he
        subst hf
        refine ⟨.func (.func f) #[] (caps.map ρ), _, _, .inl (run_pureValue _ (by simp [Instr.makeFunc])), ⟨_, rfl, ?_⟩, After.none hm⟩
        have := toA0s_rel e1 hx
        simpa [Op.operands] using this
      · cases h
    · cases h
  · -- copy
    rename_i args ts d x
    split at h
    · rename_i t t' ets
      split at h
      · rename_i n eff' obl' e1
        simp only [Option.some.injEq, Prod.mk.injEq] at h
        obtain ⟨rfl, rfl, rfl⟩ := h
        obtain ⟨v, u, hv, hd, hx'⟩ := all2 rfl hx
        have ha : args.map ρ = #[v, u] := by
          apply Array.ext'
          simpa [Op.operands, Call.operands] using hv
        have hts : ts = #[t, t'] := by apply Array.ext'; simpa using ets
        obtain ⟨w', h1, h3⟩ := run_evCopy (t' := t') (ty := type) (nh := nh) e1 ho hm hd hx'
        refine ⟨.int .i64 n, env, w', .inl ?_, rfl, h3⟩
        simp only [execOp, resolve, Sem.run_bind, Sem.run_pure, Result.andThen_ok, invoke, builtin, ha, hts, h1]
      · cases h
    · cases h
  · -- len
    rename_i args ts x
    split at h
    · rename_i t ht
      split at h
      · rename_i n e1
        simp only [Option.some.injEq, Prod.mk.injEq] at h
        obtain ⟨rfl, rfl, rfl⟩ := h
        obtain ⟨v, hv, hx'⟩ := all1 rfl hx
        have ha : args.map ρ = #[v] := by
          apply Array.ext'
          simpa [Op.operands, Call.operands] using hv
        refine ⟨.int .i64 n, _, _, .inl ?_, rfl, After.none hm⟩
        have := run_evLen (ty := type) e1 hm hx' ts ht
        simp only [execOp, resolve, Sem.run_bind, Sem.run_pure, Result.andThen_ok, invoke, builtin, ha, this]
      · cases h
    · cases h
  · -- min
    rename_i _ args ts
    split at h
    · rename_i k n e1
      simp only [Option.some.injEq, Prod.mk.injEq] at h
      obtain ⟨rfl, rfl, rfl⟩ := h
      refine ⟨.int k n, _, _, .inl ?_, rfl, After.none hm⟩
      have := run_evMin (P := P) ts type e1 hx w
      have ha : (((Op.call { callee := .builtin .min, args := args, argTypes := ts }).operands.toList.map ρ).toArray) = args.map ρ := by
        apply Array.ext'
        simp [Op.operands, Call.operands]
      rw [ha] at this
      simp only [execOp, resolve, Sem.run_bind, Sem.run_pure, Result.andThen_ok, invoke, builtin, this]
    · cases h
  · -- max
    rename_i _ args ts
    split at h
    · rename_i k n e1
      simp only [Option.some.injEq, Prod.mk.injEq] at h
      obtain ⟨rfl, rfl, rfl⟩ := h
      refine ⟨.int k n, _, _, .inl ?_, rfl, After.none hm⟩
      have := run_evMax (P := P) ts type e1 hx w
      have ha : (((Op.call { callee := .builtin .max, args := args, argTypes := ts }).operands.toList.map ρ).toArray) = args.map ρ := by
        apply Array.ext'
        simp [Op.operands, Call.operands]
      rw [ha] at this
      simp only [execOp, resolve, Sem.run_bind, Sem.run_pure, Result.andThen_ok, invoke, builtin, this]
    · cases h
  · -- append
    rename_i args ts s x
    split at h
    · rename_i t t' ets
      split at h
      · rename_i e
        subst e
        obtain ⟨v, u, hv, hs, hx'⟩ := all2 rfl hx
        have ha : args.map ρ = #[v, u] := by
          apply Array.ext'
          simpa [Op.operands, Call.operands] using hv
        have hts : ts = #[t, t] := by apply Array.ext'; simpa using ets
        obtain ⟨r', env', w', h1, h2, h3⟩ := run_evAppend (ty := type) h ho hm hg hn hs hx'
        refine ⟨r', env', w', .inl ?_, h2, h3⟩
        simp only [execOp, resolve, Sem.run_bind, Sem.run_pure, Result.andThen_ok, invoke, builtin, ha, hts, h1]
      · split at h
        · rename_i _ str
          obtain ⟨v, u, hv, hs, hx'⟩ := all2 rfl hx
          have hu : u = .string str := hx'
          subst hu
          have ha : args.map ρ = #[v, .string str] := by
            apply Array.ext'
            simpa [Op.operands, Call.operands] using hv
          have hts : ts = #[t, t'] := by apply Array.ext'; simpa using ets
          obtain ⟨r', env', w', h1, h2, h3⟩ := run_evAppendStr (ty := type) h ho hm hg hn hs
          refine ⟨r', env', w', .inl ?_, h2, h3⟩
          simp only [execOp, resolve, Sem.run_bind, Sem.run_pure, Result.andThen_ok, invoke, builtin, ha, hts, h1]
        · cases h
    · cases h
  · cases h
end
end E
end Go.Proofs.Ytajdkbgbekdbmaa


/- A symbolic run of Go code: texts made of bytes in place; pointers seen as others. No condition. -/
namespace Go.Proofs.Ytajdkbgbekdbmaa
set_option linter.unusedVariables false
set_option linter.unusedSimpArgs false
namespace E
open Go.RowKit Go.Lib
section
variable {P : Program} {env : Env} {mem : List Seg} {w0 w : World} {S : Nat → Prop} {nh : Nat}

/-- A pointer to a block of its own becomes one without a type, and one of a type again. -/
def evUns (P : Program) (s d : TypeId) (mem : List Seg) (a : At) : Option At :=
  match a with
  | .ptr h 0 => match mem[h]? with
    | some (.box t cells) => match P.underlying s, P.underlying d with
      | some (.pointer t'), some .unsafePointer => match P.info? t' with
        | some j => if j.size ≠ 0 ∧ 0 < cells.length then some (.ptr h 0) else none
        | none => none
      | some .unsafePointer, some (.pointer u) => match P.info? u with
        | some _ => if liesAt P P.depth t (cells.length / P.cellsOf t) 0 u 1 = true then some (.ptr h 0) else none
        | none => none
      | _, _ => none
    | _ => none
  | _ => none
theorem AllRel.len {l : List At} {vs : List Value} (h : AllRel env l vs) : l.length = vs.length := AllRel.length h
theorem run_evUns {s d : TypeId} {a r : At} {v : Value} (h : evUns P s d mem a = some r) (hm : MemOk env mem w0 w S) (hx : a.rel env v) : (convert s d v).run P w = .ok v w ∧ r.rel env v := by
  unfold evUns at h
  split at h
  · rename_i hd
    split at h
    · rename_i t cells hbox
      obtain ⟨b, cs, h1, h2, h3⟩ := hm.ok _ _ hbox
      obtain ⟨v', a', e1, e2, rfl⟩ := hx
      rw [h1] at e1
      obtain rfl := Option.some.inj e1
      obtain rfl := Option.some.inj e2
      have hl : cells.length = cs.size := by simpa using AllRel.length h3
      have hsh : w.shape? b = some (t, cs.size) := by simp [World.shape?, h2]
      have hz : (⟨b, 0, none⟩ : Addr).add 0 = ⟨b, 0, none⟩ := by simp [Addr.add]
      split at h
      · rename_i t' hs hdd
        split at h
        · rename_i j hj
          split at h
          · rename_i hc
            simp only [Option.some.injEq] at h; subst h
            refine ⟨?_, ⟨_, _, h1, rfl, rfl⟩⟩
            rw [hz]
            exact Lib.run_to_unsafe w ⟨b, 0, none⟩ hs hdd hj hc.1 hsh (by show 0 < cs.size; omega)
          · cases h
        · cases h
      · rename_i u hs hdd
        split at h
        · rename_i j hj
          split at h
          · rename_i hc
            simp only [Option.some.injEq] at h; subst h
            refine ⟨?_, ⟨_, _, h1, rfl, rfl⟩⟩
            rw [hz]
            rw [hl] at hc
            exact Lib.run_from_unsafe w ⟨b, 0, none⟩ hs hdd hj hsh hc
          · cases h
        · cases h
      · cases h
    · cases h
  · cases h

def evData (mem : List Seg) (a : At) : Option (At × List Prop) :=
  match a with
  | .val (.slice none _ _) => some (.val (.pointer none), [])
  | .own h => match mem[h]? with
    | some (.row _ wd n _) => some (.eptr h wd 0 0, [0 < n])
    | _ => none
  | _ => none
theorem run_evData {ts : Array TypeId} {ty : TypeId} {a r : At} {v : Value} {obl : List Prop} (h : evData mem a = some (r, obl)) (ho : AllT obl) (hm : MemOk env mem w0 w S) (hx : a.rel env v) :
    ∃ u, (Builtin.unsafeSliceData_ ts ty #[v]).run P w = .ok u w ∧ r.rel env u := by
  unfold evData at h
  split at h
  · simp only [Option.some.injEq, Prod.mk.injEq] at h
    obtain ⟨rfl, rfl⟩ := h
    cases hx
    exact ⟨_, Lib.run_unsafeSliceData_nil _ _ _ _ _, rfl⟩
  · rename_i hd
    split at h
    · rename_i e wd n g hrow
      simp only [Option.some.injEq, Prod.mk.injEq] at h
      obtain ⟨rfl, rfl⟩ := h
      simp only [AllT, and_true] at ho
      obtain ⟨v', cs, h1, h2, h3⟩ := hm.ok _ _ hrow
      have hs1 := hx.1
      rw [h1] at hs1
      obtain rfl := Option.some.inj hs1
      rcases h2.2 with ⟨_, q⟩ | ⟨b, cap, cur, rfl, hb0, hg, hnc, hcm, hcs, htake⟩
      · omega
      · exact ⟨_, Lib.run_unsafeSliceData_row _ _ _ _ _ _ (by omega), ⟨_, _, h1, rfl, by simp [Addr.add]⟩⟩
    · cases h
  · cases h

/-- so many bytes, each below 256 -/
def _root_.Go.Proofs.Ytajdkbgbekdbmaa.bytesR (n : Nat) (g : Nat → List At) : Prop := ∀ i, i < n → g i = [.val (.int .u8 (cellN (g i)))] ∧ 0 ≤ cellN (g i) ∧ cellN (g i) < 256
def evUStr (P : Program) (pt : TypeId) (mem : List Seg) (p : At) (n : Int) : Option (ByteArray × Eff × List Prop) :=
  match p with
  | .val (.pointer none) => some (.empty, .none, [n = 0])
  | .eptr h 1 0 0 => match mem[h]? with
    | some (.row e wd N g) => match P.underlying pt with
      | some (.pointer e') => if e' = e ∧ P.cellsOf e = 1 ∧ wd = 1 then some (rowStr N g, .set h .gone, [n = N, 0 < N, bytesR N g]) else none
      | _ => none
    | _ => none
  | _ => none
theorem run_evUStr {pt it ty : TypeId} {k : IntKind} {p : At} {v : Value} {n : Int} {r : ByteArray} {eff : Eff} {obl : List Prop} (hk : k = .i64) (h : evUStr P pt mem p n = some (r, eff, obl)) (ho : AllT obl) (hm : MemOk env mem w0 w S) (hx : p.rel env v) :
    ∃ w', (Builtin.unsafeString_ #[pt, it] ty #[v, .int k n]).run P w = .ok (.string r) w' ∧ After env env eff mem w0 w' S nh := by
  subst hk
  unfold evUStr at h
  split at h
  · simp only [Option.some.injEq, Prod.mk.injEq] at h
    obtain ⟨rfl, rfl, rfl⟩ := h
    simp only [AllT, and_true] at ho
    subst ho
    cases hx
    exact ⟨w, Lib.run_unsafeString_none w _ _ _ none, After.same' hm⟩
  · rename_i hd
    split at h
    · rename_i e wd N g hrow
      split at h
      · rename_i e' hp
        split at h
        · rename_i hc
          obtain ⟨rfl, hc, rfl⟩ := hc
          simp only [Option.some.injEq, Prod.mk.injEq] at h
          obtain ⟨rfl, rfl, rfl⟩ := h
          simp only [AllT, and_true] at ho
          obtain ⟨rfl, hN, hb⟩ := ho
          obtain ⟨v', cs, h1, h2, h3⟩ := hm.ok _ _ hrow
          obtain ⟨v2, a2, e1, e2, rfl⟩ := hx
          rw [h1] at e1
          obtain rfl := Option.some.inj e1
          rcases h2.2 with ⟨_, q⟩ | ⟨b, cap, cur, rfl, hb0, hg, hnc, hcm, hcs, htake⟩
          · omega
          obtain rfl := Option.some.inj e2
          have hz : (⟨b, 0, none⟩ : Addr).add (0 * 1 + 0) = ⟨b, 0, none⟩ := by simp [Addr.add]
          rw [hz]
          have hl : ((List.range N).map fun i => UInt8.ofNat (cellN (g i)).toNat).length = N := by simp
          have hr := Lib.run_unsafeString_row (P := P) w pt it ty e' hp hc b cur.size (by simp [World.shape?, hg]) ((List.range N).map fun i => UInt8.ofNat (cellN (g i)).toNat) (by intro q; rw [q] at hl; simp at hl; omega) (by rw [hl, hcs]; omega) (by rw [hl]; unfold maxLen at hcm; omega) (fun j x hj => by
            have hj2 : j < N := by
              have := (List.getElem?_eq_some_iff.1 hj).1
              simpa using this
            rw [List.getElem?_map, List.getElem?_range hj2] at hj
            simp only [Option.map_some, Option.some.injEq] at hj
            subst hj
            obtain ⟨b1, b2, b3⟩ := hb j hj2
            have hcell := h3.2.1 j hj2
            rw [b1] at hcell
            have hlen : j < cs.length := by rw [h3.1]; omega
            have hseg : (cs.drop (j * 1)).take 1 = [cs[j]] := by
              rw [Nat.mul_one, List.drop_eq_getElem_cons hlen]; rfl
            rw [hseg] at hcell
            have e3 : cs[j] = .int .u8 (cellN (g j)) := hcell.1
            have := h2.cells (g := b) rfl j cs[j] (List.getElem?_eq_getElem hlen)
            rw [e3] at this
            rw [this]
            congr 2
            rw [UInt8.toNat_ofNat']
            have : (cellN (g j)).toNat < 256 := by omega
            rw [Nat.mod_eq_of_lt (by omega)]
            omega)
          rw [hl] at hr
          refine ⟨_, hr, Env.le_refl _, fun _ _ => rfl, ?_, fun _ => rfl, fun _ _ e => by cases e; exact ⟨_, hrow, rfl⟩⟩
          have hf : ∀ q : Nat, q ≠ b → (w.freeze ⟨b, 0, none⟩ N).heap[q]? = w.heap[q]? := by
            intro q hq
            unfold World.freeze
            split
            · rfl
            · simp only [Array.getElem?_modify]
              rw [if_neg (fun e => hq e.symm)]
          have hf2 : (w.freeze ⟨b, 0, none⟩ N).os = w.os ∧ (w.freeze ⟨b, 0, none⟩ N).tape = w.tape ∧ (w.freeze ⟨b, 0, none⟩ N).output = w.output ∧ (w.freeze ⟨b, 0, none⟩ N).heap.size = w.heap.size := by
            unfold World.freeze
            split
            · exact ⟨rfl, rfl, rfl, rfl⟩
            · exact ⟨rfl, rfl, rfl, by simp⟩
          exact hm.write _ _ _ b hrow (by simp [blk, h1, blksOf, baseOf]) rfl hf2.1 hf2.2.1 hf2.2.2.1 (by rw [hf2.2.2.2]; exact Nat.le_refl _) (fun q _ hq => hf q hq) trivial
        · cases h
      · cases h
    · cases h
  · cases h

/-- A text's bytes are put over the head of a row. -/
def evCopyStr (P : Program) (t : TypeId) (mem : List Seg) (d : At) (s : ByteArray) : Option (Int × Eff × List Prop) :=
  match P.underlying t with
  | some (.slice e) => match P.info? e with
    | some i => match d with
      | .own h => match mem[h]? with
        | some (.row e' wd N g) => if wd = 1 ∧ i.size = 1 then some (N, .set h (.row e' 1 N (strG s)), [N = s.size, 0 < N]) else none
        | _ => none
      | _ => none
    | none => none
  | _ => none
theorem run_evCopyStr {t t' ty : TypeId} {d : At} {s : ByteArray} {dv : Value} {n : Int} {eff : Eff} {obl : List Prop} (h : evCopyStr P t mem d s = some (n, eff, obl)) (ho : AllT obl) (hm : MemOk env mem w0 w S) (hd : d.rel env dv) :
    ∃ w', (Builtin.copy_ #[t, t'] ty #[dv, .string s]).run P w = .ok (.int .i64 n) w' ∧ After env env eff mem w0 w' S nh := by
  unfold evCopyStr at h
  split at h
  · rename_i e hu
    split at h
    · rename_i i hi
      split at h
      · rename_i hh
        split at h
        · rename_i e' wd N g hrow
          split at h
          · rename_i hc
            obtain ⟨rfl, hc⟩ := hc
            simp only [Option.some.injEq, Prod.mk.injEq] at h
            obtain ⟨rfl, rfl, rfl⟩ := h
            simp only [AllT, and_true] at ho
            obtain ⟨hN, hN0⟩ := ho
            obtain ⟨v, cs, h1, h2, h3⟩ := hm.ok _ _ hrow
            have hd1 := hd.1
            rw [h1] at hd1
            obtain rfl := Option.some.inj hd1
            rcases h2.2 with ⟨_, q⟩ | ⟨b, cap, cur, rfl, hb0, hg, hnc, hcm, hcs, htake⟩
            · omega
            have hel := strCells_elems (env := env) s
            have hsl : (strCells s).length = N := by rw [strCells_length]; omega
            have hmin : Nat.min s.size N = N := by rw [← hN]; exact Nat.min_self _
            have hfirst := run_firstCells_string (P := P) w 1 s
            rw [← hN] at hfirst
            have hst : (storeCells ⟨b, 0, none⟩ (strCells s)).run P w = .ok () (w.setRow b (splice cur.toList 0 (strCells s)).toArray) := by
              have := run_storeCells_at P b 0 e' (strCells s) 0 cur w hg (by rw [hsl]; simp; omega) hel.2.2
              simpa [splice] using this
            refine ⟨w.setRow b (splice cur.toList 0 (strCells s)).toArray, ?_, Env.le_refl _, fun _ _ => rfl, ?_, fun _ => rfl, fun _ _ e => by cases e; exact ⟨_, hrow, rfl⟩⟩
            · simp [Builtin.copy_, run_underlying hu, sizeOf, typeInfo, hi, hc, Builtin.lenOf, hmin, hfirst, goInt, hst]
            · refine hm.write _ _ _ b hrow (by simp [blk, h1, blksOf, baseOf]) rfl rfl rfl rfl (by simp [World.setRow]) (fun k _ hk => setRow_other w b k _ hk) ?_
              have hl2 := splice_length cur.toList 0 (strCells s) (by rw [hsl]; simp; omega)
              refine ⟨_, strCells s, h1, ⟨by rw [hsl]; omega, .inr ⟨b, cap, _, rfl, hb0, setRow_heap w b cur _ e' (0, 0) hg, hnc, hcm, ?_, ?_⟩⟩, by rw [hN]; exact hel⟩
              · simpa [hcs] using hl2
              · have : N * 1 = (strCells s).length := by omega
                rw [this]
                simp [splice]
          · cases h
        · cases h
      · cases h
    · cases h
  · cases h

/-- The operations of this part, whatever the memory is. -/
def isMore (op : Op) (xs : List SV) : Bool :=
  match op, xs with
  | .convert _ _ _, [.nv (.one (.ptr _ _))] => true
  | .call { callee := .builtin .copy, args := _, argTypes := _ }, [_, .nv (.one (.val (.string _)))] => true
  | .call { callee := .builtin .unsafeSliceData, args := _, argTypes := _ }, _ => true
  | .call { callee := .builtin .unsafeString, args := _, argTypes := _ }, _ => true
  | _, _ => false
def evalMore (P : Program) (op : Op) (xs : List SV) (mem : List Seg) : Option (SV × Eff × List Prop) :=
  match op, xs with
  | .convert s d _, [.nv (.one a)] => match evUns P s d mem a with
    | some r => some (.nv (.one r), .none, [])
    | none => none
  | .call { callee := .builtin .copy, args := _, argTypes := ts }, [.nv (.one d), .nv (.one (.val (.string s)))] => match ts.toList with
    | [t, _] => match evCopyStr P t mem d s with
      | some (n, eff, obl) => some (.nv (.one (.val (.int .i64 n))), eff, obl)
      | none => none
    | _ => none
  | .call { callee := .builtin .unsafeSliceData, args := _, argTypes := _ }, [.nv (.one a)] => match evData mem a with
    | some (r, obl) => some (.nv (.one r), .none, obl)
    | none => none
  | .call { callee := .builtin .unsafeString, args := _, argTypes := ts }, [.nv (.one p), .nv (.one (.val (.int .i64 n)))] => match ts.toList with
    | [pt, _] => match evUStr P pt mem p n with
      | some (r, eff, obl) => some (.nv (.one (.val (.string r))), eff, obl)
      | none => none
    | _ => none
  | _, _ => none
/-- Channels: made, asked, shut. -/
def isChan (op : Op) (xs : List SV) : Bool :=
  match op, xs with
  | .makeChan _ _, _ => true
  | .binOp .neq _ _ _ _, [.nv (.one (.chn _)), _] => true
  | .call { callee := .builtin .len, args := _, argTypes := _ }, [.nv (.one (.chn _))] => true
  | .call { callee := .builtin .close, args := _, argTypes := _ }, _ => true
  | _, _ => false
def evalChan (P : Program) (op : Op) (xs : List SV) (mem : List Seg) (nh : Nat) : Option (SV × Eff × List Prop) :=
  match op, xs with
  | .makeChan t _, [.nv (.one (.val (.int _ n)))] => match P.underlying t with
    | some (.chan _ e) => match P.info? e with
      | some i => some (.nv (.one (.chn nh)), .new (.chan n.toNat [] false), [0 ≤ n, n ≤ 9223372036854775807, (i.bytes : Int) * n ≤ 281474976710544])
      | none => none
    | _ => none
  | .binOp .neq t _ _ _, [.nv (.one (.chn _)), .nv (.one (.val (.chan none)))] => match P.underlying t with
    | some (.chan _ _) => some (.nv (.one (.val (.bool true))), .none, [])
    | _ => none
  | .call { callee := .builtin .len, args := _, argTypes := ts }, [.nv (.one (.chn h))] => match ts.toList, mem[h]? with
    | [t], some (.chan _ buf _) => match P.underlying t with
      | some (.chan _ _) => some (.nv (.one (.val (.int .i64 buf.length))), .none, [])
      | _ => none
    | _, _ => none
  | .call { callee := .builtin .close, args := _, argTypes := _ }, [.nv (.one (.chn h))] => match mem[h]? with
    | some (.chan c buf false) => some (.tup [], .set h (.chan c buf true), [])
    | _ => none
  | _, _ => none
def evalCore (P : Program) (op : Op) (xs : List SV) (mem : List Seg) (nh : Nat) : Option (SV × Eff × List Prop) :=
  bif isChan op xs then evalChan P op xs mem nh else bif isMore op xs then evalMore P op xs mem else evalOld P op xs mem nh
theorem run_neq_chan {P : Program} {t e : TypeId} {dir : ChanDir} (hu : P.underlying t = some (.chan dir e)) (b : Nat) (X Y : Operand) (w : World) :
    (do eqGuard .neq t X Y (.chan (some b)) (.chan none); binOp .neq t (.chan (some b)) (.chan none) : Sem Value).run P w = .ok (.bool true) w := by
  have key : (Op.equal t (.chan (some b)) (.chan none)).run P w = .ok false w := by
    show (Op.equalIn (9999 + 1) t _ _).run P w = _
    unfold Op.equalIn
    simp only [Sem.run_bind, run_underlying hu, Result.andThen_ok]
    rfl
  simp [eqGuard, binOp, key]
theorem chan_sound {o : Oper} {ρ : Operand → Value} {xs : List SV} {r : SV} {eff : Eff} {obl : List Prop} (h : evalChan P o.op xs mem nh = some (r, eff, obl)) (ho : AllT obl)
    (hx : AllSV env xs (o.op.operands.toList.map ρ)) (hm : MemOk env mem w0 w S) (hg : mem[nh]? = some .gone) (hn : env nh = none) :
    ∃ u env' w', Yield P ρ o w u w' ∧ r.rel env' u ∧ After env env' eff mem w0 w' S nh := by
  obtain ⟨dst, op, type, pos, after, guard⟩ := o
  simp only at h hx
  unfold evalChan at h
  split at h
  · rename_i t x k n
    split at h
    · rename_i dir e hu
      split at h
      · rename_i i hi
        simp only [Option.some.injEq, Prod.mk.injEq] at h
        obtain ⟨rfl, rfl, rfl⟩ := h
        obtain ⟨o1, o2, o3, _⟩ := ho
        have hv : ρ x = .int k n := hx.1
        obtain ⟨m, rfl⟩ : ∃ m : Nat, n = m := ⟨n.toNat, by omega⟩
        refine ⟨.chan (some w.heap.size), env.put nh (.pointer (some ⟨w.heap.size, 0, none⟩)), w.alloc (.chan m #[] false 0 0 false), .inl ?_, ⟨_, Env.put_same _ _, rfl⟩, ?_⟩
        · have := Go.Conc.run_makeChan (w := w) hu hi k m o2 o3
          simp [execOp, hv, this]
        · refine ⟨Env.le_put hn, fun k hk => Env.put_other _ hk, hm.fill nh _ _ hg hn ((Ext.refl w).alloc _) (fun b hb => by simp [blksOf, baseOf] at hb; omega) ?_, (fun h => by cases h), fun _ _ e => by cases e⟩
          exact ⟨w.heap.size, 0, 0, Env.put_same _ _, heap_alloc_new w _⟩
      · cases h
    · cases h
  · rename_i t X Y l h'
    split at h
    · rename_i dir e hu
      simp only [Option.some.injEq, Prod.mk.injEq] at h
      obtain ⟨rfl, rfl, rfl⟩ := h
      obtain ⟨b, _, hb⟩ := hx.1
      have hy : ρ Y = .chan none := hx.2.1
      have hb' : ρ X = .chan (some b) := hb
      have := run_neq_chan hu b X Y w
      rw [← hb', ← hy] at this
      exact ⟨.bool true, env, w, .inl (run_pureValue _ this), rfl, After.none hm⟩
    · cases h
  · rename_i args ts h'
    split at h
    · rename_i t c buf cl ets hh
      split at h
      · rename_i dir e hu
        simp only [Option.some.injEq, Prod.mk.injEq] at h
        obtain ⟨rfl, rfl, rfl⟩ := h
        obtain ⟨v, hv, hx'⟩ := all1 rfl hx
        have ha : args.map ρ = #[v] := by
          apply Array.ext'
          simpa [Op.operands, Call.operands] using hv
        have hts : ts = #[t] := by apply Array.ext'; simpa using ets
        obtain ⟨b, h1, rfl⟩ := hx'
        obtain ⟨b', s, r', h2, h3⟩ := hm.ok _ _ hh
        rw [h1] at h2
        obtain rfl : b = b' := by simpa using h2
        have := Go.Conc.run_len_chan (P := P) t type hu h3
        refine ⟨.int .i64 buf.length, env, w, .inl ?_, rfl, After.none hm⟩
        simp only [execOp, resolve, Sem.run_bind, Sem.run_pure, Result.andThen_ok, invoke, builtin, ha, hts, this, goInt, List.size_toArray]
      · cases h
    · cases h
  · rename_i args ts h'
    split at h
    · rename_i c buf hh
      simp only [Option.some.injEq, Prod.mk.injEq] at h
      obtain ⟨rfl, rfl, rfl⟩ := h
      obtain ⟨v, hv, hx'⟩ := all1 rfl hx
      have ha : args.map ρ = #[v] := by
        apply Array.ext'
        simpa [Op.operands, Call.operands] using hv
      obtain ⟨b, h1, rfl⟩ := hx'
      obtain ⟨b', s, r', h2, h3⟩ := hm.ok _ _ hh
      have h20 := h2
      rw [h1] at h2
      obtain rfl : b = b' := by simpa using h2
      have := run_close_open (P := P) ts type h3
      refine ⟨.tuple #[], env, { w with heap := w.heap.setIfInBounds b (.chan c buf.toArray true s r' false) }, .inl ?_, ⟨#[], rfl, trivial⟩, ?_⟩
      · simp only [execOp, resolve, Sem.run_bind, Sem.run_pure, Result.andThen_ok, invoke, builtin, ha, this]
      · have hlt := (Array.getElem?_eq_some_iff.1 h3).1
        refine ⟨Env.le_refl _, fun _ _ => rfl, hm.write _ _ _ b hh (by simp [blk, h1, blksOf, baseOf]) rfl rfl rfl rfl (by simp) (fun k _ hk => by simp [Array.getElem?_setIfInBounds_ne (Ne.symm hk)]) ?_, fun _ => rfl, fun _ _ e => by cases e; exact ⟨_, hh, rfl⟩⟩
        exact ⟨b, s, r', h1, by simp [hlt]⟩
    · cases h
  · cases h
theorem more_sound {o : Oper} {ρ : Operand → Value} {xs : List SV} {r : SV} {eff : Eff} {obl : List Prop} (h : evalMore P o.op xs mem = some (r, eff, obl)) (ho : AllT obl)
    (hx : AllSV env xs (o.op.operands.toList.map ρ)) (hm : MemOk env mem w0 w S) :
    ∃ u env' w', Yield P ρ o w u w' ∧ r.rel env' u ∧ After env env' eff mem w0 w' S nh := by
  obtain ⟨dst, op, type, pos, after, guard⟩ := o
  simp only at h hx
  unfold evalMore at h
  split at h
  · split at h
    · rename_i r' e1
      simp only [Option.some.injEq, Prod.mk.injEq] at h
      obtain ⟨rfl, rfl, rfl⟩ := h
      obtain ⟨h1, h2⟩ := run_evUns e1 hm hx.1
      exact ⟨_, env, w, .inl (run_pureValue _ h1), h2, After.none hm⟩
    · cases h
  · rename_i args ts d s
    split at h
    · rename_i t t' ets
      split at h
      · rename_i n eff' obl' e1
        simp only [Option.some.injEq, Prod.mk.injEq] at h
        obtain ⟨rfl, rfl, rfl⟩ := h
        obtain ⟨v, u, hv, hd, hx'⟩ := all2 rfl hx
        have hu : u = .string s := hx'
        subst hu
        have ha : args.map ρ = #[v, .string s] := by
          apply Array.ext'
          simpa [Op.operands, Call.operands] using hv
        have hts : ts = #[t, t'] := by apply Array.ext'; simpa using ets
        obtain ⟨w', h1, h3⟩ := run_evCopyStr (t' := t') (ty := type) (nh := nh) e1 ho hm hd
        refine ⟨.int .i64 n, env, w', .inl ?_, rfl, h3⟩
        simp only [execOp, resolve, Sem.run_bind, Sem.run_pure, Result.andThen_ok, invoke, builtin, ha, hts, h1]
      · cases h
    · cases h
  · rename_i args ts a
    split at h
    · rename_i r' obl' e1
      simp only [Option.some.injEq, Prod.mk.injEq] at h
      obtain ⟨rfl, rfl, rfl⟩ := h
      obtain ⟨v, hv, hx'⟩ := all1 rfl hx
      have ha : args.map ρ = #[v] := by
        apply Array.ext'
        simpa [Op.operands, Call.operands] using hv
      obtain ⟨u, h1, h2⟩ := run_evData (P := P) (ts := ts) (ty := type) e1 ho hm hx'
      refine ⟨u, env, w, .inl ?_, h2, After.none hm⟩
      simp only [execOp, resolve, Sem.run_bind, Sem.run_pure, Result.andThen_ok, invoke, builtin, ha, h1]
    · cases h
  · rename_i args ts p n
    split at h
    · rename_i pt it ets
      split at h
      · rename_i r' eff' obl' e1
        simp only [Option.some.injEq, Prod.mk.injEq] at h
        obtain ⟨rfl, rfl, rfl⟩ := h
        obtain ⟨v, u, hv, hd, hx'⟩ := all2 rfl hx
        have hu : u = .int .i64 n := hx'
        subst hu
        have ha : args.map ρ = #[v, .int .i64 n] := by
          apply Array.ext'
          simpa [Op.operands, Call.operands] using hv
        have hts : ts = #[pt, it] := by apply Array.ext'; simpa using ets
        obtain ⟨w', h1, h3⟩ := run_evUStr (it := it) (ty := type) (nh := nh) rfl e1 ho hm hd
        refine ⟨.string r', env, w', .inl ?_, rfl, h3⟩
        simp only [execOp, resolve, Sem.run_bind, Sem.run_pure, Result.andThen_ok, invoke, builtin, ha, hts, h1]
      · cases h
    · cases h
  · cases h
theorem core_sound {o : Oper} {ρ : Operand → Value} {xs : List SV} {r : SV} {eff : Eff} {obl : List Prop} (h : evalCore P o.op xs mem nh = some (r, eff, obl)) (ho : AllT obl)
    (hx : AllSV env xs (o.op.operands.toList.map ρ)) (hm : MemOk env mem w0 w S) (hg : mem[nh]? = some .gone) (hn : env nh = none) :
    ∃ u env' w', Yield P ρ o w u w' ∧ r.rel env' u ∧ After env env' eff mem w0 w' S nh := by
  unfold evalCore at h
  cases hc : isChan o.op xs with
  | true => rw [hc] at h; exact chan_sound h ho hx hm hg hn
  | false =>
  rw [hc] at h
  simp only [cond_false] at h
  cases hb : isMore o.op xs with
  | true => rw [hb] at h; exact more_sound h ho hx hm
  | false => rw [hb] at h; exact old_sound h ho hx hm hg hn
end
end E
end Go.Proofs.Ytajdkbgbekdbmaa

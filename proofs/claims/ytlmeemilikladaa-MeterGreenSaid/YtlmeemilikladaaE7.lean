/- A symbolic run of Go code: the builtins. No condition. -/
import Derived.Test.YtlmeemilikladaaE3
namespace Go.Proofs.Ytlmeemilikladaa
set_option linter.unusedVariables false
set_option linter.unusedSimpArgs false
namespace E
open Go.RowKit
section
variable {P : Program} {env : Env} {mem : List Seg} {w0 w : World} {S : Nat → Prop} {nh : Nat}

/-- The elements that a slice names, with their cells in memory. -/
def srcOf (mem : List Seg) (wd : Nat) : At → Option (Nat × (Nat → List At))
  | .own h => match mem[h]? with
    | some (.ro wd' n g) => if wd' = wd then some (n, g) else none
    | some (.row _ wd' n g) => if wd' = wd then some (n, g) else none
    | _ => none
  | .val (.slice none 0 0) => some (0, fun _ => [])
  | _ => none
theorem srcOf_sound {wd n : Nat} {g : Nat → List At} {x : At} {v : Value} (h : srcOf mem wd x = some (n, g)) (hm : MemOk env mem w0 w S) (hx : x.rel env v) :
    ∃ ao cap cs, v = .slice ao n cap ∧ Elems env wd n g cs ∧ (ao = none → n = 0) ∧ ∀ j u, cs[j]? = some u → ∃ a, ao = some a ∧ w.cell? (a.add j) = some u := by
  unfold srcOf at h
  split at h
  · rename_i hd
    split at h
    · rename_i wd' n' g' hs
      split at h
      · rename_i e
        subst e
        simp only [Option.some.injEq, Prod.mk.injEq] at h
        obtain ⟨rfl, rfl⟩ := h
        obtain ⟨ao, cap, cs, h1, h2, h3, h4, h5, h6⟩ := hm.ok _ _ hs
        have hx1 := hx.1
        rw [h1] at hx1
        obtain rfl := Option.some.inj hx1
        exact ⟨ao, cap, cs, rfl, h5, fun e => (h4 e).1, h6⟩
      · cases h
    · rename_i e wd' n' g' hs
      split at h
      · rename_i ee
        subst ee
        simp only [Option.some.injEq, Prod.mk.injEq] at h
        obtain ⟨rfl, rfl⟩ := h
        obtain ⟨u, cs, h1, h2, h3⟩ := hm.ok _ _ hs
        have hx1 := hx.1
        rw [h1] at hx1
        obtain rfl := Option.some.inj hx1
        have hcells := fun b => h2.cells (g := b)
        rcases h2.2 with ⟨rfl, e0⟩ | ⟨b, cap, cur, rfl, _⟩
        · subst e0
          refine ⟨none, 0, cs, rfl, h3, fun _ => rfl, fun j u hj => ?_⟩
          have := h3.1
          have hlt := (List.getElem?_eq_some_iff.1 hj).1
          omega
        · exact ⟨_, cap, cs, rfl, h3, (fun e => by cases e), fun j u hj => ⟨_, rfl, hcells b rfl j u hj⟩⟩
      · cases h
    · cases h
  · simp only [Option.some.injEq, Prod.mk.injEq] at h
    obtain ⟨rfl, rfl⟩ := h
    cases hx
    exact ⟨none, 0, [], rfl, ⟨by simp, fun i hi => by omega, fun v hv => by cases hv⟩, fun _ => rfl, fun j u hj => by simp at hj⟩
  · cases h

def joinG (n : Nat) (g g2 : Nat → List At) : Nat → List At := fun k => if k < n then g k else g2 (k - n)
theorem Elems.join {wd n m : Nat} {g g2 : Nat → List At} {cs ds : List Value} (h : Elems env wd n g cs) (k : Elems env wd m g2 ds) : Elems env wd (n + m) (joinG n g g2) (cs ++ ds) := by
  refine ⟨by rw [List.length_append, h.1, k.1, Nat.add_mul], fun i hi => ?_, fun v hv => ?_⟩
  · unfold joinG
    by_cases q : i < n
    · rw [if_pos q]
      have hle : i * wd + wd ≤ n * wd := by
        have := Nat.mul_le_mul_right wd (show i + 1 ≤ n by omega)
        rw [Nat.add_mul] at this; omega
      have hx : ((cs ++ ds).drop (i * wd)).take wd = (cs.drop (i * wd)).take wd := by
        apply List.ext_getElem?
        intro k'
        rw [seg_get, seg_get]
        by_cases q2 : k' < wd
        · rw [if_pos q2, if_pos q2, List.getElem?_append_left (by rw [h.1]; omega)]
        · rw [if_neg q2, if_neg q2]
      rw [hx]
      exact h.2.1 i q
    · rw [if_neg q]
      have hx : ((cs ++ ds).drop (i * wd)).take wd = (ds.drop ((i - n) * wd)).take wd := by
        apply List.ext_getElem?
        intro k'
        rw [seg_get, seg_get]
        have hle : n * wd ≤ i * wd := Nat.mul_le_mul_right wd (by omega)
        have e : (i - n) * wd = i * wd - n * wd := Nat.sub_mul i n wd
        by_cases q2 : k' < wd
        · rw [if_pos q2, if_pos q2, List.getElem?_append_right (by rw [h.1]; omega), h.1, e]
          congr 1; omega
        · rw [if_neg q2, if_neg q2]
      rw [hx]
      exact k.2.1 (i - n) (by omega)
  · rcases List.mem_append.1 hv with hv | hv
    · exact h.2.2 v hv
    · exact k.2.2 v hv

theorem run_append_none (t ty e : TypeId) (i : TypeInfo) (ht : P.underlying t = some (.slice e)) (hi : P.info? e = some i) (base : Option Addr) (n cap c : Nat) (hn : n ≤ cap) (w : World) :
    (Builtin.append_ #[t, t] ty #[.slice base n cap, .slice none 0 c]).run P w = .ok (.slice base n cap) w := by
  cases base with
  | none => simp [Builtin.append_, run_underlying ht, sizeOf, typeInfo, hi, Builtin.lenOf, hn, Builtin.firstCells]
  | some a => simp [Builtin.append_, run_underlying ht, sizeOf, typeInfo, hi, Builtin.lenOf, hn, Builtin.firstCells, storeCells]

/-- What stands in a slice with m elements more. -/
def appG (n m : Nat) (g g2 : Nat → List At) : Nat → List At := fun k => if m = 1 then (if k = n then g2 0 else g k) else joinG n g g2 k
theorem appG_eq {n m : Nat} {g g2 : Nat → List At} {k : Nat} (hk : k < n + m) : appG n m g g2 k = joinG n g g2 k := by
  unfold appG joinG
  split
  · rename_i e
    subst e
    split
    · rename_i e; subst e; rw [if_neg (by omega), Nat.sub_self]
    · rw [if_pos (by omega)]
  · rfl
theorem Elems.app {wd n m : Nat} {g g2 : Nat → List At} {cs : List Value} (h : Elems env wd (n + m) (joinG n g g2) cs) : Elems env wd (n + m) (appG n m g g2) cs :=
  ⟨h.1, fun i hi => by rw [appG_eq hi]; exact h.2.1 i hi, h.2.2⟩
def evAppend (P : Program) (t : TypeId) (mem : List Seg) (s x : At) (nh : Nat) : Option (SV × Eff × List Prop) :=
  match P.underlying t with
  | some (.slice e) => match P.info? e, zeroOf P e with
    | some i, some z =>
      if z.cells.size = i.size ∧ 0 < i.size then
        match srcOf mem i.size x with
        | some (m, g2) => match s with
          | .own h => match mem[h]? with
            | some (.row e' wd n g) => if e' = e ∧ wd = i.size ∧ h ≠ nh then some (.nv (.one (.own nh)), .app h (.row e wd (n + m) (appG n m g g2)), [n + m ≤ 4611686018427387904, (n + m) * i.bytes ≤ 140737488355328]) else none
            | _ => none
          | .val (.slice none 0 0) => some (.nv (.one (.own nh)), .new (.row e i.size m g2), [m ≤ 4611686018427387904, m * i.bytes ≤ 140737488355328])
          | _ => none
        | none => none
      else none
    | _, _ => none
  | _ => none

/-- What is appended to: what it owns, and where. -/
theorem append_run {t ty e : TypeId} {i : TypeInfo} {z : Value} (ht : P.underlying t = some (.slice e)) (hi : P.info? e = some i) (hz : zeroOf P e = some z) (hzs : z.cells.size = i.size) (h0 : 0 < i.size)
    {v : Value} {n : Nat} {g : Nat → List At} {cs : List Value} (hown : w.ownsRow 0 e i.size v n cs) (he : Elems env i.size n g cs)
    {m : Nat} {g2 : Nat → List At} {x : At} {xv : Value} (hs : srcOf mem i.size x = some (m, g2)) (hm : MemOk env mem w0 w S) (hx : x.rel env xv) (o1 : n + m ≤ 4611686018427387904) (o2 : (n + m) * i.bytes ≤ 140737488355328) :
    ∃ v' w' ds, (Builtin.append_ #[t, t] ty #[v, xv]).run P w = .ok v' w' ∧ w'.ownsRow 0 e i.size v' (n + m) (cs ++ ds) ∧ Elems env i.size (n + m) (joinG n g g2) (cs ++ ds) ∧ w.grownBy w' v.ownBlock ∧
      (v'.ownBlock = v.ownBlock ∨ v'.ownBlock = some w.heap.size) ∧ (∃ ao k c, v' = .slice ao k c) := by
  have hz' : i.zero = some z := by simpa [zeroOf, hi] using hz
  obtain ⟨ao, cap, ds, rfl, hd, hnil, hcell⟩ := srcOf_sound hs hm hx
  have hj := he.join hd
  cases ao with
  | none =>
    have e0 := hnil rfl
    subst e0
    have hds : ds = [] := List.eq_nil_of_length_eq_zero (by simpa using hd.1)
    subst hds
    have hv : ∃ ao k c, v = .slice ao k c ∧ k ≤ c := by
      rcases hown.2 with ⟨rfl, _⟩ | ⟨b, c, cur, rfl, _, _, hc, _⟩
      · exact ⟨_, _, _, rfl, by omega⟩
      · exact ⟨_, _, _, rfl, hc⟩
    obtain ⟨a', k, c, rfl, hkc⟩ := hv
    exact ⟨_, w, [], run_append_none t ty e i ht hi a' k c cap hkc w, by simpa using hown, hj, ⟨rfl, rfl, rfl, Nat.le_refl _, fun _ _ _ => rfl⟩, .inl rfl, _, _, _, rfl⟩
  | some a =>
    obtain ⟨v', w', r1, r2, r3, r4, r5⟩ := run_append_own_at (P := P) w 0 t ty e i z i.size i.bytes ht hi hz' rfl rfl hzs h0 v n cs hown a m cap ds hd.1 (fun j u hj => by
      obtain ⟨a', ea, hc⟩ := hcell j u hj
      obtain rfl := Option.some.inj ea
      exact hc) hd.2.2 (by unfold maxLen; omega) o2 (Nat.zero_le _)
    refine ⟨v', w', ds, r1, r2, hj, r3, r5, ?_⟩
    rcases r2.2 with ⟨rfl, _⟩ | ⟨b, c, cur, rfl, _⟩
    · exact ⟨_, _, _, rfl⟩
    · exact ⟨_, _, _, rfl⟩

theorem run_evAppend {t ty : TypeId} {s x : At} {sv xv : Value} {r : SV} {eff : Eff} {obl : List Prop} (h : evAppend P t mem s x nh = some (r, eff, obl)) (ho : AllT obl) (hm : MemOk env mem w0 w S) (hg : mem[nh]? = some .gone) (hn : env nh = none)
    (hs : s.rel env sv) (hx : x.rel env xv) : ∃ u env' w', (Builtin.append_ #[t, t] ty #[sv, xv]).run P w = .ok u w' ∧ r.rel env' u ∧ After env env' eff mem w0 w' S nh := by
  unfold evAppend at h
  split at h
  · rename_i e hu
    split at h
    · rename_i i z hi hz
      split at h
      · rename_i hc
        split at h
        · rename_i m g2 hsrc
          split at h
          · rename_i hd
            split at h
            · rename_i e' wd n g hrow
              split at h
              · rename_i hcc
                obtain ⟨rfl, rfl, hne⟩ := hcc
                simp only [Option.some.injEq, Prod.mk.injEq] at h
                obtain ⟨rfl, rfl, rfl⟩ := h
                simp only [AllT, and_true] at ho
                obtain ⟨v, cs, h1, h2, h3⟩ := hm.ok _ _ hrow
                have hs1 := hs.1
                rw [h1] at hs1
                obtain rfl := Option.some.inj hs1
                obtain ⟨v', w', ds, r1, r2, r3, r4, r5, r6⟩ := append_run (ty := ty) hu hi hz hc.1 hc.2 h2 h3 hsrc hm hx ho.1 ho.2
                have hdrop := hm.drop hd
                refine ⟨v', env.put nh v', w', r1, ⟨Env.put_same _ _, r6⟩, Env.le_put hn, fun k hk => Env.put_other _ hk, ?_, (fun h => by cases h), fun _ _ e => by cases e⟩
                refine hdrop.fill2 nh v' _ (by rw [List.getElem?_set_ne hne]; exact hg) hn v.ownBlock r4.os r4.tape r4.output r4.size r4.block ?_ ?_ ?_ ⟨v', _, Env.put_same _ _, r2, r3.app.le (Env.le_put hn)⟩
                · intro k t b hb hk hl
                  by_cases ek : k = hd
                  · subst ek
                    rw [List.getElem?_set_self (List.getElem?_eq_some_iff.1 hrow).1] at hk
                    cases hk
                    exact hl.elim
                  · rw [List.getElem?_set_ne (Ne.symm ek)] at hk
                    refine hm.sep hd k _ t b hrow hk (Ne.symm ek) rfl hl ?_
                    rcases h2.2 with ⟨rfl, _⟩ | ⟨b', c, cur, rfl, _⟩
                    · cases hb
                    · simpa [blk, h1, baseOf, Value.ownBlock] using hb
                · intro b hb
                  refine hm.own hd _ b hrow rfl ?_
                  rcases h2.2 with ⟨rfl, _⟩ | ⟨b', c, cur, rfl, _⟩
                  · cases hb
                  · simpa [blk, h1, baseOf, Value.ownBlock] using hb
                · intro b hb
                  have := own_base r2 hb
                  rcases r5 with e5 | e5
                  · exact .inl (by rw [← e5]; exact this)
                  · rw [e5] at this
                    exact .inr (by simp at this; omega)
              · cases h
            · cases h
          · simp only [Option.some.injEq, Prod.mk.injEq] at h
            obtain ⟨rfl, rfl, rfl⟩ := h
            simp only [AllT, and_true] at ho
            cases hs
            obtain ⟨v', w', ds, r1, r2, r3, r4, r5, r6⟩ := append_run (ty := ty) (v := .slice none 0 0) (n := 0) (g := fun _ => []) (cs := []) hu hi hz hc.1 hc.2 (World.ownsRow_nil w 0 e i.size) ⟨by simp, fun i hi => by omega, fun v hv => by cases hv⟩ hsrc hm hx (by omega) (by simpa using ho.2)
            refine ⟨v', env.put nh v', w', r1, ⟨Env.put_same _ _, r6⟩, Env.le_put hn, fun k hk => Env.put_other _ hk, ?_, (fun h => by cases h), fun _ _ e => by cases e⟩
            have e1 : joinG 0 (fun _ => []) g2 = g2 := by funext k; simp [joinG]
            rw [Nat.zero_add] at r2 r3
            rw [e1] at r3
            refine hm.fill2 nh v' _ hg hn none r4.os r4.tape r4.output r4.size (fun k hk _ => r4.block k hk (by simp [Value.ownBlock])) (fun _ _ _ e => by cases e) (fun _ e => by cases e) ?_ ⟨v', _, Env.put_same _ _, r2, r3.le (Env.le_put hn)⟩
            intro b hb
            have := own_base r2 hb
            rcases r5 with e5 | e5
            · rw [e5] at this; cases this
            · rw [e5] at this
              exact .inr (by simp at this; omega)
          · cases h
        · cases h
      · cases h
    · cases h
  · cases h

/-! len, min, max -/
def evLen (P : Program) (t : TypeId) (mem : List Seg) : NV → Option Int
  | .one (.val (.string s)) => match P.underlying t with | some .string => some s.size | _ => none
  | .one (.val (.slice _ n _)) => match P.underlying t with | some (.slice _) => some n | _ => none
  | .one (.own h) => match P.underlying t, mem[h]? with
    | some (.slice _), some (.ro _ n _) => some n
    | some (.slice _), some (.row _ _ n _) => some n
    | _, _ => none
  | .agg _ => match P.underlying t with | some (.array n _) => some n | _ => none
  | _ => none
theorem run_evLen {t ty : TypeId} {x : NV} {v : Value} {n : Int} (h : evLen P t mem x = some n) (hm : MemOk env mem w0 w S) (hx : x.rel env v) (ts : Array TypeId) (ht : ts[0]? = some t) :
    (Builtin.len_ ts ty #[v]).run P w = .ok (.int .i64 n) w := by
  unfold evLen at h
  unfold Builtin.len_
  rw [ht]
  split at h
  · split at h
    · rename_i s _ hu
      simp only [Option.some.injEq] at h; subst h
      cases hx
      simp [run_underlying hu, goInt]
    · cases h
  · split at h
    · rename_i hu
      simp only [Option.some.injEq] at h; subst h
      cases hx
      simp [run_underlying hu, goInt]
    · cases h
  · split at h
    · rename_i hu hs
      simp only [Option.some.injEq] at h; subst h
      obtain ⟨ao, cap, cs, h1, _⟩ := hm.ok _ _ hs
      have hx1 := hx.1
      rw [h1] at hx1
      obtain rfl := Option.some.inj hx1
      simp [run_underlying hu, goInt]
    · rename_i hu hs
      simp only [Option.some.injEq] at h; subst h
      obtain ⟨u, cs, h1, h2, _⟩ := hm.ok _ _ hs
      have hx1 := hx.1
      rw [h1] at hx1
      obtain rfl := Option.some.inj hx1
      rcases h2.2 with ⟨rfl, rfl⟩ | ⟨b, c, cur, rfl, _⟩
      · simp [run_underlying hu, goInt]
      · simp [run_underlying hu, goInt]
    · cases h
  · split at h
    · rename_i hu
      simp only [Option.some.injEq] at h; subst h
      obtain ⟨cs, rfl, _⟩ := hx
      simp [run_underlying hu, goInt]
    · cases h
  · cases h

def intOf? : SV → Option (IntKind × Int)
  | .nv (.one (.val (.int k a))) => some (k, a)
  | _ => none
theorem intOf?_rel {x : SV} {k : IntKind} {a : Int} {v : Value} (h : intOf? x = some (k, a)) (hx : x.rel env v) : v = .int k a := by
  unfold intOf? at h
  split at h
  · simp only [Option.some.injEq, Prod.mk.injEq] at h
    obtain ⟨rfl, rfl⟩ := h
    exact hx
  · cases h
def intsOf (k : IntKind) : List SV → Option (List Int)
  | [] => some []
  | x :: xs => match intOf? x, intsOf k xs with
    | some (k', a), some l => if k' = k then some (a :: l) else none
    | _, _ => none
theorem intsOf_rel {k : IntKind} : ∀ {xs : List SV} {l : List Int} {vs : List Value}, intsOf k xs = some l → AllSV env xs vs → vs = l.map (.int k)
  | [], l, [], h, _ => by simp only [intsOf, Option.some.injEq] at h; subst h; rfl
  | x :: xs, l, v :: vs, h, hx => by
    unfold intsOf at h
    split at h
    · rename_i k' a l' e1 e2
      split at h
      · rename_i ek
        subst ek
        simp only [Option.some.injEq] at h; subst h
        rw [intOf?_rel e1 hx.1, intsOf_rel e2 hx.2]; rfl
      · cases h
    · cases h
def evFold (f : Int → Int → Int) : List SV → Option (IntKind × Int)
  | [] => none
  | x :: xs => match intOf? x with
    | some (k, a) => match intsOf k xs with
      | some l => some (k, l.foldl f a)
      | none => none
    | none => none
theorem run_evMin {k : IntKind} {n : Int} (ts : Array TypeId) (ty : TypeId) {xs : List SV} {vs : List Value} (h : evFold (fun x y => if y < x then y else x) xs = some (k, n)) (hx : AllSV env xs vs) (w : World) :
    (Builtin.min_ ts ty vs.toArray).run P w = .ok (.int k n) w := by
  cases xs with
  | nil => cases h
  | cons x xs =>
    cases vs with
    | nil => exact hx.elim
    | cons v vs =>
      simp only [evFold] at h
      split at h
      · rename_i k' a e1
        split at h
        · rename_i l e2
          simp only [Option.some.injEq, Prod.mk.injEq] at h
          obtain ⟨rfl, rfl⟩ := h
          rw [intOf?_rel e1 hx.1, intsOf_rel e2 hx.2]
          have key : ∀ (l : List Int) (a : Int), (List.foldlM Builtin.min2 (Value.int k' a) (l.map (Value.int k'))).run P w = .ok (.int k' (l.foldl (fun x y => if y < x then y else x) a)) w := by
            intro l
            induction l with
            | nil => intro a; rfl
            | cons b l ih =>
              intro a
              simp only [List.map_cons, List.foldlM_cons, List.foldl_cons]
              exact ih _
          exact key l a
        · cases h
      · cases h
theorem run_evMax {k : IntKind} {n : Int} (ts : Array TypeId) (ty : TypeId) {xs : List SV} {vs : List Value} (h : evFold (fun x y => if y > x then y else x) xs = some (k, n)) (hx : AllSV env xs vs) (w : World) :
    (Builtin.max_ ts ty vs.toArray).run P w = .ok (.int k n) w := by
  cases xs with
  | nil => cases h
  | cons x xs =>
    cases vs with
    | nil => exact hx.elim
    | cons v vs =>
      simp only [evFold] at h
      split at h
      · rename_i k' a e1
        split at h
        · rename_i l e2
          simp only [Option.some.injEq, Prod.mk.injEq] at h
          obtain ⟨rfl, rfl⟩ := h
          rw [intOf?_rel e1 hx.1, intsOf_rel e2 hx.2]
          have key : ∀ (l : List Int) (a : Int), (List.foldlM Builtin.max2 (Value.int k' a) (l.map (Value.int k'))).run P w = .ok (.int k' (l.foldl (fun x y => if y > x then y else x) a)) w := by
            intro l
            induction l with
            | nil => intro a; rfl
            | cons b l ih =>
              intro a
              simp only [List.map_cons, List.foldlM_cons, List.foldl_cons]
              exact ih _
          exact key l a
        · cases h
      · cases h

/-! slices of texts, and of rows -/
def evSliceStr (s : ByteArray) (lo hi : Option Int) : ByteArray × List Prop :=
  (s.extract (lo.getD 0).toNat (hi.getD s.size).toNat, [0 ≤ lo.getD 0, lo.getD 0 ≤ hi.getD s.size, hi.getD s.size ≤ s.size])
theorem run_evSliceStr {t : TypeId} (hu : P.underlying t = some .string) (s : ByteArray) (lo hi : Option Int) (kl kh : IntKind) {r : ByteArray} {obl : List Prop} (h : evSliceStr s lo hi = (r, obl)) (ho : AllT obl) (w : World) :
    (Instr.sliceAt t (.string s) (lo.map (.int kl)) (hi.map (.int kh)) none).run P w = .ok (.string r) w := by
  unfold evSliceStr at h
  obtain ⟨rfl, rfl⟩ := Prod.mk.inj h
  simp only [AllT, and_true] at ho
  unfold Instr.sliceAt
  simp only [Sem.run_bind, run_underlying hu, Result.andThen_ok]
  unfold Instr.slice
  simp only [Sem.run_bind, run_underlying hu, Result.andThen_ok]
  cases lo <;> cases hi <;> simp_all [Instr.sliceBounds, Instr.sliceBound, asIntOf]
  rw [if_pos (by omega), if_pos (by omega)]
end
end E
end Go.Proofs.Ytlmeemilikladaa

/- A symbolic run of Go code: one operation. No condition. -/
namespace Go.Proofs.Ytlmeemilikladaa
set_option linter.unusedVariables false
set_option linter.unusedSimpArgs false
namespace E
open Go.RowKit

def plain : At → Option Value
  | .val v => some v
  | .bit b => some (.bool b)
  | _ => none
theorem plain_rel {env : Env} {a : At} {u v : Value} (h : plain a = some u) (k : a.rel env v) : v = u := by
  cases a <;> simp only [plain, Option.some.injEq, reduceCtorEq] at h
  · subst h; exact k
  · subst h; exact k

def isPtr : At → Bool
  | .ptr .. | .eptr .. => true
  | _ => false
theorem isPtr_rel {env : Env} {a : At} {v : Value} (h : isPtr a = true) (k : a.rel env v) : ∃ p, v = .pointer (some p) := by
  cases a <;> simp only [isPtr, Bool.false_eq_true] at h
  · obtain ⟨_, _, _, _, rfl⟩ := k; exact ⟨_, rfl⟩
  · obtain ⟨_, _, _, _, rfl⟩ := k; exact ⟨_, rfl⟩

/-- An address against nil. -/
def evNil (P : Program) (op : BinOp) (t : TypeId) : Option Bool :=
  match P.underlying t, op with
  | some (.pointer _), .eql => some false
  | some (.pointer _), .neq => some true
  | _, _ => none
theorem run_evNil {P : Program} {op : BinOp} {t : TypeId} {r : Bool} (h : evNil P op t = some r) (p : Addr) (X Y : Operand) (w : World) :
    (do eqGuard op t X Y (.pointer (some p)) (.pointer none); binOp op t (.pointer (some p)) (.pointer none) : Sem Value).run P w = .ok (.bool r) w ∧
    (do eqGuard op t X Y (.pointer none) (.pointer (some p)); binOp op t (.pointer none) (.pointer (some p)) : Sem Value).run P w = .ok (.bool r) w := by
  have key : ∀ e, P.underlying t = some (.pointer e) → (Op.equal t (.pointer (some p)) (.pointer none)).run P w = .ok false w ∧ (Op.equal t (.pointer none) (.pointer (some p))).run P w = .ok false w := by
    intro e hu
    constructor
    · show (Op.equalIn (9999 + 1) t _ _).run P w = _
      unfold Op.equalIn
      simp only [Sem.run_bind, run_underlying hu, Result.andThen_ok]
      rfl
    · show (Op.equalIn (9999 + 1) t _ _).run P w = _
      unfold Op.equalIn
      simp only [Sem.run_bind, run_underlying hu, Result.andThen_ok]
      rfl
  unfold evNil at h
  split at h
  · rename_i e hu
    simp only [Option.some.injEq] at h; subst h
    obtain ⟨k1, k2⟩ := key e hu
    constructor
    · simp [eqGuard, binOp, k1]
    · simp [eqGuard, binOp, k2]
  · rename_i e hu
    simp only [Option.some.injEq] at h; subst h
    obtain ⟨k1, k2⟩ := key e hu
    constructor
    · simp [eqGuard, binOp, k1]
    · simp [eqGuard, binOp, k2]
  · cases h

def evBinOp (P : Program) (op : BinOp) (t : TypeId) : NV → NV → Option (Value × List Prop)
  | .one a, .one b =>
    match plain a, plain b with
    | some u, some v => evBin P op t u v
    | none, some (.pointer none) => if isPtr a then (evNil P op t).map fun r => (.bool r, []) else none
    | some (.pointer none), none => if isPtr b then (evNil P op t).map fun r => (.bool r, []) else none
    | _, _ => none
  | .agg l, .agg m => (evBinAgg P op t l m).map fun r => (.bool r, [])
  | _, _ => none
theorem run_evBinOp {P : Program} {env : Env} {op : BinOp} {t : TypeId} {a b : NV} {x y v : Value} {obl : List Prop} (h : evBinOp P op t a b = some (v, obl)) (ho : AllT obl) (ha : a.rel env x) (hb : b.rel env y) (X Y : Operand) (w : World) :
    (do eqGuard op t X Y x y; binOp op t x y : Sem Value).run P w = .ok v w := by
  unfold evBinOp at h
  split at h
  · split at h
    · rename_i u v' e1 e2
      rw [plain_rel e1 ha, plain_rel e2 hb]
      exact run_evBin h ho X Y w
    · rename_i e1 e2
      split at h
      · rename_i hp
        rw [Option.map_eq_some_iff] at h
        obtain ⟨r, hr, e⟩ := h
        obtain ⟨rfl, rfl⟩ := Prod.mk.inj e
        obtain ⟨p, rfl⟩ := isPtr_rel hp ha
        rw [plain_rel e2 hb]
        exact (run_evNil hr p X Y w).1
      · cases h
    · rename_i e1 e2
      split at h
      · rename_i hp
        rw [Option.map_eq_some_iff] at h
        obtain ⟨r, hr, e⟩ := h
        obtain ⟨rfl, rfl⟩ := Prod.mk.inj e
        obtain ⟨p, rfl⟩ := isPtr_rel hp hb
        rw [plain_rel e1 ha]
        exact (run_evNil hr p X Y w).2
      · cases h
    · cases h
  · rw [Option.map_eq_some_iff] at h
    obtain ⟨r, hr, e⟩ := h
    obtain ⟨rfl, rfl⟩ := Prod.mk.inj e
    exact run_evBinAgg hr ha hb X Y w
  · cases h

def pairUp : List Nat → List SV → Option (List (Nat × NV))
  | [], [] => some []
  | i :: is, .nv x :: xs => (pairUp is xs).map ((i, x) :: ·)
  | _, _ => none
theorem pairUp_rel {env : Env} {ρ : Operand → Value} : ∀ {ps : List (Nat × Operand)} {xs : List SV} {r : List (Nat × NV)}, pairUp (ps.map (·.1)) xs = some r → AllSV env xs (ps.map fun p => ρ p.2) → AllParts env r (ps.map fun p => (p.1, ρ p.2))
  | [], [], r, h, _ => by simp only [List.map_nil, pairUp, Option.some.injEq] at h; subst h; trivial
  | (i, p) :: ps, .nv x :: xs, r, h, hx => by
    simp only [List.map_cons, pairUp] at h
    rw [Option.map_eq_some_iff] at h
    obtain ⟨r', h1, rfl⟩ := h
    exact ⟨rfl, hx.1, pairUp_rel h1 hx.2⟩
  | (i, p) :: ps, .any :: xs, r, h, hx => by simp [pairUp] at h
  | (i, p) :: ps, .tup _ :: xs, r, h, hx => by simp [pairUp] at h
  | (i, p) :: ps, [], r, h, hx => by simp [pairUp] at h
  | [], _ :: _, r, h, hx => by simp [pairUp] at h

def sliceArgs (lo hi : Option Operand) (xs : List SV) : Option (Option Int × Option Int) :=
  match lo, hi, xs with
  | none, none, [] => some (none, none)
  | some _, none, [l] => (intOf? l).map fun l => (some l.2, none)
  | none, some _, [h] => (intOf? h).map fun h => (none, some h.2)
  | some _, some _, [l, h] => match intOf? l, intOf? h with
    | some l, some h => some (some l.2, some h.2)
    | _, _ => none
  | _, _, _ => none

/-- One operation, that is no call of a Go function. -/
def evalCore (P : Program) (op : Op) (xs : List SV) (mem : List Seg) (nh : Nat) : Option (SV × Eff × List Prop) :=
  match op, xs with
  | .move _, [.nv x] => some (.nv x, .none, [])
  | .move _, [.tup l] => some (.tup l, .none, [])
  | .assign _, [.nv x] => some (.nv x, .none, [])
  | .assign _, [.tup l] => some (.tup l, .none, [])
  | .extract _ i, [.tup l] => match l[i]? with
    | some x => some (.nv x, .none, [])
    | none => none
  | .binOp op t _ _ _, [.nv a, .nv b] => match evBinOp P op t a b with
    | some (v, obl) => some (.nv (.one (.val v)), .none, obl)
    | none => none
  | .unOp op _ _, [.nv (.one a)] => match plain a with
    | some u => match evUn op u with
      | some v => some (.nv (.one (.val v)), .none, [])
      | none => none
    | none => none
  | .convert s d _, [.nv (.one a)] => match plain a with
    | some u => match evConv P s d u with
      | some v => some (.nv (.one (.val v)), .none, [])
      | none => none
    | none => none
  | .field t _ i, [.nv (.agg l)] => match evField P t l i with
    | some r => some (.nv r, .none, [])
    | none => none
  | .index t _ _, [.nv x, i] => match intOf? i with
    | some (_, i) => match evIndex P t x i with
      | some (r, obl) => some (.nv r, .none, obl)
      | none => none
    | none => none
  | .nilCheck _, [.nv (.one a)] => if isPtr a then some (.nv (.one a), .none, []) else none
  | .box t _, [.nv x] => match evBox t x nh with
    | some (r, eff) => some (r, eff, [])
    | none => none
  | .alloc t, [] => match evAlloc P t nh with
    | some (r, eff) => some (r, eff, [])
    | none => none
  | .load t _, [.nv (.one a)] => match evLoad P t mem a with
    | some (r, obl) => some (.nv r, .none, obl)
    | none => none
  | .store t _ _, [.nv (.one a), .nv x] => match evStore P t mem a x with
    | some (h, s, obl) => some (.any, .set h s, obl)
    | none => none
  | .fieldAddr s _ f, [.nv (.one a)] => match evFieldAddr P s f a with
    | some r => some (.nv (.one r), .none, [])
    | none => none
  | .indexAddr t _ _, [.nv (.one a), i] => match intOf? i with
    | some (_, i) => match evIndexAddr P t mem a i with
      | some (r, obl) => some (.nv (.one r), .none, obl)
      | none => none
    | none => none
  | .build t ps, xs => match pairUp (ps.toList.map (·.1)) xs with
    | some l => match evBuild P t l with
      | some r => some (.nv r, .none, [])
      | none => none
    | none => none
  | .buildSlice t len ps, xs => match pairUp (ps.toList.map (·.1)) xs with
    | some l => match evBuildSlice P t len l nh with
      | some (r, eff) => some (r, eff, [])
      | none => none
    | none => none
  | .makeSlice t _ _, [l, c] => match intOf? l, intOf? c with
    | some (_, l), some (_, c) => evMake P t l c nh
    | _, _ => none
  | .slice t _ lo hi none, .nv (.one (.val (.string s))) :: xs => match P.underlying t, sliceArgs lo hi xs with
    | some .string, some (l, h) => some (.nv (.one (.val (.string (evSliceStr s l h).1))), .none, (evSliceStr s l h).2)
    | _, _ => none
  | .call { callee := .builtin .len, args := _, argTypes := ts }, [.nv x] => match ts[0]? with
    | some t => match evLen P t mem x with
      | some n => some (.nv (.one (.val (.int .i64 n))), .none, [])
      | none => none
    | none => none
  | .call { callee := .builtin .min, args := _, argTypes := _ }, xs => match evFold (fun x y => if y < x then y else x) xs with
    | some (k, n) => some (.nv (.one (.val (.int k n))), .none, [])
    | none => none
  | .call { callee := .builtin .max, args := _, argTypes := _ }, xs => match evFold (fun x y => if y > x then y else x) xs with
    | some (k, n) => some (.nv (.one (.val (.int k n))), .none, [])
    | none => none
  | .call { callee := .builtin .append, args := _, argTypes := ts }, [.nv (.one s), .nv (.one x)] =>
    match ts.toList with
    | [t, t'] => if t = t' then evAppend P t mem s x nh else none
    | _ => none
  | _, _ => none

/-- What an operation yields. -/
def Yield (P : Program) (ρ : Operand → Value) (o : Oper) (w : World) (u : Value) (w' : World) : Prop :=
  (execOp ρ o).run P w = .ok (.value u) w' ∨ ((execOp ρ o).run P w = .ok .skip w' ∧ u = undef)

section
variable {P : Program} {env : Env} {mem : List Seg} {w0 w : World} {S : Nat → Prop} {nh : Nat}

theorem all1 {l : List SV} {x : SV} {vs : List Value} (hl : l = [x]) (h : AllSV env l vs) : ∃ v, vs = [v] ∧ x.rel env v := by
  subst hl
  match vs, h with
  | [v], h => exact ⟨v, rfl, h.1⟩
theorem all2 {l : List SV} {x y : SV} {vs : List Value} (hl : l = [x, y]) (h : AllSV env l vs) : ∃ v u, vs = [v, u] ∧ x.rel env v ∧ y.rel env u := by
  subst hl
  match vs, h with
  | [v, u], h => exact ⟨v, u, rfl, h.1, h.2.1⟩

theorem run_pureValue (x : Sem Value) {v : Value} {w w' : World} (h : x.run P w = .ok v w') : (do pure (.value (← x)) : Sem Next).run P w = .ok (.value v) w' := by
  simp only [Sem.run_bind, h, Result.andThen_ok, Sem.run_pure]

theorem After.none (h : MemOk env mem w0 w S) : After env env .none mem w0 w S nh := After.same' h
end
end E
end Go.Proofs.Ytlmeemilikladaa

/- A symbolic run of Go code: each operation yields what the run says. No condition. -/
namespace Go.Proofs.Ytlmeemilikladaa
set_option linter.unusedVariables false
set_option linter.unusedSimpArgs false
namespace E
open Go.RowKit
section
variable {P : Program} {env : Env} {mem : List Seg} {w0 w : World} {S : Nat → Prop} {nh : Nat}

theorem sliceArgs_rel {ρ : Operand → Value} {lo hi : Option Operand} {xs : List SV} {l h : Option Int} (hs : sliceArgs lo hi xs = some (l, h)) (hx : AllSV env xs ((lo.toArray ++ hi.toArray).toList.map ρ)) :
    ∃ kl kh : IntKind, lo.map ρ = l.map (.int kl) ∧ hi.map ρ = h.map (.int kh) := by
  unfold sliceArgs at hs
  split at hs
  · simp only [Option.some.injEq, Prod.mk.injEq] at hs
    obtain ⟨rfl, rfl⟩ := hs
    exact ⟨.i64, .i64, rfl, rfl⟩
  · rename_i p x
    rw [Option.map_eq_some_iff] at hs
    obtain ⟨⟨k, n⟩, h1, e⟩ := hs
    obtain ⟨rfl, rfl⟩ := Prod.mk.inj e
    have := intOf?_rel h1 hx.1
    exact ⟨k, .i64, by simpa using this, rfl⟩
  · rename_i p x
    rw [Option.map_eq_some_iff] at hs
    obtain ⟨⟨k, n⟩, h1, e⟩ := hs
    obtain ⟨rfl, rfl⟩ := Prod.mk.inj e
    have := intOf?_rel h1 hx.1
    exact ⟨.i64, k, rfl, by simpa using this⟩
  · rename_i p q x y
    split at hs
    · rename_i a b h1 h2
      simp only [Option.some.injEq, Prod.mk.injEq] at hs
      obtain ⟨rfl, rfl⟩ := hs
      have e1 := intOf?_rel (k := a.1) (a := a.2) h1 hx.1
      have e2 := intOf?_rel (k := b.1) (a := b.2) h2 hx.2.1
      exact ⟨a.1, b.1, by simpa using e1, by simpa using e2⟩
    · cases hs
  · cases hs

theorem core_sound {o : Oper} {ρ : Operand → Value} {xs : List SV} {r : SV} {eff : Eff} {obl : List Prop} (h : evalCore P o.op xs mem nh = some (r, eff, obl)) (ho : AllT obl)
    (hx : AllSV env xs (o.op.operands.toList.map ρ)) (hm : MemOk env mem w0 w S) (hg : mem[nh]? = some .gone) (hn : env nh = none) :
    ∃ u env' w', Yield P ρ o w u w' ∧ r.rel env' u ∧ After env env' eff mem w0 w' S nh := by
  obtain ⟨dst, op, type, pos, after, guard⟩ := o
  simp only at h hx
  unfold evalCore at h
  split at h
  · -- move
    simp only [Option.some.injEq, Prod.mk.injEq] at h
    obtain ⟨rfl, rfl, rfl⟩ := h
    exact ⟨_, _, _, .inl rfl, hx.1, After.none hm⟩
  · simp only [Option.some.injEq, Prod.mk.injEq] at h
    obtain ⟨rfl, rfl, rfl⟩ := h
    exact ⟨_, _, _, .inl rfl, hx.1, After.none hm⟩
  · simp only [Option.some.injEq, Prod.mk.injEq] at h
    obtain ⟨rfl, rfl, rfl⟩ := h
    exact ⟨_, _, _, .inl rfl, hx.1, After.none hm⟩
  · simp only [Option.some.injEq, Prod.mk.injEq] at h
    obtain ⟨rfl, rfl, rfl⟩ := h
    exact ⟨_, _, _, .inl rfl, hx.1, After.none hm⟩
  · -- extract
    rename_i x i l
    split at h
    · rename_i y hy
      simp only [Option.some.injEq, Prod.mk.injEq] at h
      obtain ⟨rfl, rfl, rfl⟩ := h
      obtain ⟨vs, hv, hl⟩ := hx.1
      have hget : ∀ {l : List NV} {vs : List Value} {i : Nat} {a : NV}, AllNV env l vs → l[i]? = some a → ∃ v, vs[i]? = some v ∧ a.rel env v := by
        intro l
        induction l with
        | nil => intro vs i a _ h; simp at h
        | cons b l ih =>
          intro vs i a k h
          cases vs with
          | nil => exact k.elim
          | cons v vs =>
            cases i with
            | zero => simp at h; subst h; exact ⟨v, by simp, k.1⟩
            | succ i => simp at h; obtain ⟨u, h1, h2⟩ := ih k.2 h; exact ⟨u, by simpa using h1, h2⟩
      obtain ⟨v, h1, h2⟩ := hget hl hy
      refine ⟨v, _, _, .inl ?_, h2, After.none hm⟩
      have h1' : vs[i]? = some v := by simpa using h1
      show (do pure (.value (← Instr.extract (ρ x) i)) : Sem Next).run P w = _
      refine run_pureValue _ ?_
      rw [hv]
      simp [Instr.extract, h1']
    · cases h
  · -- binOp
    rename_i bop t x y yt a b
    split at h
    · rename_i v obl' hb
      simp only [Option.some.injEq, Prod.mk.injEq] at h
      obtain ⟨rfl, rfl, rfl⟩ := h
      refine ⟨v, _, _, .inl ?_, rfl, After.none hm⟩
      exact run_pureValue _ (run_evBinOp hb ho hx.1 hx.2.1 x y w)
    · cases h
  · -- unOp
    split at h
    · rename_i u e1
      split at h
      · rename_i v e2
        simp only [Option.some.injEq, Prod.mk.injEq] at h
        obtain ⟨rfl, rfl, rfl⟩ := h
        refine ⟨v, _, _, .inl ?_, rfl, After.none hm⟩
        refine run_pureValue _ ?_
        rw [plain_rel e1 hx.1]
        exact run_evUn e2 w
      · cases h
    · cases h
  · -- convert
    split at h
    · rename_i u e1
      split at h
      · rename_i v e2
        simp only [Option.some.injEq, Prod.mk.injEq] at h
        obtain ⟨rfl, rfl, rfl⟩ := h
        refine ⟨v, _, _, .inl ?_, rfl, After.none hm⟩
        refine run_pureValue _ ?_
        rw [plain_rel e1 hx.1]
        exact run_evConv e2 w
      · cases h
    · cases h
  · -- field
    split at h
    · rename_i r' e1
      simp only [Option.some.injEq, Prod.mk.injEq] at h
      obtain ⟨rfl, rfl, rfl⟩ := h
      obtain ⟨u, h1, h2⟩ := run_evField e1 hx.1 w
      exact ⟨u, _, _, .inl (run_pureValue _ h1), h2, After.none hm⟩
    · cases h
  · -- index
    split at h
    · rename_i k i e1
      split at h
      · rename_i r' obl' e2
        simp only [Option.some.injEq, Prod.mk.injEq] at h
        obtain ⟨rfl, rfl, rfl⟩ := h
        obtain ⟨u, h1, h2⟩ := run_evIndex (k := k) e2 ho hx.1 w
        refine ⟨u, _, _, .inl (run_pureValue _ ?_), h2, After.none hm⟩
        rw [intOf?_rel e1 hx.2.1]
        exact h1
      · cases h
    · cases h
  · -- nilCheck
    rename_i x a
    split at h
    · rename_i hp
      simp only [Option.some.injEq, Prod.mk.injEq] at h
      obtain ⟨rfl, rfl, rfl⟩ := h
      obtain ⟨p, e⟩ := isPtr_rel hp hx.1
      refine ⟨.pointer (some p), _, _, .inl ?_, by rw [← e]; exact hx.1, After.none hm⟩
      have e' : ρ x = .pointer (some p) := e
      simp [execOp, e']
    · cases h
  · -- box
    split at h
    · rename_i r' eff' e1
      simp only [Option.some.injEq, Prod.mk.injEq] at h
      obtain ⟨rfl, rfl, rfl⟩ := h
      obtain ⟨u, env', w', h1, h2, h3⟩ := run_evBox e1 hm hg hn hx.1
      exact ⟨u, env', w', .inl (run_pureValue _ h1), h2, h3⟩
    · cases h
  · -- alloc
    split at h
    · rename_i r' eff' e1
      simp only [Option.some.injEq, Prod.mk.injEq] at h
      obtain ⟨rfl, rfl, rfl⟩ := h
      obtain ⟨u, env', w', h1, h2, h3⟩ := run_evAlloc e1 hm hg hn
      exact ⟨u, env', w', .inl (run_pureValue _ h1), h2, h3⟩
    · cases h
  · -- load
    split at h
    · rename_i r' obl' e1
      simp only [Option.some.injEq, Prod.mk.injEq] at h
      obtain ⟨rfl, rfl, rfl⟩ := h
      obtain ⟨u, h1, h2⟩ := run_evLoad e1 ho hm hx.1
      exact ⟨u, _, _, .inl (run_pureValue _ h1), h2, After.none hm⟩
    · cases h
  · -- store
    split at h
    · rename_i hd s obl' e1
      simp only [Option.some.injEq, Prod.mk.injEq] at h
      obtain ⟨rfl, rfl, rfl⟩ := h
      obtain ⟨w', h1, h2⟩ := run_evStore e1 ho hm hx.1 hx.2.1
      refine ⟨undef, env, w', .inr ⟨?_, rfl⟩, trivial, Env.le_refl _, fun _ _ => rfl, h2, (fun _ => rfl), fun _ _ e => by cases e; exact evStore_excl e1⟩
      simp only [execOp, Sem.run_bind, h1, Result.andThen_ok, Sem.run_pure]
    · cases h
  · -- fieldAddr
    split at h
    · rename_i r' e1
      simp only [Option.some.injEq, Prod.mk.injEq] at h
      obtain ⟨rfl, rfl, rfl⟩ := h
      obtain ⟨u, h1, h2⟩ := run_evFieldAddr e1 hx.1 w
      exact ⟨u, _, _, .inl (run_pureValue _ h1), h2, After.none hm⟩
    · cases h
  · -- indexAddr
    split at h
    · rename_i k i e1
      split at h
      · rename_i r' obl' e2
        simp only [Option.some.injEq, Prod.mk.injEq] at h
        obtain ⟨rfl, rfl, rfl⟩ := h
        obtain ⟨u, h1, h2⟩ := run_evIndexAddr (k := k) e2 ho hm hx.1
        refine ⟨u, _, _, .inl (run_pureValue _ ?_), h2, After.none hm⟩
        rw [intOf?_rel e1 hx.2.1]
        exact h1
      · cases h
    · cases h
  · -- build
    rename_i _ t ps
    split at h
    · rename_i l e1
      split at h
      · rename_i r' e2
        simp only [Option.some.injEq, Prod.mk.injEq] at h
        obtain ⟨rfl, rfl, rfl⟩ := h
        have hp : AllParts env l ((ps.map fun (i, x) => (i, ρ x)).toList) := by
          have := pairUp_rel (ρ := ρ) e1 (by simpa [Op.operands, Function.comp_def] using hx)
          simpa using this
        obtain ⟨u, h1, h2⟩ := run_evBuild e2 hp w
        exact ⟨u, _, _, .inl (run_pureValue _ h1), h2, After.none hm⟩
      · cases h
    · cases h
  · -- buildSlice
    rename_i _ t len ps
    split at h
    · rename_i l e1
      split at h
      · rename_i r' eff' e2
        simp only [Option.some.injEq, Prod.mk.injEq] at h
        obtain ⟨rfl, rfl, rfl⟩ := h
        have hp : AllParts env l ((ps.map fun (i, x) => (i, ρ x)).toList) := by
          have := pairUp_rel (ρ := ρ) e1 (by simpa [Op.operands, Function.comp_def] using hx)
          simpa using this
        obtain ⟨u, env', w', h1, h2, h3⟩ := run_evBuildSlice e2 hp hm hg hn
        exact ⟨u, _, _, .inl (run_pureValue _ h1), h2, h3⟩
      · cases h
    · cases h
  · -- makeSlice
    split at h
    · rename_i kl l kc c e1 e2
      obtain ⟨u, env', w', h1, h2, h3⟩ := run_evMake (kl := kl) (kc := kc) h ho hm hg hn
      refine ⟨u, _, _, .inl (run_pureValue _ ?_), h2, h3⟩
      rw [intOf?_rel e1 hx.1, intOf?_rel e2 hx.2.1]
      exact h1
    · cases h
  · -- slice of a text
    rename_i t x lo hi s xs'
    split at h
    · rename_i l hh e1 e2
      simp only [Option.some.injEq, Prod.mk.injEq] at h
      obtain ⟨rfl, rfl, rfl⟩ := h
      have hxs : AllSV env xs' ((lo.toArray ++ hi.toArray).toList.map ρ) := by
        have := hx
        simp only [Op.operands, Option.toArray, Array.append_empty] at this
        have e : ((#[x] ++ lo.toArray ++ hi.toArray).toList.map ρ) = ρ x :: ((lo.toArray ++ hi.toArray).toList.map ρ) := by simp
        simp only [Op.operands, Option.toArray_none, Array.append_empty] at hx
        rw [e] at hx
        exact hx.2
      obtain ⟨kl, kh, el, eh⟩ := sliceArgs_rel e2 hxs
      have hv : ρ x = .string s := by
        have e : ((#[x] ++ lo.toArray ++ hi.toArray).toList.map ρ) = ρ x :: ((lo.toArray ++ hi.toArray).toList.map ρ) := by simp
        simp only [Op.operands, Option.toArray_none, Array.append_empty] at hx
        rw [e] at hx
        exact hx.1
      refine ⟨.string (evSliceStr s l hh).1, _, _, .inl (run_pureValue _ ?_), rfl, After.none hm⟩
      rw [hv, el, eh]
      exact run_evSliceStr e1 s l hh kl kh rfl ho w
    · cases h
  · -- len
    rename_i args ts x
    split at h
    · rename_i t ht
      split at h
      · rename_i n e1
        simp only [Option.some.injEq, Prod.mk.injEq] at h
        obtain ⟨rfl, rfl, rfl⟩ := h
        obtain ⟨v, hv, hx'⟩ := all1 rfl hx
        have ha : args.map ρ = #[v] := by
          apply Array.ext'
          simpa [Op.operands, Call.operands] using hv
        refine ⟨.int .i64 n, _, _, .inl ?_, rfl, After.none hm⟩
        have := run_evLen (ty := type) e1 hm hx' ts ht
        simp only [execOp, resolve, Sem.run_bind, Sem.run_pure, Result.andThen_ok, invoke, builtin, ha, this]
      · cases h
    · cases h
  · -- min
    rename_i _ args ts
    split at h
    · rename_i k n e1
      simp only [Option.some.injEq, Prod.mk.injEq] at h
      obtain ⟨rfl, rfl, rfl⟩ := h
      refine ⟨.int k n, _, _, .inl ?_, rfl, After.none hm⟩
      have := run_evMin (P := P) ts type e1 hx w
      have ha : (((Op.call { callee := .builtin .min, args := args, argTypes := ts }).operands.toList.map ρ).toArray) = args.map ρ := by
        apply Array.ext'
        simp [Op.operands, Call.operands]
      rw [ha] at this
      simp only [execOp, resolve, Sem.run_bind, Sem.run_pure, Result.andThen_ok, invoke, builtin, this]
    · cases h
  · -- max
    rename_i _ args ts
    split at h
    · rename_i k n e1
      simp only [Option.some.injEq, Prod.mk.injEq] at h
      obtain ⟨rfl, rfl, rfl⟩ := h
      refine ⟨.int k n, _, _, .inl ?_, rfl, After.none hm⟩
      have := run_evMax (P := P) ts type e1 hx w
      have ha : (((Op.call { callee := .builtin .max, args := args, argTypes := ts }).operands.toList.map ρ).toArray) = args.map ρ := by
        apply Array.ext'
        simp [Op.operands, Call.operands]
      rw [ha] at this
      simp only [execOp, resolve, Sem.run_bind, Sem.run_pure, Result.andThen_ok, invoke, builtin, this]
    · cases h
  · -- append
    rename_i args ts s x
    split at h
    · rename_i t t' ets
      split at h
      · rename_i e
        subst e
        obtain ⟨v, u, hv, hs, hx'⟩ := all2 rfl hx
        have ha : args.map ρ = #[v, u] := by
          apply Array.ext'
          simpa [Op.operands, Call.operands] using hv
        have hts : ts = #[t, t] := by apply Array.ext'; simpa using ets
        obtain ⟨r', env', w', h1, h2, h3⟩ := run_evAppend (ty := type) h ho hm hg hn hs hx'
        refine ⟨r', env', w', .inl ?_, h2, h3⟩
        simp only [execOp, resolve, Sem.run_bind, Sem.run_pure, Result.andThen_ok, invoke, builtin, ha, hts, h1]
      · cases h
    · cases h
  · cases h
end
end E
end Go.Proofs.Ytlmeemilikladaa

/- A symbolic run of Go code: rows of operations, code, calls. No condition. -/
namespace Go.Proofs.Ytlmeemilikladaa
set_option linter.unusedVariables false
set_option linter.unusedSimpArgs false
namespace E
open Go.RowKit

structure St where
  tm : List SV
  mem : List Seg

/-- The world in which a function began, what it may write of it, and its first handles. -/
structure Cx where
  w0 : World
  S : Nat → Prop
  m0 : Nat
  fix : Env

/-- What a state says of a frame and of a world. -/
structure Ok (cx : Cx) (env : Env) (st : St) (a : Act) (w : World) : Prop where
  defers : a.defers = []
  tm : AllSV env st.tm a.tmps.toList
  mem : MemOk env st.mem cx.w0 w cx.S
  long : cx.m0 ≤ st.mem.length
  fix : ∀ h, h < cx.m0 → env h = none ∨ env h = cx.fix h

/-! specifications of functions -/
abbrev Spec := List SV → List Seg → Option (SV × List Seg × List Prop)
def SpecOk (P : Program) (f : FuncId) (sp : Spec) : Prop :=
  ∀ args mem r mem' obl, sp args mem = some (r, mem', obl) → AllT obl → ∀ (env : Env) (w0 w : World) (S : Nat → Prop) (vals : List Value), AllSV env args vals → MemOk env mem w0 w S →
    Calls P f vals.toArray w fun e w' => ∃ v env', e = .returned v ∧ env.le env' ∧ (∀ h, h < mem.length → env' h = env h) ∧ mem.length ≤ mem'.length ∧ r.rel env' v ∧ MemOk env' mem' w0 w' S
def MemLe (m m' : List Seg) : Prop := ∀ (h : Nat) (s : Seg), m[h]? = some s → s = Seg.gone ∨ m'[h]? = some s
/-- A function that reads at most. -/
def RdOk (P : Program) (f : FuncId) (sp : List SV → List Seg → Option (SV × List Prop)) : Prop :=
  (∀ args mem mem' x, MemLe mem mem' → sp args mem = some x → sp args mem' = some x) ∧
  ∀ args mem r obl, sp args mem = some (r, obl) → AllT obl → ∀ (env : Env) (w0 w : World) (S : Nat → Prop) (vals : List Value), AllSV env args vals → MemOk env mem w0 w S →
    Calls P f vals.toArray w fun e w' => ∃ v, e = .returned v ∧ r.rel env v ∧ Ext w w'
inductive Sp where
  | rd (f : List SV → List Seg → Option (SV × List Prop))
  | wr (f : Spec)
def SpOk (P : Program) (f : FuncId) : Sp → Prop
  | .rd g => RdOk P f g
  | .wr g => SpecOk P f g
def Sp.run : Sp → Spec
  | .rd g => fun args mem => match g args mem with
    | some (r, obl) => some (r, mem, obl)
    | none => none
  | .wr g => g
theorem SpOk.spec {P : Program} {f : FuncId} {sp : Sp} (h : SpOk P f sp) : SpecOk P f sp.run := by
  cases sp with
  | wr g => exact h
  | rd g =>
    intro args mem r mem' obl hs ho env w0 w S vals hv hm
    simp only [Sp.run] at hs
    split at hs
    · rename_i r' obl' hg
      simp only [Option.some.injEq, Prod.mk.injEq] at hs
      obtain ⟨rfl, rfl, rfl⟩ := hs
      refine (h.2 _ _ _ _ hg ho env w0 w S vals hv hm).mono ?_
      rintro e w' ⟨v, rfl, h4, h5⟩
      exact ⟨v, env, rfl, Env.le_refl _, fun _ _ => rfl, Nat.le_refl _, h4, hm.trans h5⟩
    · cases hs
def EnterOk (P : Program) (f : FuncId) : Prop := ∃ fn, P.funcs[f]? = some fn ∧ (fn.name == "runtime.NumGoroutine") = false ∧ fn.body.isNone = false
/-- A function that the machine stands in for, and that reads no memory. -/
def ExtOk (P : Program) (f : FuncId) (sp : Sp) : Prop := ∃ g : List SV → Option (SV × List Prop), sp = .rd (fun args _ => g args) ∧
  ∀ args r obl, g args = some (r, obl) → AllT obl → ∀ (env : Env) (vals : List Value), AllSV env args vals → ∀ w, ∃ v, (callFunc f vals.toArray).run P w = .ok (.value v) w ∧ r.rel env v
def CtxOk (P : Program) (Γ : List (FuncId × Sp)) : Prop := ∀ f sp, Γ.lookup f = some sp → (EnterOk P f ∧ SpOk P f sp) ∨ ExtOk P f sp

/-! tests -/
def decide? (tm : List SV) (orc : List Bool) : Operand → Option (Bool × List SV × List Prop × List Bool)
  | .tmp t => match tm.getD t .any with
    | .nv (.one (.bit b)) => some (b, tm, [], orc)
    | .nv (.one (.val (.bool b))) => match orc with
      | c :: orc => some (c, tm.set t (.nv (.one (.bit c))), [b = c], orc)
      | [] => none
    | _ => none
  | .const (.bool b) => some (b, tm, [], orc)
  | _ => none
theorem getD_tmps {env : Env} {tm : List SV} {a : Act} (h : AllSV env tm a.tmps.toList) (t : Nat) : (tm.getD t .any).rel env (a.tmps.getD t undef) := get_rel h (.tmp t)
theorem decide?_sound {env : Env} {tm tm' : List SV} {orc orc' : List Bool} {x : Operand} {c : Bool} {obl : List Prop} {a : Act} (h : decide? tm orc x = some (c, tm', obl, orc')) (ho : AllT obl) (ht : AllSV env tm a.tmps.toList) :
    a.eval x = .bool c ∧ AllSV env tm' a.tmps.toList := by
  unfold decide? at h
  split at h
  · rename_i t
    split at h
    · rename_i b hb
      simp only [Option.some.injEq, Prod.mk.injEq] at h
      obtain ⟨rfl, rfl, rfl, rfl⟩ := h
      have := getD_tmps ht t
      rw [hb] at this
      exact ⟨this, ht⟩
    · rename_i b hb
      split at h
      · rename_i c' orc'' 
        simp only [Option.some.injEq, Prod.mk.injEq] at h
        obtain ⟨rfl, rfl, rfl, rfl⟩ := h
        simp only [AllT, and_true] at ho
        subst ho
        have hv := getD_tmps ht t
        rw [hb] at hv
        have hv' : a.tmps.getD t undef = .bool b := hv
        refine ⟨hv', ?_⟩
        have hlt : t < a.tmps.size := by
          rcases Nat.lt_or_ge t a.tmps.size with k | k
          · exact k
          · rw [Array.getD_eq_getD_getElem?, Array.getElem?_eq_none k] at hv'
            cases hv'
        have hself : a.tmps.toList.set t (.bool b) = a.tmps.toList := by
          have : a.tmps.toList[t]'(by simpa using hlt) = .bool b := by
            rw [Array.getD_eq_getD_getElem?, Array.getElem?_eq_getElem hlt] at hv'
            exact hv'
          rw [← this, List.set_getElem_self]
        have := ht.set t (a := .nv (.one (.bit b))) (v := .bool b) rfl
        rwa [hself] at this
      · cases h
    · cases h
  · simp only [Option.some.injEq, Prod.mk.injEq] at h
    obtain ⟨rfl, rfl, rfl, rfl⟩ := h
    exact ⟨rfl, ht⟩
  · cases h

def norm : SV → SV
  | .nv (.one (.bit b)) => .nv (.one (.val (.bool b)))
  | x => x
theorem norm_rel {env : Env} {x : SV} {v : Value} (h : x.rel env v) : (norm x).rel env v := by
  unfold norm; split <;> exact h
theorem norms_rel {env : Env} {ρ : Operand → Value} {tm : List SV} : ∀ {l : List Operand}, (∀ x, (get tm x).rel env (ρ x)) → AllSV env (l.map fun x => norm (get tm x)) (l.map ρ)
  | [], _ => trivial
  | x :: l, h => ⟨norm_rel (h x), norms_rel h⟩
theorem gets_rel {env : Env} {ρ : Operand → Value} {tm : List SV} : ∀ {l : List Operand}, (∀ x, (get tm x).rel env (ρ x)) → AllSV env (l.map (get tm)) (l.map ρ)
  | [], _ => trivial
  | x :: l, h => ⟨h x, gets_rel h⟩

structure Res where
  v : SV
  st : St
  obl : List Prop
  orc : List Bool

/-- One operation that runs. -/
def stepOp (P : Program) (Γ : List (FuncId × Sp)) (op : Op) (st : St) (orc : List Bool) : Option Res :=
  match op with
  | .pick c x y => match decide? st.tm orc c with
    | some (b, tm, obl, orc) => match get tm (if b then x else y) with
      | .nv r => some ⟨.nv r, ⟨tm, st.mem⟩, obl, orc⟩
      | _ => none
    | none => none
  | .call { callee := .value (.func f), args, argTypes := _ } => match Γ.lookup f with
    | some sp => match sp.run (args.toList.map fun x => norm (get st.tm x)) st.mem with
      | some (r, mem, obl) => some ⟨r, ⟨st.tm, mem⟩, obl, orc⟩
      | none => none
    | none => none
  | op => match evalCore P op (op.operands.toList.map (get st.tm)) (st.mem ++ [.gone]) st.mem.length with
    | some (r, eff, obl) => some ⟨r, ⟨st.tm, if eff.makes then eff.apply st.mem.length (st.mem ++ [.gone]) else eff.apply st.mem.length st.mem⟩, obl, orc⟩
    | none => none

def put (tm : List SV) (d : Option Tmp) (x : SV) : List SV := match d with | some d => tm.set d x | none => tm
theorem put_rel {env : Env} {tm : List SV} {a : Act} {x : SV} {v : Value} (h : AllSV env tm a.tmps.toList) (hx : x.rel env v) (d : Option Tmp) : AllSV env (put tm d x) (a.put d v).tmps.toList := by
  cases d with
  | none => exact h
  | some d =>
    show AllSV env (tm.set d x) (a.tmps.setIfInBounds d v).toList
    rw [Array.toList_setIfInBounds]
    exact h.set d hx

def isUndef : SV → Bool
  | .tup [] => true
  | _ => false
theorem isUndef_rel {env : Env} {x : SV} {v : Value} (h : isUndef x = true) (k : x.rel env v) : v = undef := by
  unfold isUndef at h
  split at h
  · obtain ⟨vs, rfl, k⟩ := k
    have : vs = #[] := by
      cases hl : vs.toList with
      | nil => apply Array.ext'; rw [hl]
      | cons a l => rw [hl] at k; exact k.elim
    subst this; rfl
  · cases h
theorem undef_rel (env : Env) : (SV.tup []).rel env undef := ⟨#[], rfl, trivial⟩

def runOps (P : Program) (Γ : List (FuncId × Sp)) (ops : Array Oper) : List Oper → St → List Bool → Option (St × List Prop × List Bool)
  | [], st, orc => some (st, [], orc)
  | o :: rest, st, orc =>
    match o.guard with
    | none => match stepOp P Γ o.op st orc with
      | some r => match runOps P Γ ops rest ⟨put r.st.tm o.dst r.v, r.st.mem⟩ r.orc with
        | some (st, obl, orc) => some (st, r.obl ++ obl, orc)
        | none => none
      | none => none
    | some (j, want) => match (ops[j]?).bind (·.dst) with
      | some d => if isUndef (st.tm.getD d .any) then match runOps P Γ ops rest ⟨put st.tm o.dst (.tup []), st.mem⟩ orc with
          | some (st, obl, orc) => some (st, obl, orc)
          | none => none
        else match decide? st.tm orc (.tmp d) with
        | some (c, tm, obl0, orc) =>
          if c == want then match stepOp P Γ o.op ⟨tm, st.mem⟩ orc with
            | some r => match runOps P Γ ops rest ⟨put r.st.tm o.dst r.v, r.st.mem⟩ r.orc with
              | some (st, obl, orc) => some (st, obl0 ++ (r.obl ++ obl), orc)
              | none => none
            | none => none
          else match runOps P Γ ops rest ⟨put tm o.dst (.tup []), st.mem⟩ orc with
            | some (st, obl, orc) => some (st, obl0 ++ obl, orc)
            | none => none
        | none => none
      | none => none

section
variable {P : Program} {Γ : List (FuncId × Sp)} {env : Env} {w0 w : World} {S : Nat → Prop} {cx : Cx}

theorem wp_of_yield {o : Oper} {a : Act} {K : Act → World → Prop} {Q : Exit → Act → World → Prop} {u : Value} {w' : World} (h : Yield P a.eval o w u w') (k : K (a.put o.dst u) w') : o.wp P a w K Q := by
  unfold Oper.wp
  rcases h with h | ⟨h, rfl⟩
  · rw [h]; exact k
  · rw [h]; exact k

theorem MemOk.unpad {mem : List Seg} (h : MemOk env (mem ++ [.gone]) w0 w S) (hn : env mem.length = none) : MemOk env mem w0 w S := by
  have get : ∀ (m : Nat) (t : Seg), mem[m]? = some t → (mem ++ [Seg.gone])[m]? = some t := fun m t hm => by
    rw [List.getElem?_append_left (List.getElem?_eq_some_iff.1 hm).1]; exact hm
  refine ⟨fun m t hm => h.ok m t (get m t hm), fun m hm => ?_, fun m k s t b hm hk => h.sep m k s t b (get m s hm) (get k t hk), fun m s b hm => h.own m s b (get m s hm), h.os, h.tape, h.output, h.grow, h.frame⟩
  by_cases e : m = mem.length
  · subst e; exact hn
  · exact h.top m (by simp; omega)

theorem callFunc_run {f : FuncId} (he : EnterOk P f) (args : Array Value) (w : World) : (callFunc f args).run P w = .ok (.enter f args) w := by
  obtain ⟨fn, h1, h2, h3⟩ := he
  unfold callFunc
  simp only [Sem.run_bind, run_program, Result.andThen_ok, h1, h2, h3, Bool.false_eq_true, if_false, Sem.run_pure]

theorem stepOp_sound (hΓ : CtxOk P Γ) {o : Oper} {st : St} {orc : List Bool} {r : Res} {a : Act} (h : stepOp P Γ o.op st orc = some r) (ho : AllT r.obl) (hk : Ok cx env st a w)
    {K : Act → World → Prop} {Q : Exit → Act → World → Prop} (hK : ∀ env' a' w', env.le env' → Ok cx env' ⟨put r.st.tm o.dst r.v, r.st.mem⟩ a' w' → K a' w') : o.wp P a w K Q := by
  obtain ⟨dst, op, type, pos, after, guard⟩ := o
  simp only at h hK
  unfold stepOp at h
  split at h
  · -- pick
    rename_i c x y
    split at h
    · rename_i b tm obl orc' hd
      split at h
      · rename_i r' hr
        simp only [Option.some.injEq] at h; subst h
        obtain ⟨h1, h2⟩ := decide?_sound hd ho hk.tm
        refine wp_of_yield (u := a.eval (if b then x else y)) (w' := w) (.inl ?_) (hK env _ w (Env.le_refl _) ⟨by cases dst <;> exact hk.defers, put_rel h2 (by rw [← hr]; exact get_rel h2 _) dst, hk.mem, hk.long, hk.fix⟩)
        simp only [execOp, h1, asBool, Sem.run_bind, Sem.run_pure, Result.andThen_ok]
        cases b <;> rfl
      · cases h
    · cases h
  · -- call
    rename_i f args ts
    split at h
    · rename_i sp hl
      split at h
      · rename_i r' mem obl hs
        simp only [Option.some.injEq] at h; subst h
        have e0 : (#[] ++ args.map a.eval ++ #[]) = (args.toList.map a.eval).toArray := by
          apply Array.ext'; simp
        have hargs : AllSV env (args.toList.map fun x => norm (get st.tm x)) (args.toList.map a.eval) := norms_rel (fun x => get_rel hk.tm x)
        rcases hΓ f sp hl with ⟨he, hsp⟩ | ⟨g, rfl, hx⟩
        case inr =>
          simp only [Sp.run] at hs
          split at hs
          · rename_i r0 obl0 hg
            simp only [Option.some.injEq, Prod.mk.injEq] at hs
            obtain ⟨rfl, rfl, rfl⟩ := hs
            obtain ⟨v, h1, h2⟩ := hx _ _ _ hg ho env _ hargs w
            refine wp_of_yield (u := v) (w' := w) (.inl ?_) (hK env _ w (Env.le_refl _) ⟨by cases dst <;> exact hk.defers, put_rel hk.tm h2 dst, hk.mem, hk.long, hk.fix⟩)
            show (callFunc f (#[] ++ args.map a.eval ++ #[])).run P w = _
            rw [e0]
            exact h1
          · cases hs
        have hc := hsp.spec _ _ _ _ _ hs ho env cx.w0 w cx.S _ hargs hk.mem
        unfold Oper.wp
        have hrun : (execOp a.eval ⟨dst, .call { callee := .value (.func f), args := args, argTypes := ts }, type, pos, after, guard⟩).run P w = .ok (.enter f (args.toList.map a.eval).toArray) w := by
          have e : (#[] ++ args.map a.eval ++ #[]) = (args.toList.map a.eval).toArray := by
            apply Array.ext'; simp
          show (callFunc f (#[] ++ args.map a.eval ++ #[])).run P w = _
          rw [e]
          exact callFunc_run he _ w
        rw [hrun]
        show Calls P f _ w _
        refine hc.mono ?_
        rintro e w' ⟨v, env', rfl, hle, hsame, hlong, hv, hm⟩
        exact hK env' _ w' hle ⟨by cases dst <;> exact hk.defers, put_rel (hk.tm.le hle) hv dst, hm, Nat.le_trans hk.long hlong, fun h hl => by rw [hsame h (Nat.lt_of_lt_of_le hl hk.long)]; exact hk.fix h hl⟩
      · cases h
    · cases h
  · rename_i op' n1 n2
    split at h
    · rename_i r' eff obl hc
      simp only [Option.some.injEq] at h; subst h
      have hx : AllSV env (op.operands.toList.map (get st.tm)) (op.operands.toList.map a.eval) := gets_rel (fun x => get_rel hk.tm x)
      obtain ⟨u, env', w', h1, h2, h3⟩ := core_sound (o := ⟨dst, op, type, pos, after, guard⟩) (ρ := a.eval) hc ho hx hk.mem.pad (by simp) (hk.mem.top _ (Nat.le_refl _))
      have hal : ∀ mm : List Seg, (eff.apply st.mem.length mm).length = mm.length := fun mm => by cases eff <;> simp [Eff.apply]
      refine wp_of_yield h1 (hK env' _ w' h3.le ⟨by cases dst <;> exact hk.defers, put_rel (hk.tm.le h3.le) h2 dst, ?_, ?_, fun h hl => by rw [h3.other h (Nat.ne_of_lt (Nat.lt_of_lt_of_le hl hk.long))]; exact hk.fix h hl⟩)
      case refine_2 =>
        have := hk.long
        simp only
        split
        · rw [hal]; simp; omega
        · rw [hal]; exact hk.long
      simp only
      split
      · exact h3.ok
      · rename_i hmk
        have hmk' : eff.makes = false := by simpa using hmk
        have hsame := h3.same hmk'
        have hok := h3.ok
        have hap : eff.apply st.mem.length (st.mem ++ [Seg.gone]) = eff.apply st.mem.length st.mem ++ [Seg.gone] := by
          cases eff with
          | none => rfl
          | new s => cases hmk'
          | app h s => cases hmk'
          | set h s =>
            show (st.mem ++ [Seg.gone]).set h s = st.mem.set h s ++ [Seg.gone]
            obtain ⟨t, ht, hx'⟩ := h3.wr h s rfl
            have hlt : h < st.mem.length := by
              rcases Nat.lt_or_ge h st.mem.length with k | k
              · exact k
              · exfalso
                rw [List.getElem?_append_right k] at ht
                obtain ⟨hl, e⟩ := List.getElem?_eq_some_iff.1 ht
                simp at hl
                simp [hl] at e
                subst e
                cases hx'
            rw [List.set_append_left _ _ hlt]
        rw [hap] at hok
        refine MemOk.unpad hok ?_
        have hl : (eff.apply st.mem.length st.mem).length = st.mem.length := by
          cases eff <;> simp [Eff.apply]
        rw [hl, hsame]
        exact hk.mem.top _ (Nat.le_refl _)
    · cases h

theorem LetsOut_or {o : Oper} {a : Act} {w : World} {K : Act → World → Prop} {Q : Exit → Act → World → Prop} (h : o.wp P a w K Q) : o.wp P a w K Q ∨ (o.asks P a w ∧ LetsOut Q) := .inl h

theorem runOps_sound (hΓ : CtxOk P Γ) {ops : Array Oper} {Q : Exit → Act → World → Prop} : ∀ (l : List Oper) {st st' : St} {orc orc' : List Bool} {obl : List Prop} {a : Act} {w : World} {env : Env}, runOps P Γ ops l st orc = some (st', obl, orc') → AllT obl → Ok cx env st a w →
    (∀ env' a' w', env.le env' → Ok cx env' st' a' w' → Q .normal a' w') → wpList P ops Q l a w
  | [], st, st', orc, orc', obl, a, w, env, h, ho, hk, hQ => by
    simp only [runOps, Option.some.injEq, Prod.mk.injEq] at h
    obtain ⟨rfl, rfl, rfl⟩ := h
    exact hQ env a w (Env.le_refl _) hk
  | o :: rest, st, st', orc, orc', obl, a, w, env, h, ho, hk, hQ => by
    simp only [runOps] at h
    unfold wpList
    split at h
    · rename_i hg
      rw [if_pos (by simp [Region.wanted, hg])]
      split at h
      · rename_i r hr
        split at h
        · rename_i st1 obl1 orc1 h1
          simp only [Option.some.injEq, Prod.mk.injEq] at h
          obtain ⟨rfl, rfl, rfl⟩ := h
          obtain ⟨o1, o2⟩ := AllT.append.1 ho
          exact .inl (stepOp_sound hΓ hr o1 hk (fun env' a' w' hle hk' => runOps_sound hΓ rest h1 o2 hk' (fun env2 a2 w2 hl2 hk2 => hQ env2 a2 w2 (Env.le_trans hle hl2) hk2)))
        · cases h
      · cases h
    · rename_i j want hg
      split at h
      · rename_i d hd
        split at h
        · rename_i hun
          split at h
          · rename_i st1 obl1 orc1 h1
            simp only [Option.some.injEq, Prod.mk.injEq] at h
            obtain ⟨rfl, rfl, rfl⟩ := h
            have hw : Region.wanted o (yielded ops a.tmps) = false := by
              have hv := isUndef_rel hun (getD_tmps hk.tm d)
              have hy : yielded ops a.tmps j = none := by
                unfold yielded
                rw [hd]
                simp only [Option.bind_some]
                rw [Array.getD_eq_getD_getElem?] at hv
                cases hq : a.tmps[d]? with
                | none => rfl
                | some u => rw [hq] at hv; have hv' : u = undef := hv; subst hv'; rfl
              simp [Region.wanted, hg, hy]
            rw [hw, if_neg (by simp)]
            exact runOps_sound hΓ rest h1 ho ⟨by cases o.dst <;> exact hk.defers, put_rel (x := .tup []) (v := undef) hk.tm (undef_rel env) o.dst, hk.mem, hk.long, hk.fix⟩ hQ
          · cases h
        split at h
        · rename_i c tm obl0 orc0 hdec
          have hwant : AllT obl0 → Region.wanted o (yielded ops a.tmps) = (c == want) ∧ AllSV env tm a.tmps.toList := by
            intro ho0
            obtain ⟨h1, h2⟩ := decide?_sound hdec ho0 hk.tm
            refine ⟨?_, h2⟩
            have hv : a.tmps[d]? = some (.bool c) := by
              have h1' : a.tmps.getD d undef = .bool c := h1
              rw [Array.getD_eq_getD_getElem?] at h1'
              cases hq : a.tmps[d]? with
              | none => rw [hq] at h1'; cases h1'
              | some u => rw [hq] at h1'; exact congrArg some h1'
            simp [Region.wanted, hg, yielded, hd, hv]
          split at h
          · rename_i hc
            split at h
            · rename_i r hr
              split at h
              · rename_i st1 obl1 orc1 h1
                simp only [Option.some.injEq, Prod.mk.injEq] at h
                obtain ⟨rfl, rfl, rfl⟩ := h
                obtain ⟨o0, o12⟩ := AllT.append.1 ho
                obtain ⟨o1, o2⟩ := AllT.append.1 o12
                obtain ⟨hw, htm⟩ := hwant o0
                rw [hw, if_pos hc]
                exact .inl (stepOp_sound hΓ hr o1 ⟨hk.defers, htm, hk.mem, hk.long, hk.fix⟩ (fun env' a' w' hle hk' => runOps_sound hΓ rest h1 o2 hk' (fun env2 a2 w2 hl2 hk2 => hQ env2 a2 w2 (Env.le_trans hle hl2) hk2)))
              · cases h
            · cases h
          · rename_i hc
            split at h
            · rename_i st1 obl1 orc1 h1
              simp only [Option.some.injEq, Prod.mk.injEq] at h
              obtain ⟨rfl, rfl, rfl⟩ := h
              obtain ⟨o0, o1⟩ := AllT.append.1 ho
              obtain ⟨hw, htm⟩ := hwant o0
              rw [hw, if_neg hc]
              exact runOps_sound hΓ rest h1 o1 ⟨by cases o.dst <;> exact hk.defers, put_rel (x := .tup []) (v := undef) htm (undef_rel env) o.dst, hk.mem, hk.long, hk.fix⟩ hQ
            · cases h
        · cases h
      · cases h
end
end E
end Go.Proofs.Ytlmeemilikladaa

/- A symbolic run of Go code: the builtins. No condition. -/
import Derived.Test.YtlmeemilikladaaE3
namespace Go.Proofs.Ytlmeemilikladaa
set_option linter.unusedVariables false
set_option linter.unusedSimpArgs false
namespace E
open Go.RowKit
section
variable {P : Program} {env : Env} {mem : List Seg} {w0 w : World} {S : Nat → Prop} {nh : Nat}

/-- The elements that a slice names, with their cells in memory. -/
def srcOf (mem : List Seg) (wd : Nat) : At → Option (Nat × (Nat → List At))
  | .own h => match mem[h]? with
    | some (.ro wd' n g) => if wd' = wd then some (n, g) else none
    | some (.row _ wd' n g) => if wd' = wd then some (n, g) else none
    | _ => none
  | .val (.slice none 0 0) => some (0, fun _ => [])
  | _ => none
theorem srcOf_sound {wd n : Nat} {g : Nat → List At} {x : At} {v : Value} (h : srcOf mem wd x = some (n, g)) (hm : MemOk env mem w0 w S) (hx : x.rel env v) :
    ∃ ao cap cs, v = .slice ao n cap ∧ Elems env wd n g cs ∧ (ao = none → n = 0) ∧ ∀ j u, cs[j]? = some u → ∃ a, ao = some a ∧ w.cell? (a.add j) = some u := by
  unfold srcOf at h
  split at h
  · rename_i hd
    split at h
    · rename_i wd' n' g' hs
      split at h
      · rename_i e
        subst e
        simp only [Option.some.injEq, Prod.mk.injEq] at h
        obtain ⟨rfl, rfl⟩ := h
        obtain ⟨ao, cap, cs, h1, h2, h3, h4, h5, h6⟩ := hm.ok _ _ hs
        have hx1 := hx.1
        rw [h1] at hx1
        obtain rfl := Option.some.inj hx1
        exact ⟨ao, cap, cs, rfl, h5, fun e => (h4 e).1, h6⟩
      · cases h
    · rename_i e wd' n' g' hs
      split at h
      · rename_i ee
        subst ee
        simp only [Option.some.injEq, Prod.mk.injEq] at h
        obtain ⟨rfl, rfl⟩ := h
        obtain ⟨u, cs, h1, h2, h3⟩ := hm.ok _ _ hs
        have hx1 := hx.1
        rw [h1] at hx1
        obtain rfl := Option.some.inj hx1
        have hcells := fun b => h2.cells (g := b)
        rcases h2.2 with ⟨rfl, e0⟩ | ⟨b, cap, cur, rfl, _⟩
        · subst e0
          refine ⟨none, 0, cs, rfl, h3, fun _ => rfl, fun j u hj => ?_⟩
          have := h3.1
          have hlt := (List.getElem?_eq_some_iff.1 hj).1
          omega
        · exact ⟨_, cap, cs, rfl, h3, (fun e => by cases e), fun j u hj => ⟨_, rfl, hcells b rfl j u hj⟩⟩
      · cases h
    · cases h
  · simp only [Option.some.injEq, Prod.mk.injEq] at h
    obtain ⟨rfl, rfl⟩ := h
    cases hx
    exact ⟨none, 0, [], rfl, ⟨by simp, fun i hi => by omega, fun v hv => by cases hv⟩, fun _ => rfl, fun j u hj => by simp at hj⟩
  · cases h

def joinG (n : Nat) (g g2 : Nat → List At) : Nat → List At := fun k => if k < n then g k else g2 (k - n)
theorem Elems.join {wd n m : Nat} {g g2 : Nat → List At} {cs ds : List Value} (h : Elems env wd n g cs) (k : Elems env wd m g2 ds) : Elems env wd (n + m) (joinG n g g2) (cs ++ ds) := by
  refine ⟨by rw [List.length_append, h.1, k.1, Nat.add_mul], fun i hi => ?_, fun v hv => ?_⟩
  · unfold joinG
    by_cases q : i < n
    · rw [if_pos q]
      have hle : i * wd + wd ≤ n * wd := by
        have := Nat.mul_le_mul_right wd (show i + 1 ≤ n by omega)
        rw [Nat.add_mul] at this; omega
      have hx : ((cs ++ ds).drop (i * wd)).take wd = (cs.drop (i * wd)).take wd := by
        apply List.ext_getElem?
        intro k'
        rw [seg_get, seg_get]
        by_cases q2 : k' < wd
        · rw [if_pos q2, if_pos q2, List.getElem?_append_left (by rw [h.1]; omega)]
        · rw [if_neg q2, if_neg q2]
      rw [hx]
      exact h.2.1 i q
    · rw [if_neg q]
      have hx : ((cs ++ ds).drop (i * wd)).take wd = (ds.drop ((i - n) * wd)).take wd := by
        apply List.ext_getElem?
        intro k'
        rw [seg_get, seg_get]
        have hle : n * wd ≤ i * wd := Nat.mul_le_mul_right wd (by omega)
        have e : (i - n) * wd = i * wd - n * wd := Nat.sub_mul i n wd
        by_cases q2 : k' < wd
        · rw [if_pos q2, if_pos q2, List.getElem?_append_right (by rw [h.1]; omega), h.1, e]
          congr 1; omega
        · rw [if_neg q2, if_neg q2]
      rw [hx]
      exact k.2.1 (i - n) (by omega)
  · rcases List.mem_append.1 hv with hv | hv
    · exact h.2.2 v hv
    · exact k.2.2 v hv

theorem run_append_none (t ty e : TypeId) (i : TypeInfo) (ht : P.underlying t = some (.slice e)) (hi : P.info? e = some i) (base : Option Addr) (n cap c : Nat) (hn : n ≤ cap) (w : World) :
    (Builtin.append_ #[t, t] ty #[.slice base n cap, .slice none 0 c]).run P w = .ok (.slice base n cap) w := by
  cases base with
  | none => simp [Builtin.append_, run_underlying ht, sizeOf, typeInfo, hi, Builtin.lenOf, hn, Builtin.firstCells]
  | some a => simp [Builtin.append_, run_underlying ht, sizeOf, typeInfo, hi, Builtin.lenOf, hn, Builtin.firstCells, storeCells]

/-- What stands in a slice with m elements more. -/
def appG (n m : Nat) (g g2 : Nat → List At) : Nat → List At := fun k => if m = 1 then (if k = n then g2 0 else g k) else joinG n g g2 k
theorem appG_eq {n m : Nat} {g g2 : Nat → List At} {k : Nat} (hk : k < n + m) : appG n m g g2 k = joinG n g g2 k := by
  unfold appG joinG
  split
  · rename_i e
    subst e
    split
    · rename_i e; subst e; rw [if_neg (by omega), Nat.sub_self]
    · rw [if_pos (by omega)]
  · rfl
theorem Elems.app {wd n m : Nat} {g g2 : Nat → List At} {cs : List Value} (h : Elems env wd (n + m) (joinG n g g2) cs) : Elems env wd (n + m) (appG n m g g2) cs :=
  ⟨h.1, fun i hi => by rw [appG_eq hi]; exact h.2.1 i hi, h.2.2⟩
def evAppend (P : Program) (t : TypeId) (mem : List Seg) (s x : At) (nh : Nat) : Option (SV × Eff × List Prop) :=
  match P.underlying t with
  | some (.slice e) => match P.info? e, zeroOf P e with
    | some i, some z =>
      if z.cells.size = i.size ∧ 0 < i.size then
        match srcOf mem i.size x with
        | some (m, g2) => match s with
          | .own h => match mem[h]? with
            | some (.row e' wd n g) => if e' = e ∧ wd = i.size ∧ h ≠ nh then some (.nv (.one (.own nh)), .app h (.row e wd (n + m) (appG n m g g2)), [n + m ≤ 4611686018427387904, (n + m) * i.bytes ≤ 140737488355328]) else none
            | _ => none
          | .val (.slice none 0 0) => some (.nv (.one (.own nh)), .new (.row e i.size m g2), [m ≤ 4611686018427387904, m * i.bytes ≤ 140737488355328])
          | _ => none
        | none => none
      else none
    | _, _ => none
  | _ => none

/-- What is appended to: what it owns, and where. -/
theorem append_run {t ty e : TypeId} {i : TypeInfo} {z : Value} (ht : P.underlying t = some (.slice e)) (hi : P.info? e = some i) (hz : zeroOf P e = some z) (hzs : z.cells.size = i.size) (h0 : 0 < i.size)
    {v : Value} {n : Nat} {g : Nat → List At} {cs : List Value} (hown : w.ownsRow 0 e i.size v n cs) (he : Elems env i.size n g cs)
    {m : Nat} {g2 : Nat → List At} {x : At} {xv : Value} (hs : srcOf mem i.size x = some (m, g2)) (hm : MemOk env mem w0 w S) (hx : x.rel env xv) (o1 : n + m ≤ 4611686018427387904) (o2 : (n + m) * i.bytes ≤ 140737488355328) :
    ∃ v' w' ds, (Builtin.append_ #[t, t] ty #[v, xv]).run P w = .ok v' w' ∧ w'.ownsRow 0 e i.size v' (n + m) (cs ++ ds) ∧ Elems env i.size (n + m) (joinG n g g2) (cs ++ ds) ∧ w.grownBy w' v.ownBlock ∧
      (v'.ownBlock = v.ownBlock ∨ v'.ownBlock = some w.heap.size) ∧ (∃ ao k c, v' = .slice ao k c) := by
  have hz' : i.zero = some z := by simpa [zeroOf, hi] using hz
  obtain ⟨ao, cap, ds, rfl, hd, hnil, hcell⟩ := srcOf_sound hs hm hx
  have hj := he.join hd
  cases ao with
  | none =>
    have e0 := hnil rfl
    subst e0
    have hds : ds = [] := List.eq_nil_of_length_eq_zero (by simpa using hd.1)
    subst hds
    have hv : ∃ ao k c, v = .slice ao k c ∧ k ≤ c := by
      rcases hown.2 with ⟨rfl, _⟩ | ⟨b, c, cur, rfl, _, _, hc, _⟩
      · exact ⟨_, _, _, rfl, by omega⟩
      · exact ⟨_, _, _, rfl, hc⟩
    obtain ⟨a', k, c, rfl, hkc⟩ := hv
    exact ⟨_, w, [], run_append_none t ty e i ht hi a' k c cap hkc w, by simpa using hown, hj, ⟨rfl, rfl, rfl, Nat.le_refl _, fun _ _ _ => rfl⟩, .inl rfl, _, _, _, rfl⟩
  | some a =>
    obtain ⟨v', w', r1, r2, r3, r4, r5⟩ := run_append_own_at (P := P) w 0 t ty e i z i.size i.bytes ht hi hz' rfl rfl hzs h0 v n cs hown a m cap ds hd.1 (fun j u hj => by
      obtain ⟨a', ea, hc⟩ := hcell j u hj
      obtain rfl := Option.some.inj ea
      exact hc) hd.2.2 (by unfold maxLen; omega) o2 (Nat.zero_le _)
    refine ⟨v', w', ds, r1, r2, hj, r3, r5, ?_⟩
    rcases r2.2 with ⟨rfl, _⟩ | ⟨b, c, cur, rfl, _⟩
    · exact ⟨_, _, _, rfl⟩
    · exact ⟨_, _, _, rfl⟩

theorem run_evAppend {t ty : TypeId} {s x : At} {sv xv : Value} {r : SV} {eff : Eff} {obl : List Prop} (h : evAppend P t mem s x nh = some (r, eff, obl)) (ho : AllT obl) (hm : MemOk env mem w0 w S) (hg : mem[nh]? = some .gone) (hn : env nh = none)
    (hs : s.rel env sv) (hx : x.rel env xv) : ∃ u env' w', (Builtin.append_ #[t, t] ty #[sv, xv]).run P w = .ok u w' ∧ r.rel env' u ∧ After env env' eff mem w0 w' S nh := by
  unfold evAppend at h
  split at h
  · rename_i e hu
    split at h
    · rename_i i z hi hz
      split at h
      · rename_i hc
        split at h
        · rename_i m g2 hsrc
          split at h
          · rename_i hd
            split at h
            · rename_i e' wd n g hrow
              split at h
              · rename_i hcc
                obtain ⟨rfl, rfl, hne⟩ := hcc
                simp only [Option.some.injEq, Prod.mk.injEq] at h
                obtain ⟨rfl, rfl, rfl⟩ := h
                simp only [AllT, and_true] at ho
                obtain ⟨v, cs, h1, h2, h3⟩ := hm.ok _ _ hrow
                have hs1 := hs.1
                rw [h1] at hs1
                obtain rfl := Option.some.inj hs1
                obtain ⟨v', w', ds, r1, r2, r3, r4, r5, r6⟩ := append_run (ty := ty) hu hi hz hc.1 hc.2 h2 h3 hsrc hm hx ho.1 ho.2
                have hdrop := hm.drop hd
                refine ⟨v', env.put nh v', w', r1, ⟨Env.put_same _ _, r6⟩, Env.le_put hn, fun k hk => Env.put_other _ hk, ?_, (fun h => by cases h), fun _ _ e => by cases e⟩
                refine hdrop.fill2 nh v' _ (by rw [List.getElem?_set_ne hne]; exact hg) hn v.ownBlock r4.os r4.tape r4.output r4.size r4.block ?_ ?_ ?_ ⟨v', _, Env.put_same _ _, r2, r3.app.le (Env.le_put hn)⟩
                · intro k t b hb hk hl
                  by_cases ek : k = hd
                  · subst ek
                    rw [List.getElem?_set_self (List.getElem?_eq_some_iff.1 hrow).1] at hk
                    cases hk
                    exact hl.elim
                  · rw [List.getElem?_set_ne (Ne.symm ek)] at hk
                    refine hm.sep hd k _ t b hrow hk (Ne.symm ek) rfl hl ?_
                    rcases h2.2 with ⟨rfl, _⟩ | ⟨b', c, cur, rfl, _⟩
                    · cases hb
                    · simpa [blk, h1, baseOf, Value.ownBlock] using hb
                · intro b hb
                  refine hm.own hd _ b hrow rfl ?_
                  rcases h2.2 with ⟨rfl, _⟩ | ⟨b', c, cur, rfl, _⟩
                  · cases hb
                  · simpa [blk, h1, baseOf, Value.ownBlock] using hb
                · intro b hb
                  have := own_base r2 hb
                  rcases r5 with e5 | e5
                  · exact .inl (by rw [← e5]; exact this)
                  · rw [e5] at this
                    exact .inr (by simp at this; omega)
              · cases h
            · cases h
          · simp only [Option.some.injEq, Prod.mk.injEq] at h
            obtain ⟨rfl, rfl, rfl⟩ := h
            simp only [AllT, and_true] at ho
            cases hs
            obtain ⟨v', w', ds, r1, r2, r3, r4, r5, r6⟩ := append_run (ty := ty) (v := .slice none 0 0) (n := 0) (g := fun _ => []) (cs := []) hu hi hz hc.1 hc.2 (World.ownsRow_nil w 0 e i.size) ⟨by simp, fun i hi => by omega, fun v hv => by cases hv⟩ hsrc hm hx (by omega) (by simpa using ho.2)
            refine ⟨v', env.put nh v', w', r1, ⟨Env.put_same _ _, r6⟩, Env.le_put hn, fun k hk => Env.put_other _ hk, ?_, (fun h => by cases h), fun _ _ e => by cases e⟩
            have e1 : joinG 0 (fun _ => []) g2 = g2 := by funext k; simp [joinG]
            rw [Nat.zero_add] at r2 r3
            rw [e1] at r3
            refine hm.fill2 nh v' _ hg hn none r4.os r4.tape r4.output r4.size (fun k hk _ => r4.block k hk (by simp [Value.ownBlock])) (fun _ _ _ e => by cases e) (fun _ e => by cases e) ?_ ⟨v', _, Env.put_same _ _, r2, r3.le (Env.le_put hn)⟩
            intro b hb
            have := own_base r2 hb
            rcases r5 with e5 | e5
            · rw [e5] at this; cases this
            · rw [e5] at this
              exact .inr (by simp at this; omega)
          · cases h
        · cases h
      · cases h
    · cases h
  · cases h

/-! len, min, max -/
def evLen (P : Program) (t : TypeId) (mem : List Seg) : NV → Option Int
  | .one (.val (.string s)) => match P.underlying t with | some .string => some s.size | _ => none
  | .one (.val (.slice _ n _)) => match P.underlying t with | some (.slice _) => some n | _ => none
  | .one (.own h) => match P.underlying t, mem[h]? with
    | some (.slice _), some (.ro _ n _) => some n
    | some (.slice _), some (.row _ _ n _) => some n
    | _, _ => none
  | .agg _ => match P.underlying t with | some (.array n _) => some n | _ => none
  | _ => none
theorem run_evLen {t ty : TypeId} {x : NV} {v : Value} {n : Int} (h : evLen P t mem x = some n) (hm : MemOk env mem w0 w S) (hx : x.rel env v) (ts : Array TypeId) (ht : ts[0]? = some t) :
    (Builtin.len_ ts ty #[v]).run P w = .ok (.int .i64 n) w := by
  unfold evLen at h
  unfold Builtin.len_
  rw [ht]
  split at h
  · split at h
    · rename_i s _ hu
      simp only [Option.some.injEq] at h; subst h
      cases hx
      simp [run_underlying hu, goInt]
    · cases h
  · split at h
    · rename_i hu
      simp only [Option.some.injEq] at h; subst h
      cases hx
      simp [run_underlying hu, goInt]
    · cases h
  · split at h
    · rename_i hu hs
      simp only [Option.some.injEq] at h; subst h
      obtain ⟨ao, cap, cs, h1, _⟩ := hm.ok _ _ hs
      have hx1 := hx.1
      rw [h1] at hx1
      obtain rfl := Option.some.inj hx1
      simp [run_underlying hu, goInt]
    · rename_i hu hs
      simp only [Option.some.injEq] at h; subst h
      obtain ⟨u, cs, h1, h2, _⟩ := hm.ok _ _ hs
      have hx1 := hx.1
      rw [h1] at hx1
      obtain rfl := Option.some.inj hx1
      rcases h2.2 with ⟨rfl, rfl⟩ | ⟨b, c, cur, rfl, _⟩
      · simp [run_underlying hu, goInt]
      · simp [run_underlying hu, goInt]
    · cases h
  · split at h
    · rename_i hu
      simp only [Option.some.injEq] at h; subst h
      obtain ⟨cs, rfl, _⟩ := hx
      simp [run_underlying hu, goInt]
    · cases h
  · cases h

def intOf? : SV → Option (IntKind × Int)
  | .nv (.one (.val (.int k a))) => some (k, a)
  | _ => none
theorem intOf?_rel {x : SV} {k : IntKind} {a : Int} {v : Value} (h : intOf? x = some (k, a)) (hx : x.rel env v) : v = .int k a := by
  unfold intOf? at h
  split at h
  · simp only [Option.some.injEq, Prod.mk.injEq] at h
    obtain ⟨rfl, rfl⟩ := h
    exact hx
  · cases h
def intsOf (k : IntKind) : List SV → Option (List Int)
  | [] => some []
  | x :: xs => match intOf? x, intsOf k xs with
    | some (k', a), some l => if k' = k then some (a :: l) else none
    | _, _ => none
theorem intsOf_rel {k : IntKind} : ∀ {xs : List SV} {l : List Int} {vs : List Value}, intsOf k xs = some l → AllSV env xs vs → vs = l.map (.int k)
  | [], l, [], h, _ => by simp only [intsOf, Option.some.injEq] at h; subst h; rfl
  | x :: xs, l, v :: vs, h, hx => by
    unfold intsOf at h
    split at h
    · rename_i k' a l' e1 e2
      split at h
      · rename_i ek
        subst ek
        simp only [Option.some.injEq] at h; subst h
        rw [intOf?_rel e1 hx.1, intsOf_rel e2 hx.2]; rfl
      · cases h
    · cases h
def evFold (f : Int → Int → Int) : List SV → Option (IntKind × Int)
  | [] => none
  | x :: xs => match intOf? x with
    | some (k, a) => match intsOf k xs with
      | some l => some (k, l.foldl f a)
      | none => none
    | none => none
theorem run_evMin {k : IntKind} {n : Int} (ts : Array TypeId) (ty : TypeId) {xs : List SV} {vs : List Value} (h : evFold (fun x y => if y < x then y else x) xs = some (k, n)) (hx : AllSV env xs vs) (w : World) :
    (Builtin.min_ ts ty vs.toArray).run P w = .ok (.int k n) w := by
  cases xs with
  | nil => cases h
  | cons x xs =>
    cases vs with
    | nil => exact hx.elim
    | cons v vs =>
      simp only [evFold] at h
      split at h
      · rename_i k' a e1
        split at h
        · rename_i l e2
          simp only [Option.some.injEq, Prod.mk.injEq] at h
          obtain ⟨rfl, rfl⟩ := h
          rw [intOf?_rel e1 hx.1, intsOf_rel e2 hx.2]
          have key : ∀ (l : List Int) (a : Int), (List.foldlM Builtin.min2 (Value.int k' a) (l.map (Value.int k'))).run P w = .ok (.int k' (l.foldl (fun x y => if y < x then y else x) a)) w := by
            intro l
            induction l with
            | nil => intro a; rfl
            | cons b l ih =>
              intro a
              simp only [List.map_cons, List.foldlM_cons, List.foldl_cons]
              exact ih _
          exact key l a
        · cases h
      · cases h
theorem run_evMax {k : IntKind} {n : Int} (ts : Array TypeId) (ty : TypeId) {xs : List SV} {vs : List Value} (h : evFold (fun x y => if y > x then y else x) xs = some (k, n)) (hx : AllSV env xs vs) (w : World) :
    (Builtin.max_ ts ty vs.toArray).run P w = .ok (.int k n) w := by
  cases xs with
  | nil => cases h
  | cons x xs =>
    cases vs with
    | nil => exact hx.elim
    | cons v vs =>
      simp only [evFold] at h
      split at h
      · rename_i k' a e1
        split at h
        · rename_i l e2
          simp only [Option.some.injEq, Prod.mk.injEq] at h
          obtain ⟨rfl, rfl⟩ := h
          rw [intOf?_rel e1 hx.1, intsOf_rel e2 hx.2]
          have key : ∀ (l : List Int) (a : Int), (List.foldlM Builtin.max2 (Value.int k' a) (l.map (Value.int k'))).run P w = .ok (.int k' (l.foldl (fun x y => if y > x then y else x) a)) w := by
            intro l
            induction l with
            | nil => intro a; rfl
            | cons b l ih =>
              intro a
              simp only [List.map_cons, List.foldlM_cons, List.foldl_cons]
              exact ih _
          exact key l a
        · cases h
      · cases h

/-! slices of texts, and of rows -/
def evSliceStr (s : ByteArray) (lo hi : Option Int) : ByteArray × List Prop :=
  (s.extract (lo.getD 0).toNat (hi.getD s.size).toNat, [0 ≤ lo.getD 0, lo.getD 0 ≤ hi.getD s.size, hi.getD s.size ≤ s.size])
theorem run_evSliceStr {t : TypeId} (hu : P.underlying t = some .string) (s : ByteArray) (lo hi : Option Int) (kl kh : IntKind) {r : ByteArray} {obl : List Prop} (h : evSliceStr s lo hi = (r, obl)) (ho : AllT obl) (w : World) :
    (Instr.sliceAt t (.string s) (lo.map (.int kl)) (hi.map (.int kh)) none).run P w = .ok (.string r) w := by
  unfold evSliceStr at h
  obtain ⟨rfl, rfl⟩ := Prod.mk.inj h
  simp only [AllT, and_true] at ho
  unfold Instr.sliceAt
  simp only [Sem.run_bind, run_underlying hu, Result.andThen_ok]
  unfold Instr.slice
  simp only [Sem.run_bind, run_underlying hu, Result.andThen_ok]
  cases lo <;> cases hi <;> simp_all [Instr.sliceBounds, Instr.sliceBound, asIntOf]
  rw [if_pos (by omega), if_pos (by omega)]
end
end E
end Go.Proofs.Ytlmeemilikladaa

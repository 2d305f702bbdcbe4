/- Ranks: Next, the program's and the document's. No condition. -/
import Derived.Test.YtkgkelfdmkginaaRnE
namespace Go.Proofs.Ytkgkelfdmkginaa
set_option linter.unusedVariables false
set_option linter.unusedSimpArgs false
open Go.RowKit E

theorem fnTwice (n : Nat) (F : Fl) (hn : n ≤ 64) : FnOk Try.prog 21 [.nv (.one (.own 0))] [.ro 5 n (gFl F)] (bA (dup F.id n)) [.ro 5 n (gFl F)] := by
  cases hd : dup F.id n with
  | false =>
    refine tw_no n F hn ?_
    exact count_loop (P := Try.prog) (m0 := 1) (c := loopOf Try.f21 0) (n := n) (fun i => mkSt 22 [(0, .nv (.one (.own 0))), (3, .nv (.one (.own 1))), (6, .nv (.one (.own 0))), (7, iA n), (8, iA i)] [.ro 5 n (gFl F), .row 32 1 i (gU32 F.id)]) (X := .exit 0) (by simp)
      (fun i hi => tw_n n i F hi hn (dup_false hd i hi)) (tw_e n F hn)
  | true =>
    refine tw_yes n F hn ?_
    obtain ⟨i, hi, h2, h3⟩ := dup_true hd
    exact count_loop (P := Try.prog) (m0 := 1) (c := loopOf Try.f21 0) (n := i) (fun i => mkSt 22 [(0, .nv (.one (.own 0))), (3, .nv (.one (.own 1))), (6, .nv (.one (.own 0))), (7, iA n), (8, iA i)] [.ro 5 n (gFl F), .row 32 1 i (gU32 F.id)]) (X := .ret) (by simp)
      (fun k hk => tw_n n k F (by omega) hn (h3 k hk)) (tw_f n i F hi hn h2)
def gTwice : List SV → List Seg → Option (CS × List Prop)
  | [.nv (.one a)], mem => match srcOf mem 5 a with
    | some (n, g, _) => some (⟨[.nv (.one (.own 0))], [.ro 5 n (gFl (flOf g))], bA (dup (flOf g).id n), [.ro 5 n (gFl (flOf g))]⟩, [n ≤ 64])
    | none => none
  | _, _ => none
theorem spTwice : SpOk Try.prog 21 (.lift gTwice) := by
  intro args mem cs obl h ho
  unfold gTwice at h
  split at h
  · split at h
    · simp only [Option.some.injEq, Prod.mk.injEq] at h
      obtain ⟨rfl, rfl⟩ := h
      exact fnTwice _ _ ho.1
    · cases h
  · cases h

/-- What Next gives: the rank, the error, the tags. -/
def nextR (k : Int) (F : Fl) (T : Nat → Int) (v now x : Int) (n : Nat) : Int :=
  if idx F.id x n < 0 then 0 else if k = 1 then mxU v (T (idx F.id x n).toNat) else if k = 2 then capU (now + F.bu (idx F.id x n).toNat) else T (idx F.id x n).toNat
def nextE (F : Fl) (x : Int) (n : Nat) : Int := if idx F.id x n < 0 then 13 else 0
def nextT (k : Int) (F : Fl) (T : Nat → Int) (v x m : Int) (n : Nat) : Nat → Int := fun i =>
  if (i : Int) = idx F.id x n then (if k = 1 then capU (mxU v (T i) + capU (F.co i * m)) else if k = 2 then T i else subU (T i) m) else T i
def u64B (x : Int) : Prop := 0 ≤ x ∧ x ≤ 18446744073709551615
def rkB (n : Nat) (F : Fl) (T : Nat → Int) : Prop := ∀ i, i < n → u64B (T i) ∧ u64B (F.co i) ∧ u64B (F.bu i) ∧ u64B (F.si i)
abbrev rkBox (k v : Int) : List At := [.val (.int .i64 k), .own 1, .own 2, .val (.int .u64 v)]
abbrev rkBox3 (k v : Int) : List At := [.val (.int .i64 k), .own 1, .own 3, .val (.int .u64 v)]
abbrev nextA (now x m : Int) : List SV := [.nv (.one (.ptr 0 0)), uA now, .nv (.one (.val (.int .u32 x))), uA m]
abbrev pairS (r e : Int) : SV := .tup [.one (.val (.int .u64 r)), .one (.val (.int .i64 e))]

section
variable (n : Nat) (F : Fl) (T : Nat → Int) (k v now x m : Int) (h1 : 1 ≤ n) (hn : n ≤ 64) (hk : 1 ≤ k ∧ k ≤ 3) (hv : u64B v) (hw : u64B now) (hm : u64B m) (hb : rkB n F T)
include h1 hn hk hv hw hm hb
theorem fnNext : FnOk Try.prog 10 (nextA now x m) [.robox 60 (rkBox k v), .ro 5 n (gFl F), .row 31 1 n (gU64 T)]
    (pairS (nextR k F T v now x n) (nextE F x n)) [.robox 60 (rkBox k v), .ro 5 n (gFl F), .row 31 1 n (gU64 (nextT k F T v x m n))] := by
  rcases idx_cases F.id x n with h | ⟨a, h⟩
  · have e1 : nextT k F T v x m n = T := by funext i; unfold nextT; rw [h, if_neg (by omega)]
    have e2 : nextR k F T v now x n = 0 := by unfold nextR; rw [h]; rfl
    have e3 : nextE F x n = 13 := by unfold nextE; rw [h]; rfl
    rw [e1, e2, e3]
    exact nx_none n F T v now x m h1 hn k h
  · have ha := (idx_some h).1
    obtain ⟨b1, b2, b3, b4⟩ := hb a ha
    have e3 : nextE F x n = 0 := by unfold nextE; rw [h, if_neg (by omega)]
    rw [e3]
    by_cases k1 : k = 1
    · subst k1
      have e1 : nextT 1 F T v x m n = fun i => if i = a then capU (mxU v (T a) + capU (F.co a * m)) else T i := by
        funext i; unfold nextT; rw [h]
        by_cases q : i = a
        · subst q; simp
        · rw [if_neg (by omega), if_neg q]
      have e2 : nextR 1 F T v now x n = mxU v (T a) := by unfold nextR; rw [h, if_neg (by omega), if_pos rfl, Int.toNat_natCast]
      rw [e1, e2]
      exact nx_1 n F T v now x m h1 hn a ha h hv b1 b2 b3 hm hw
    · by_cases k2 : k = 2
      · subst k2
        have e1 : nextT 2 F T v x m n = T := by
          funext i; unfold nextT; rw [h]
          by_cases q : i = a
          · subst q; simp
          · rw [if_neg (by omega)]
        have e2 : nextR 2 F T v now x n = capU (now + F.bu a) := by unfold nextR; rw [h, if_neg (by omega), if_neg (by omega), if_pos rfl, Int.toNat_natCast]
        rw [e1, e2]
        exact nx_2 n F T v now x m h1 hn a ha h hv b1 b2 b3 hm hw
      · obtain rfl : k = 3 := by omega
        have e1 : nextT 3 F T v x m n = fun i => if i = a then subU (T a) m else T i := by
          funext i; unfold nextT; rw [h]
          by_cases q : i = a
          · subst q; simp
          · rw [if_neg (by omega), if_neg q]
        have e2 : nextR 3 F T v now x n = T a := by unfold nextR; rw [h, if_neg (by omega), if_neg (by omega), if_neg (by omega), Int.toNat_natCast]
        rw [e1, e2]
        exact nx_3 n F T v now x m h1 hn a ha h hv b1 b2 b3 hm hw
theorem fnRNext : FnOk Try.prog 18 (nextA now x m) [.box 50 (rkBox k v), .ro 5 n (gFl F), .row 31 1 n (gU64 T)]
    (pairS (nextR k F T v now x n) (nextE F x n)) [.box 50 (rkBox3 k v), .ro 5 n (gFl F), .gone, .row 31 1 n (gU64 (nextT k F T v x m n))] := by
  rcases idx_cases F.id x n with h | ⟨a, h⟩
  · have e1 : nextT k F T v x m n = T := by funext i; unfold nextT; rw [h, if_neg (by omega)]
    have e2 : nextR k F T v now x n = 0 := by unfold nextR; rw [h]; rfl
    have e3 : nextE F x n = 13 := by unfold nextE; rw [h]; rfl
    rw [e1, e2, e3]
    exact rx_none n F T v now x m h1 hn k h
  · have ha := (idx_some h).1
    obtain ⟨b1, b2, b3, b4⟩ := hb a ha
    have e3 : nextE F x n = 0 := by unfold nextE; rw [h, if_neg (by omega)]
    rw [e3]
    by_cases k1 : k = 1
    · subst k1
      have e1 : nextT 1 F T v x m n = fun i => if i = a then capU (mxU v (T a) + capU (F.co a * m)) else T i := by
        funext i; unfold nextT; rw [h]
        by_cases q : i = a
        · subst q; simp
        · rw [if_neg (by omega), if_neg q]
      have e2 : nextR 1 F T v now x n = mxU v (T a) := by unfold nextR; rw [h, if_neg (by omega), if_pos rfl, Int.toNat_natCast]
      rw [e1, e2]
      by_cases g : T a < v
      · have e4 : mxU v (T a) = v := if_neg (by omega)
        rw [e4]
        exact rx_1a n F T v now x m h1 hn a ha h hv b1 b2 b3 hm hw g
      · have e4 : mxU v (T a) = T a := by unfold mxU; split <;> omega
        rw [e4]
        exact rx_1b n F T v now x m h1 hn a ha h hv b1 b2 b3 hm hw (by omega)
    · by_cases k2 : k = 2
      · subst k2
        have e1 : nextT 2 F T v x m n = T := by
          funext i; unfold nextT; rw [h]
          by_cases q : i = a
          · subst q; simp
          · rw [if_neg (by omega)]
        have e2 : nextR 2 F T v now x n = capU (now + F.bu a) := by unfold nextR; rw [h, if_neg (by omega), if_neg (by omega), if_pos rfl, Int.toNat_natCast]
        rw [e1, e2]
        exact rx_2 n F T v now x m h1 hn a ha h hv b1 b2 b3 hm hw
      · obtain rfl : k = 3 := by omega
        have e1 : nextT 3 F T v x m n = fun i => if i = a then subU (T a) m else T i := by
          funext i; unfold nextT; rw [h]
          by_cases q : i = a
          · subst q; simp
          · rw [if_neg (by omega), if_neg q]
        have e2 : nextR 3 F T v now x n = T a := by unfold nextR; rw [h, if_neg (by omega), if_neg (by omega), if_neg (by omega), Int.toNat_natCast]
        rw [e1, e2]
        exact rx_3 n F T v now x m h1 hn a ha h hv b1 b2 b3 hm hw
end
def rkObl (n n' : Nat) (k v : Int) (F : Fl) (T : Nat → Int) : List Prop := [n = n', 1 ≤ n, n ≤ 64, 1 ≤ k, k ≤ 3, u64B v, rkB n F T]
/-- What lies at a pointer: kind, virtual time, flows, tags. -/
def rkAt (mem : List Seg) (h : Nat) : Option (Int × Int × (Nat × (Nat → List At)) × (Nat × (Nat → List At))) :=
  match boxAt mem h with
  | some [.val (.int .i64 k), af, at', .val (.int .u64 v)] => match srcOf mem 5 af, srcOf mem 1 at' with
    | some (n, gf, _), some (n', gt, _) => some (k, v, (n, gf), (n', gt))
    | _, _ => none
  | _ => none
def gNext : List SV → List Seg → Option (CS × List Prop)
  | [.nv (.one (.ptr h 0)), .nv (.one (.val (.int .u64 now))), .nv (.one (.val (.int .u32 x))), .nv (.one (.val (.int .u64 m)))], mem => match rkAt mem h with
    | some (k, v, (n, gf), (n', gt)) => some (⟨nextA now x m, [.robox 60 (rkBox k v), .ro 5 n (gFl (flOf gf)), .row 31 1 n' (gU64 (colOf gt))],
      pairS (nextR k (flOf gf) (colOf gt) v now x n) (nextE (flOf gf) x n), [.robox 60 (rkBox k v), .ro 5 n (gFl (flOf gf)), .row 31 1 n' (gU64 (nextT k (flOf gf) (colOf gt) v x m n))]⟩, u64B now :: u64B m :: rkObl n n' k v (flOf gf) (colOf gt))
    | none => none
  | _, _ => none
theorem spNext : SpOk Try.prog 10 (.lift gNext) := by
  intro args mem cs obl h ho
  unfold gNext at h
  split at h
  · split at h
    · simp only [Option.some.injEq, Prod.mk.injEq] at h
      obtain ⟨rfl, rfl⟩ := h
      obtain ⟨o1, o2, rfl, o3, o4, o5, o6, o7, o8, _⟩ := ho
      exact fnNext _ _ _ _ _ _ _ _ o3 o4 ⟨o5, o6⟩ o7 o1 o2 o8
    · cases h
  · cases h
def gRNext : List SV → List Seg → Option (CS × List Prop)
  | [.nv (.one (.ptr h 0)), .nv (.one (.val (.int .u64 now))), .nv (.one (.val (.int .u32 x))), .nv (.one (.val (.int .u64 m)))], mem => match rkAt mem h with
    | some (k, v, (n, gf), (n', gt)) => some (⟨nextA now x m, [.box 50 (rkBox k v), .ro 5 n (gFl (flOf gf)), .row 31 1 n' (gU64 (colOf gt))],
      pairS (nextR k (flOf gf) (colOf gt) v now x n) (nextE (flOf gf) x n), [.box 50 (rkBox3 k v), .ro 5 n (gFl (flOf gf)), .gone, .row 31 1 n' (gU64 (nextT k (flOf gf) (colOf gt) v x m n))]⟩, u64B now :: u64B m :: rkObl n n' k v (flOf gf) (colOf gt))
    | none => none
  | _, _ => none
theorem spRNext : SpOk Try.prog 18 (.lift gRNext) := by
  intro args mem cs obl h ho
  unfold gRNext at h
  split at h
  · split at h
    · simp only [Option.some.injEq, Prod.mk.injEq] at h
      obtain ⟨rfl, rfl⟩ := h
      obtain ⟨o1, o2, rfl, o3, o4, o5, o6, o7, o8, _⟩ := ho
      exact fnRNext _ _ _ _ _ _ _ _ o3 o4 ⟨o5, o6⟩ o7 o1 o2 o8
    · cases h
  · cases h
def tag0 (k : Int) (F : Fl) : Nat → Int := fun i => if k = 3 then F.si i else 0
def Gnx : List (FuncId × Sp) := (21, .lift gTwice) :: (10, .lift gNext) :: (18, .lift gRNext) :: Grq
theorem Gnx_ok : CtxOk Try.prog Gnx := ctx_cons (enter_of Try.func21 (by kernel_rfl) (by kernel_rfl)) spTwice <| ctx_cons (enter_of Try.func10 (by kernel_rfl) (by kernel_rfl)) spNext <|
  ctx_cons (enter_of Try.func18 (by kernel_rfl) (by kernel_rfl)) spRNext Grq_ok
end Go.Proofs.Ytkgkelfdmkginaa

/- mail: Some, and the document's box, as specifications. No condition. -/
import Derived.Test.YtajdkbgbekdbmaaMlM
import Derived.Test.YtajdkbgbekdbmaaED
namespace Go.Proofs.Ytajdkbgbekdbmaa
set_option linter.unusedVariables false
set_option linter.unusedSimpArgs false
open Go.RowKit E
theorem count_loop {P : Program} {m0 : Nat} {c : Code} (S : Nat → E.St) {X : Ex} {E0 : E.St} {n : Nat} (hX : X ≠ .normal)
    (next : ∀ k, k < n → CodeOk P m0 c (S k) .normal (S (k + 1))) (fin : CodeOk P m0 c (S n) X E0) : CodeOk P m0 (.loop c) (S 0) X E0 := by
  refine loop_ok (α := Nat) S (fun k => k ≤ n) (fun k => n - k) hX ?_ (x := 0) (Nat.zero_le _)
  intro k hk
  by_cases e : k = n
  · subst e; exact .inr fin
  · exact .inl ⟨k + 1, (by omega : k + 1 ≤ n), (by omega : n - (k + 1) < n - k), next k (by omega)⟩
/-- The numbers of a row, the numbers of a list. -/
def cN : List At → Int
  | [.val (.int _ n)] => n
  | _ => 0
abbrev gN (T : Nat → Int) : Nat → List At := (fun i => [.val (.int .i64 (T i))])
def nOf (g : Nat → List At) : Nat → Int := fun i => cN (g i)
abbrev vI (x : Int) : Value := .int .i64 x
def lT (L : List Int) : Nat → Int := fun i => L.getD i 0
theorem lT_app {L : List Int} {x : Int} : lT (L ++ [x]) L.length = x ∧ ∀ i, i < L.length → lT L i = lT (L ++ [x]) i := by
  refine ⟨by simp [lT], fun i hi => ?_⟩
  simp only [lT, List.getD_eq_getElem?_getD]
  rw [List.getElem?_append_left hi]
theorem lT_take {L : List Int} {k : Nat} (h : k < L.length) : lT (L.take (k + 1)) k = lT L k ∧ ∀ i, i < k → lT (L.take k) i = lT (L.take (k + 1)) i := by
  refine ⟨?_, fun i hi => ?_⟩
  · simp [lT, List.getD_eq_getElem?_getD, List.getElem?_take]
  · simp only [lT, List.getD_eq_getElem?_getD, List.getElem?_take]
    rw [if_pos hi, if_pos (by omega)]
/-- How many Some takes. -/
def smK (n : Int) (L : List Int) : Nat := min n.toNat L.length
theorem some_loop (n : Int) (sh : Bool) (cap : Nat) (L : List Int) (hL : L.length ≤ 50000) : ∀ (f k : Nat), k ≤ smK n L → smK n L ≤ k + f → LoopOk Try.prog 2 (loopOf Try.f15 0)
    (mkSt 24 [(0, pz), (1, iA n), (5, .nv (.one (.own 2)))] [.box 56 [.chn 1, .val (.bool sh)], .chan cap ((L.drop k).map vI) sh, .row 3 1 k (fun i => [.val (.int .i64 (lT (L.take k) i))])]) (.exit 0)
    (mkSt 24 [(5, .nv (.one (.own 2)))] [.box 56 [.chn 1, .val (.bool sh)], .chan cap ((L.drop (smK n L)).map vI) sh, .row 3 1 (smK n L) (fun i => [.val (.int .i64 (lT (L.take (smK n L)) i))])])
  | 0, k, h1, h2 => by
    have e : k = smK n L := by omega
    subst e
    have hb : smK n L ≤ L.length := Nat.min_le_right _ _
    by_cases hn : ((smK n L : Nat) : Int) < n
    · have e2 : smK n L = L.length := by
        unfold smK at hn ⊢
        omega
      have ed : L.drop (smK n L) = [] := by rw [e2]; simp
      rw [ed]
      exact .last (by simp) (some_b n _ sh cap _ (by omega) hn)
    · exact .last (by simp) (some_e n _ sh cap _ (by omega) _ hn)
  | f + 1, k, h1, h2 => by
    by_cases e : k = smK n L
    · exact some_loop n sh cap L hL 0 k h1 (by omega)
    · have hb : smK n L ≤ L.length := Nat.min_le_right _ _
      have hn : (k : Int) < n := by
        have : smK n L ≤ n.toNat := Nat.min_le_left _ _
        omega
      have hk : k < L.length := by omega
      have ed : (L.drop k).map vI = .int .i64 (lT L k) :: (L.drop (k + 1)).map vI := by
        rw [List.drop_eq_getElem_cons hk, List.map_cons]
        simp [lT, List.getD_eq_getElem?_getD, List.getElem?_eq_getElem hk]
      rw [ed]
      obtain ⟨t1, t2⟩ := lT_take hk
      exact .step (some_r n k sh cap _ (by omega) _ _ _ hn t1 t2) (some_loop n sh cap L hL f (k + 1) (by omega) (by omega))
theorem fnSome (n : Int) (sh : Bool) (cap : Nat) (L : List Int) (hL : L.length ≤ 50000) : FnOk Try.prog 15 [pz, iA n] (mbMI sh cap (L.map vI) sh) (.nv (.one (.own 2)))
    [.box 56 [.chn 1, .val (.bool sh)], .chan cap ((L.drop (smK n L)).map vI) sh, .row 3 1 (smK n L) (gN (lT (L.take (smK n L))))] := by
  refine some_f n sh cap (L.map vI) _ _ _ ?_
  exact (some_loop n sh cap L hL (smK n L) 0 (Nat.zero_le _) (by omega)).code
theorem fnSame (N : Nat) (F G : Nat → Int) (hN : N ≤ 1000000) (h : ∀ i, i < N → F i = G i) : FnOk Try.prog 11 [.nv (.one (.own 0)), .nv (.one (.own 1))] [.ro 1 N (gN F), .ro 1 N (gN G)] (bA true) [.gone, .gone] := by
  refine smt N F G hN ?_
  exact count_loop (P := Try.prog) (m0 := 2) (c := loopOf Try.f11 0) (n := N) (fun i => mkSt 26 [(0, .nv (.one (.own 0))), (1, .nv (.one (.own 1))), (5, iA i)] [.ro 1 N (fun i => [.val (.int .i64 (F i))]), .ro 1 N (fun i => [.val (.int .i64 (G i))])]) (X := .exit 0) (by simp) (fun i hi => smr N i F G hN hi (h i hi)) (sme N F G hN)
def sameN (N : Nat) (F G : Nat → Int) : Prop := ∀ i, i < N → F i = G i
def gSame35 : List SV → List Seg → Option (CS × List Prop)
  | [.nv (.one a), .nv (.one b)], mem => match srcOf mem 1 a, srcOf mem 1 b with
    | some (n, g, _), some (m, g', _) => some (⟨[.nv (.one (.own 0)), .nv (.one (.own 1))], [.ro 1 n (gN (nOf g)), .ro 1 n (gN (nOf g'))], bA true, [.gone, .gone]⟩, [m = n, n ≤ 1000000, sameN n (nOf g) (nOf g')])
    | _, _ => none
  | _, _ => none
theorem spSame35 : SpOk Try.prog 11 (.lift gSame35) := by
  intro args mem cs obl h ho
  unfold gSame35 at h
  split at h
  · split at h
    · simp only [Option.some.injEq, Prod.mk.injEq] at h
      obtain ⟨rfl, rfl⟩ := h
      exact fnSame _ _ _ ho.2.1 ho.2.2.1
    · cases h
  · cases h
def gMay35 : List SV → Option (SV × List Prop)
  | [.nv (.one (.val (.int .i64 n)))] => some (bA (decide (1 ≤ n ∧ n ≤ 4096)), [])
  | _ => none
theorem spMay35 : SpOk Try.prog 12 (pureS gMay35) := pureS_ok (by
  intro args r obl h ho
  unfold gMay35 at h
  split at h
  · rename_i n
    simp only [Option.some.injEq, Prod.mk.injEq] at h
    obtain ⟨rfl, rfl⟩ := h
    refine ⟨rfl, rfl, ?_⟩
    by_cases h1 : n < 1
    · rw [decide_eq_false (by omega)]; exact may_lo n h1
    by_cases h2 : 4096 < n
    · rw [decide_eq_false (by omega)]; exact may_hi n h2
    · rw [decide_eq_true (by omega)]; exact may_ok n (by omega) (by omega)
  · cases h)
abbrev rbM (m : Int) (sh : Bool) (n : Nat) (T : Nat → Int) : List Seg := [.box 38 [.val (.int .i64 m), .val (.bool sh), .own 1], .row 3 1 n (gN T)]
abbrev rbN (m : Int) (sh : Bool) (n : Nat) (T : Nat → Int) : List Seg := [.box 38 [.val (.int .i64 m), .val (.bool sh), .own 2], .gone, .row 3 1 n (gN T)]
def rbAt (mem : List Seg) (h : Nat) : Option (Int × Bool × Nat × (Nat → List At)) :=
  match boxAt mem h with
  | some [.val (.int .i64 m), .val (.bool sh), a] => match srcOf mem 1 a with
    | some (n, g, _) => some (m, sh, n, g)
    | none => none
  | _ => none
def rsB (m : Int) (sh : Bool) (n : Nat) : Bool := !sh && decide ((n : Int) < m)
def rsN (m : Int) (sh : Bool) (n : Nat) : Nat := if rsB m sh n = true then n + 1 else n
def rsT (m : Int) (sh : Bool) (n : Nat) (T : Nat → Int) (x : Int) : Nat → Int := if rsB m sh n = true then fun i => if i = n then x else T i else T
theorem fnRSend (m x : Int) (sh : Bool) (n : Nat) (T : Nat → Int) (hn : n ≤ 100000) : FnOk Try.prog 18 [pz, iA x] (rbM m sh n T) (bA (rsB m sh n)) (rbN m sh (rsN m sh n) (rsT m sh n T x)) := by
  unfold rsN rsT rsB
  cases sh
  · by_cases h : (n : Int) < m
    · rw [show (!false && decide ((n : Int) < m)) = true by simp [h], if_pos rfl, if_pos rfl]
      exact rsnd_y m x n T _ h hn (if_pos rfl) (fun i hi => (if_neg (by omega)).symm)
    · rw [show (!false && decide ((n : Int) < m)) = false by simp [h], if_neg (by simp), if_neg (by simp)]
      exact rsnd_f m x n T h
  · rw [show (!true && decide ((n : Int) < m)) = false by simp, if_neg (by simp), if_neg (by simp)]
    exact rsnd_sh m x n T
def gRSend35 : List SV → List Seg → Option (CS × List Prop)
  | [.nv (.one (.ptr h 0)), .nv (.one (.val (.int .i64 x)))], mem => match rbAt mem h with
    | some (m, sh, n, g) => some (⟨[pz, iA x], rbM m sh n (nOf g), bA (rsB m sh n), rbN m sh (rsN m sh n) (rsT m sh n (nOf g) x)⟩, [n ≤ 100000])
    | none => none
  | _, _ => none
theorem spRSend35 : SpOk Try.prog 18 (.lift gRSend35) := by
  intro args mem cs obl h ho
  unfold gRSend35 at h
  split at h
  · split at h
    · simp only [Option.some.injEq, Prod.mk.injEq] at h
      obtain ⟨rfl, rfl⟩ := h
      exact fnRSend _ _ _ _ _ ho.1
    · cases h
  · cases h
def rtX (n : Nat) (T : Nat → Int) : Int := if n = 0 then 0 else T 0
def rtI (n : Nat) : Bool := decide (0 < n)
def rtT (n : Nat) (T : Nat → Int) : Nat → Int := if n = 0 then T else fun i => T (i + 1)
theorem fnRTake (m : Int) (sh : Bool) (n : Nat) (T : Nat → Int) (hn : n ≤ 100000) : FnOk Try.prog 14 [pz] (rbM m sh n T) (.tup [.one (.val (.int .i64 (rtX n T))), .one (.val (.bool (rtI n)))]) (rbN m sh (n - 1) (rtT n T)) := by
  unfold rtX rtI rtT
  cases n with
  | zero => exact rtak_0 m sh T
  | succ n =>
    rw [if_neg (by omega), if_neg (by omega), decide_eq_true (by omega)]
    exact rtak_y m sh n T _ (by omega) (fun _ _ => rfl)
def gRTake35 : List SV → List Seg → Option (CS × List Prop)
  | [.nv (.one (.ptr h 0))], mem => match rbAt mem h with
    | some (m, sh, n, g) => some (⟨[pz], rbM m sh n (nOf g), .tup [.one (.val (.int .i64 (rtX n (nOf g)))), .one (.val (.bool (rtI n)))], rbN m sh (n - 1) (rtT n (nOf g))⟩, [n ≤ 100000])
    | none => none
  | _, _ => none
theorem spRTake35 : SpOk Try.prog 14 (.lift gRTake35) := by
  intro args mem cs obl h ho
  unfold gRTake35 at h
  split at h
  · split at h
    · simp only [Option.some.injEq, Prod.mk.injEq] at h
      obtain ⟨rfl, rfl⟩ := h
      exact fnRTake _ _ _ _ ho.1
    · cases h
  · cases h
def Gml2 : List (FuncId × Sp) := (7, pureS gLv35) :: (11, .lift gSame35) :: (12, pureS gMay35) :: (18, .lift gRSend35) :: (14, .lift gRTake35) :: Gml1
theorem Gml2_ok : CtxOk Try.prog Gml2 := ctx_cons (enter_of Try.func7 (by kernel_rfl) (by kernel_rfl)) spLv35 <|
  ctx_cons (enter_of Try.func11 (by kernel_rfl) (by kernel_rfl)) spSame35 <|
  ctx_cons (enter_of Try.func12 (by kernel_rfl) (by kernel_rfl)) spMay35 <|
  ctx_cons (enter_of Try.func18 (by kernel_rfl) (by kernel_rfl)) spRSend35 <|
  ctx_cons (enter_of Try.func14 (by kernel_rfl) (by kernel_rfl)) spRTake35 Gml1_ok
end Go.Proofs.Ytajdkbgbekdbmaa

/- mail: both Somes as specifications. No condition. -/
import Derived.Test.YtajdkbgbekdbmaaMlO
namespace Go.Proofs.Ytajdkbgbekdbmaa
set_option linter.unusedVariables false
set_option linter.unusedSimpArgs false
open Go.RowKit E
def shT (T : Nat → Int) (k : Nat) : Nat → Int := fun i => T (i + k)
def smN (n : Int) (q : Nat) : Nat := min n.toNat q
theorem rsome_loop (n m : Int) (sh : Bool) (T : Nat → Int) (q : Nat) (hq : q ≤ 50000) : ∀ (f k : Nat), k ≤ smN n q → smN n q ≤ k + f → LoopOk Try.prog 2 (loopOf Try.f16 0)
    (mkSt 30 [(0, pz), (1, iA n), (5, .nv (.one (.own 2)))] [.box 38 [.val (.int .i64 m), .val (.bool sh), .own 3], .gone, .row 3 1 k (gN T), .row 3 1 (q - k) (gN (shT T k))]) (.exit 0) (mkSt 30 [(5, .nv (.one (.own 2)))] [.box 38 [.val (.int .i64 m), .val (.bool sh), .own 3], .gone, .row 3 1 (smN n q) (gN T), .row 3 1 (q - smN n q) (gN (shT T (smN n q)))])
  | 0, k, h1, h2 => by
    have e : k = smN n q := by omega
    subst e
    have hb : smN n q ≤ q := Nat.min_le_right _ _
    by_cases h0 : q - smN n q = 0
    · rw [h0]
      exact .last (by simp) (rsm_b n m sh _ _ _ (by omega))
    · have hn : ¬ ((smN n q : Nat) : Int) < n := by unfold smN at h0 ⊢; omega
      exact .last (by simp) (rsm_e n m sh _ _ _ (by omega) _ (by omega) (by omega) hn)
  | f + 1, k, h1, h2 => by
    by_cases e : k = smN n q
    · exact rsome_loop n m sh T q hq 0 k h1 (by omega)
    · have hb : smN n q ≤ q := Nat.min_le_right _ _
      have hn : (k : Int) < n := by
        have : smN n q ≤ n.toNat := Nat.min_le_left _ _
        omega
      obtain ⟨p, hp⟩ : ∃ p, q - k = p + 1 := ⟨q - k - 1, by omega⟩
      have hp2 : q - (k + 1) = p := by omega
      refine .step ?_ (rsome_loop n m sh T q hq f (k + 1) (by omega) (by omega))
      rw [hp, hp2]
      refine rsm_r n m sh k T (shT T k) (by omega) p (by omega) T (shT T (k + 1)) hn ?_ (fun _ _ => rfl) (fun i _ => ?_)
      · unfold rtX shT; rw [if_neg (by omega), Nat.zero_add]
      · unfold rtT shT
        rw [if_neg (by omega)]
        show T (i + 1 + k) = T (i + (k + 1))
        congr 1; omega
theorem fnRSome (n m : Int) (sh : Bool) (T : Nat → Int) (q : Nat) (hq : q ≤ 50000) : FnOk Try.prog 16 [pz, iA n] (rbM m sh q T) (.nv (.one (.own 2)))
    [.box 38 [.val (.int .i64 m), .val (.bool sh), .own 3], .gone, .row 3 1 (smN n q) (gN T), .row 3 1 (q - smN n q) (gN (shT T (smN n q)))] := by
  refine rsm_f n m sh _ q _ T T _ ?_
  have h := (rsome_loop n m sh T q hq (smN n q) 0 (Nat.zero_le _) (by omega)).code
  have e : shT T 0 = T := rfl
  rw [e, Nat.sub_zero] at h
  exact h
def gRSome : List SV → List Seg → Option (CS × List Prop)
  | [.nv (.one (.ptr h 0)), .nv (.one (.val (.int .i64 n)))], mem => match rbAt mem h with
    | some (m, sh, q, g) => some (⟨[pz, iA n], rbM m sh q (nOf g), .nv (.one (.own 2)), [.box 38 [.val (.int .i64 m), .val (.bool sh), .own 3], .gone, .row 3 1 (smN n q) (gN (nOf g)), .row 3 1 (q - smN n q) (gN (shT (nOf g) (smN n q)))]⟩, [q ≤ 50000])
    | none => none
  | _, _ => none
theorem spRSome : SpOk Try.prog 16 (.lift gRSome) := by
  intro args mem cs obl h ho
  unfold gRSome at h
  split at h
  · split at h
    · simp only [Option.some.injEq, Prod.mk.injEq] at h
      obtain ⟨rfl, rfl⟩ := h
      exact fnRSome _ _ _ _ _ ho.1
    · cases h
  · cases h
/-- The numbers that lie in a channel. -/
def unL (b : List Value) : List Int := b.map fun v => match v with | .int _ n => n | _ => 0
theorem unL_map (L : List Int) : unL (L.map vI) = L := by
  unfold unL
  rw [List.map_map]
  exact List.map_id _
def gSomeI : List SV → List Seg → Option (CS × List Prop)
  | [.nv (.one (.ptr h 0)), .nv (.one (.val (.int .i64 n)))], mem => match mbAt mem h with
    | some (sh, cap, buf, cl) => some (⟨[pz, iA n], mbMI sh cap ((unL buf).map vI) sh, .nv (.one (.own 2)), [.box 56 [.chn 1, .val (.bool sh)], .chan cap (((unL buf).drop (smK n (unL buf))).map vI) sh, .row 3 1 (smK n (unL buf)) (gN (lT ((unL buf).take (smK n (unL buf)))))]⟩, [(unL buf).length ≤ 50000])
    | none => none
  | _, _ => none
theorem spSomeI : SpOk Try.prog 15 (.lift gSomeI) := by
  intro args mem cs obl h ho
  unfold gSomeI at h
  split at h
  · split at h
    · simp only [Option.some.injEq, Prod.mk.injEq] at h
      obtain ⟨rfl, rfl⟩ := h
      exact fnSome _ _ _ _ ho.1
    · cases h
  · cases h
def gMNewE : List SV → List Seg → Option (CS × List Prop)
  | [.nv (.one (.val (.int .i64 n)))], _ => some (⟨[iA n], [], .tup [.one (.val (.pointer none)), .one (.val (.int .i64 25))], []⟩, [n < 1 ∨ 4096 < n])
  | _, _ => none
theorem spMNewE : SpOk Try.prog 8 (.lift gMNewE) := by
  intro args mem cs obl h ho
  unfold gMNewE at h
  split at h
  · simp only [Option.some.injEq, Prod.mk.injEq] at h
    obtain ⟨rfl, rfl⟩ := h
    rcases ho.1 with h | h
    · exact mnew_loI _ h
    · exact mnew_hiI _ h
  · cases h
def Gml3 : List (FuncId × Sp) := (16, .lift gRSome) :: (15, .lift gSomeI) :: Gml2
theorem Gml3_ok : CtxOk Try.prog Gml3 := ctx_cons (enter_of Try.func16 (by kernel_rfl) (by kernel_rfl)) spRSome <|
  ctx_cons (enter_of Try.func15 (by kernel_rfl) (by kernel_rfl)) spSomeI Gml2_ok
def Gmk : List (FuncId × Sp) := (8, .lift gMNewI) :: Gml3
theorem Gmk_ok : CtxOk Try.prog Gmk := ctx_cons (enter_of Try.func8 (by kernel_rfl) (by kernel_rfl)) spMNewI Gml3_ok
def Gme : List (FuncId × Sp) := (8, .lift gMNewE) :: Gml3
theorem Gme_ok : CtxOk Try.prog Gme := ctx_cons (enter_of Try.func8 (by kernel_rfl) (by kernel_rfl)) spMNewE Gml3_ok
end Go.Proofs.Ytajdkbgbekdbmaa

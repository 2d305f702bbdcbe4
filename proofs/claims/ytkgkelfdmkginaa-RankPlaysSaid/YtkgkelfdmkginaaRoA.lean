/- ranks: Lay as a specification, on both sides. No condition. -/
import Derived.Test.YtkgkelfdmkginaaRnL
import Derived.Test.YtkgkelfdmkginaaRnG
import Derived.Test.YtkgkelfdmkginaaEW
import Derived.Test.YtkgkelfdmkginaaChecked
namespace Go.Proofs.Ytkgkelfdmkginaa
set_option linter.unusedVariables false
set_option linter.unusedSimpArgs false
open Go.RowKit E
def layT (n m : Nat) (T U : Nat → Int) : Nat → Int := if n = m then U else T
def layV (n m : Nat) (v w : Int) : Int := if n = m then w else v
def layE (n m : Nat) : Int := if n = m then 0 else 6
theorem fnLay16 (k v w : Int) (n m : Nat) (F : Fl) (T U : Nat → Int) (hn : n ≤ 64) : FnOk Try.prog 16 [.nv (.one (.ptr 0 0)), uA w, .nv (.one (.own 3))] [.box 60 (rkBox k v), .ro 5 n (gFl F), .row 31 1 n (gU64 T), .ro 1 m (gU64 U)] (iA (layE n m)) [.box 60 (rkBox k (layV n m v w)), .ro 5 n (gFl F), .row 31 1 n (gU64 (layT n m T U)), .ro 1 m (gU64 U)] := by
  unfold layT layV layE
  by_cases e : n = m
  · subst e
    rw [if_pos rfl, if_pos rfl, if_pos rfl]
    exact lay_y k v w n F T U hn
  · rw [if_neg e, if_neg e, if_neg e]
    exact lay_n k v w n m F T U e hn
def gLay16 : List SV → List Seg → Option (CS × List Prop)
  | [.nv (.one (.ptr h 0)), .nv (.one (.val (.int .u64 w))), .nv (.one a)], mem => match rkAt mem h, srcOf mem 1 a with
    | some (k, v, (n, gf), (n', gt)), some (m, gu, _) => some (⟨[.nv (.one (.ptr 0 0)), uA w, .nv (.one (.own 3))], [.box 60 (rkBox k v), .ro 5 n (gFl (flOf gf)), .row 31 1 n (gU64 (colOf gt)), .ro 1 m (gU64 (colOf gu))], iA (layE n m), [.box 60 (rkBox k (layV n m v w)), .ro 5 n (gFl (flOf gf)), .row 31 1 n (gU64 (layT n m (colOf gt) (colOf gu))), .ro 1 m (gU64 (colOf gu))]⟩, [n' = n, n ≤ 64])
    | _, _ => none
  | _, _ => none
theorem spLay16 : SpOk Try.prog 16 (.lift gLay16) := by
  intro args mem cs obl h ho
  unfold gLay16 at h
  split at h
  · split at h
    · simp only [Option.some.injEq, Prod.mk.injEq] at h
      obtain ⟨rfl, rfl⟩ := h
      exact fnLay16 _ _ _ _ _ _ _ _ ho.2.1
    · cases h
  · cases h
theorem fnRLay16 (k v w : Int) (n m : Nat) (F : Fl) (T U : Nat → Int) (hn : n ≤ 64) : FnOk Try.prog 17 [.nv (.one (.ptr 0 0)), uA w, .nv (.one (.own 3))] [.box 50 (rkBox k v), .ro 5 n (gFl F), .row 31 1 n (gU64 T), .ro 1 m (gU64 U)] (iA (layE n m)) [.box 50 [.val (.int .i64 k), .own 1, .own 4, .val (.int .u64 (layV n m v w))], .ro 5 n (gFl F), .gone, .ro 1 m (gU64 U), .row 31 1 n (gU64 (layT n m T U))] := by
  unfold layT layV layE
  by_cases e : n = m
  · subst e
    rw [if_pos rfl, if_pos rfl, if_pos rfl]
    exact rlay_y k v w n F T U hn
  · rw [if_neg e, if_neg e, if_neg e]
    exact rlay_n k v w n m F T U e hn
def gRLay16 : List SV → List Seg → Option (CS × List Prop)
  | [.nv (.one (.ptr h 0)), .nv (.one (.val (.int .u64 w))), .nv (.one a)], mem => match rkAt mem h, srcOf mem 1 a with
    | some (k, v, (n, gf), (n', gt)), some (m, gu, _) => some (⟨[.nv (.one (.ptr 0 0)), uA w, .nv (.one (.own 3))], [.box 50 (rkBox k v), .ro 5 n (gFl (flOf gf)), .row 31 1 n (gU64 (colOf gt)), .ro 1 m (gU64 (colOf gu))], iA (layE n m), [.box 50 [.val (.int .i64 k), .own 1, .own 4, .val (.int .u64 (layV n m v w))], .ro 5 n (gFl (flOf gf)), .gone, .ro 1 m (gU64 (colOf gu)), .row 31 1 n (gU64 (layT n m (colOf gt) (colOf gu)))]⟩, [n' = n, n ≤ 64])
    | _, _ => none
  | _, _ => none
theorem spRLay16 : SpOk Try.prog 17 (.lift gRLay16) := by
  intro args mem cs obl h ho
  unfold gRLay16 at h
  split at h
  · split at h
    · simp only [Option.some.injEq, Prod.mk.injEq] at h
      obtain ⟨rfl, rfl⟩ := h
      exact fnRLay16 _ _ _ _ _ _ _ _ ho.2.1
    · cases h
  · cases h
def Glo : List (FuncId × Sp) := (16, .lift gLay16) :: (17, .lift gRLay16) :: Glk
theorem Glo_ok : CtxOk Try.prog Glo := ctx_cons (enter_of Try.func16 (by kernel_rfl) (by kernel_rfl)) spLay16 <|
  ctx_cons (enter_of Try.func17 (by kernel_rfl) (by kernel_rfl)) spRLay16 Glk_ok
def seqL : Code → Code
  | .seq a _ => a
  | c => c
def seqR : Code → Code
  | .seq _ b => b
  | c => c
def blkC : Code → Code
  | .block _ c => c
  | c => c
theorem rpC_eq : (loopOf Try.f5 0) = .seq (seqL (loopOf Try.f5 0)) (.seq (seqL (seqR (loopOf Try.f5 0))) (.seq (.block 1 (.seq (seqL (blkC (seqL (seqR (seqR (loopOf Try.f5 0)))))) (seqR (blkC (seqL (seqR (seqR (loopOf Try.f5 0)))))))) (seqR (seqR (seqR (loopOf Try.f5 0)))))) := by kernel_rfl
theorem CodeOkW.block {P : Program} {w0 : World} {m0 id : Nat} {c : Code} {pre post : E.St} (h : CodeOkW P w0 m0 c pre .normal post) : CodeOkW P w0 m0 (.block id c) pre .normal post := by
  intro cx env a w k1 k2 k3 hk
  refine wp_block (wp_mono (h cx env a w k1 k2 k3 hk) ?_)
  rintro e' a' w' ⟨rfl, env', hk'⟩
  exact ⟨rfl, env', hk'⟩
end Go.Proofs.Ytkgkelfdmkginaa

/- MailFirst: a row loaded. No condition. -/
import Derived.Test.YtajdkbgbekdbmaaMmA
namespace Go.Proofs.Ytajdkbgbekdbmaa
set_option linter.unusedVariables false
set_option linter.unusedSimpArgs false
open Go.RowKit E
theorem code_exec {P : Program} {Γ : List (FuncId × Sp)} (hΓ : CtxOk P Γ) {m0 : Nat} {c : Code} {st st' : E.St} {orc orc' : Orc} {e : Ex} {obl : List Prop} (h : exec P Γ m0 c st orc = some (e, st', obl, orc')) (ho : AllT obl) : CodeOk P m0 c st e st' := fun cx env a w hm hk => exec_sound hΓ hm c h ho hk
def fnil : SV := .nv (.one (.val (.slice none 0 0)))
def mfM (n : Nat) (A : Nat → Option Addr) (M C : Nat → Nat) (L : List (List Int)) (i : Nat) (al : List Int) : List Seg := [.ro 1 n (gRw A M C), .abs (FA L), .row 26 1 i (fun j => [.root 1 j true]), .row 3 1 al.length (gN (lT al))]
def mfS (n : Nat) (A : Nat → Option Addr) (M C : Nat → Nat) (L : List (List Int)) (i : Nat) (al : List Int) : E.St := mkSt 103 [(0, .nv (.one (.own 0))), (3, .nv (.one (.own 2))), (4, .nv (.one (.own 3))), (5, .nv (.one (.val (.slice none 0 0)))), (23, .nv (.one (.own 0))), (24, iA n), (25, iA i)] (mfM n A M C L i al)
def mfC (n : Nat) (A : Nat → Option Addr) (M C : Nat → Nat) (L : List (List Int)) (i : Nat) (al : List Int) : List SV := (((mfS n A M C L i al).tm.set 27 (.nv (.one (.eptr 0 1 (Int.toNat (i : Int)) 0)))).set 28 (.nv (.one (.val (.slice (A (Int.toNat (i : Int))) (M (Int.toNat (i : Int))) (C (Int.toNat (i : Int)))))))).set 7 (.nv (.one (.val (.slice (A (Int.toNat (i : Int))) (M (Int.toNat (i : Int))) (C (Int.toNat (i : Int)))))))
set_option maxRecDepth 100000 in
theorem mf_c (n : Nat) (A : Nat → Option Addr) (M C : Nat → Nat) (L : List (List Int)) (al : List Int) (i : Nat) (hi : i < n) : CodeOk Try.prog 1 (subC [true, true, false, true, false] (loopOf Try.f3 0)) (mfS n A M C L i al) .normal ⟨mfC n A M C L i al, mfM n A M C L i al⟩ :=
  code_exec GmF_ok (orc := ⟨[], []⟩) (orc' := ⟨[], []⟩) (obl := [(0 : Int) ≤ (i : Int), (i : Int) < (n : Int), Int.toNat (i : Int) < n]) (by kernel_rfl) ⟨by omega, by omega, by omega, trivial⟩
end Go.Proofs.Ytajdkbgbekdbmaa

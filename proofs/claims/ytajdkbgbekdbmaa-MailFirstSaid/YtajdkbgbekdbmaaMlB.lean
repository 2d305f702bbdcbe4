/- mail: New, Open, Len as specifications. No condition. -/
import Derived.Test.YtajdkbgbekdbmaaMlA
namespace Go.Proofs.Ytajdkbgbekdbmaa
set_option linter.unusedVariables false
set_option linter.unusedSimpArgs false
open Go.RowKit E
abbrev pnil : SV := .nv (.one (.val (.pointer none)))
abbrev pz : SV := .nv (.one (.ptr 0 0))
def boxAt (mem : List Seg) (h : Nat) : Option (List At) :=
  match mem[h]? with
  | some (.box _ l) => some l
  | some (.robox _ l) => some l
  | _ => none
/-- A box at a pointer: shut?, room, what lies there, is its channel closed? -/
def mbAt (mem : List Seg) (h : Nat) : Option (Bool × Nat × List Value × Bool) :=
  match boxAt mem h with
  | some [.chn c, .val (.bool sh)] => match mem[c]? with
    | some (.chan cap buf cl) => some (sh, cap, buf, cl)
    | _ => none
  | _ => none
abbrev mbMI (sh : Bool) (cap : Nat) (buf : List Value) (cl : Bool) : List Seg := [.box 56 [.chn 1, .val (.bool sh)], .chan cap buf cl]
theorem fnOpenI (sh : Bool) (cap : Nat) (buf : List Value) (cl : Bool) : FnOk Try.prog 20 [pz] (mbMI sh cap buf cl) (bA (!sh)) (mbMI sh cap buf cl) := by
  cases sh
  · exact mopen_fI cap buf cl
  · exact mopen_tI cap buf cl
def gOpenI : List SV → List Seg → Option (CS × List Prop)
  | [.nv (.one (.ptr h 0))], mem => match mbAt mem h with
    | some (sh, cap, buf, cl) => some (⟨[pz], mbMI sh cap buf cl, bA (!sh), mbMI sh cap buf cl⟩, [])
    | none => none
  | [.nv (.one (.val (.pointer none)))], _ => some (⟨[pnil], [], bA false, []⟩, [])
  | _, _ => none
theorem spOpenI : SpOk Try.prog 20 (.lift gOpenI) := by
  intro args mem cs obl h ho
  unfold gOpenI at h
  split at h
  · split at h
    · simp only [Option.some.injEq, Prod.mk.injEq] at h
      obtain ⟨rfl, rfl⟩ := h
      exact fnOpenI _ _ _ _
    · cases h
  · simp only [Option.some.injEq, Prod.mk.injEq] at h
    obtain ⟨rfl, rfl⟩ := h
    exact mopen_nilI
  · cases h
def gMNewI : List SV → List Seg → Option (CS × List Prop)
  | [.nv (.one (.val (.int .i64 n)))], _ => some (⟨[iA (n.toNat : Nat)], [], .tup [.one (.ptr 0 0), .one (.val (.int .i64 0))], mbMI false n.toNat [] false⟩, [0 ≤ n, 1 ≤ n.toNat, n.toNat ≤ 4096])
  | _, _ => none
theorem spMNewI : SpOk Try.prog 8 (.lift gMNewI) := by
  intro args mem cs obl h ho
  unfold gMNewI at h
  split at h
  · simp only [Option.some.injEq, Prod.mk.injEq] at h
    obtain ⟨rfl, rfl⟩ := h
    exact mnew_okI _ ho.2.1 ho.2.2.1
  · cases h
def gMLen : List SV → List Seg → Option (CS × List Prop)
  | [.nv (.one (.ptr h 0))], mem => match mbAt mem h with
    | some (sh, cap, buf, cl) => some (⟨[pz], mbMI sh cap buf cl, iA buf.length, mbMI sh cap buf cl⟩, [])
    | none => none
  | [.nv (.one (.val (.pointer none)))], _ => some (⟨[pnil], [], iA 0, []⟩, [])
  | _, _ => none
theorem spMLen : SpOk Try.prog 19 (.lift gMLen) := by
  intro args mem cs obl h ho
  unfold gMLen at h
  split at h
  · split at h
    · simp only [Option.some.injEq, Prod.mk.injEq] at h
      obtain ⟨rfl, rfl⟩ := h
      exact mlenI _ _ _ _
    · cases h
  · simp only [Option.some.injEq, Prod.mk.injEq] at h
    obtain ⟨rfl, rfl⟩ := h
    exact mlen_nilI
  · cases h
abbrev mbMS (sh : Bool) (cap : Nat) (buf : List Value) (cl : Bool) : List Seg := [.box 59 [.chn 1, .val (.bool sh)], .chan cap buf cl]
theorem fnOpenS (sh : Bool) (cap : Nat) (buf : List Value) (cl : Bool) : FnOk Try.prog 25 [pz] (mbMS sh cap buf cl) (bA (!sh)) (mbMS sh cap buf cl) := by
  cases sh
  · exact mopen_fS cap buf cl
  · exact mopen_tS cap buf cl
def gOpenS : List SV → List Seg → Option (CS × List Prop)
  | [.nv (.one (.ptr h 0))], mem => match mbAt mem h with
    | some (sh, cap, buf, cl) => some (⟨[pz], mbMS sh cap buf cl, bA (!sh), mbMS sh cap buf cl⟩, [])
    | none => none
  | [.nv (.one (.val (.pointer none)))], _ => some (⟨[pnil], [], bA false, []⟩, [])
  | _, _ => none
theorem spOpenS : SpOk Try.prog 25 (.lift gOpenS) := by
  intro args mem cs obl h ho
  unfold gOpenS at h
  split at h
  · split at h
    · simp only [Option.some.injEq, Prod.mk.injEq] at h
      obtain ⟨rfl, rfl⟩ := h
      exact fnOpenS _ _ _ _
    · cases h
  · simp only [Option.some.injEq, Prod.mk.injEq] at h
    obtain ⟨rfl, rfl⟩ := h
    exact mopen_nilS
  · cases h
def gMNewS : List SV → List Seg → Option (CS × List Prop)
  | [.nv (.one (.val (.int .i64 n)))], _ => some (⟨[iA (n.toNat : Nat)], [], .tup [.one (.ptr 0 0), .one (.val (.int .i64 0))], mbMS false n.toNat [] false⟩, [0 ≤ n, 1 ≤ n.toNat, n.toNat ≤ 4096])
  | _, _ => none
theorem spMNewS : SpOk Try.prog 21 (.lift gMNewS) := by
  intro args mem cs obl h ho
  unfold gMNewS at h
  split at h
  · simp only [Option.some.injEq, Prod.mk.injEq] at h
    obtain ⟨rfl, rfl⟩ := h
    exact mnew_okS _ ho.2.1 ho.2.2.1
  · cases h
def Gml0 : List (FuncId × Sp) := (20, .lift gOpenI) :: (19, .lift gMLen) :: (25, .lift gOpenS) :: (21, .lift gMNewS) :: G0
theorem Gml0_ok : CtxOk Try.prog Gml0 := ctx_cons (enter_of Try.func20 (by kernel_rfl) (by kernel_rfl)) spOpenI <|
  ctx_cons (enter_of Try.func19 (by kernel_rfl) (by kernel_rfl)) spMLen <|
  ctx_cons (enter_of Try.func25 (by kernel_rfl) (by kernel_rfl)) spOpenS <|
  ctx_cons (enter_of Try.func21 (by kernel_rfl) (by kernel_rfl)) spMNewS G0_ok
end Go.Proofs.Ytajdkbgbekdbmaa

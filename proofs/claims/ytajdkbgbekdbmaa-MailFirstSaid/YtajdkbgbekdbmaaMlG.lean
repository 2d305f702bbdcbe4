/- mail: Send, Take, Shut as specifications. No condition. -/
import Derived.Test.YtajdkbgbekdbmaaMlF
namespace Go.Proofs.Ytajdkbgbekdbmaa
set_option linter.unusedVariables false
set_option linter.unusedSimpArgs false
open Go.RowKit E
/-- Is there room? -/
def sndR (sh : Bool) (cap : Nat) (buf : List Value) : Bool := !sh && decide (buf.length < cap)
def sndB (sh : Bool) (cap : Nat) (buf : List Value) (v : Value) : List Value := if sndR sh cap buf = true then snocV buf v else buf
theorem fnSendI (sh : Bool) (cap : Nat) (buf : List Value) (x : Int) : FnOk Try.prog 9 [pz, .nv (.one (.val (.int .i64 x)))] (mbMI sh cap buf sh) (bA (sndR sh cap buf)) (mbMI sh cap (sndB sh cap buf (.int .i64 x)) sh) := by
  unfold sndB sndR
  cases sh
  · by_cases h : buf.length < cap
    · rw [show (!false && decide (buf.length < cap)) = true by simp [h], if_pos rfl]
      exact fnSendyI cap buf x h
    · rw [show (!false && decide (buf.length < cap)) = false by simp [h], if_neg (by simp)]
      exact fnSendnI cap buf x (by omega)
  · rw [show (!true && decide (buf.length < cap)) = false by simp, if_neg (by simp)]
    exact snd_noI cap buf true x
def gSendI : List SV → List Seg → Option (CS × List Prop)
  | [.nv (.one (.ptr h 0)), .nv (.one (.val (.int .i64 x)))], mem => match mbAt mem h with
    | some (sh, cap, buf, cl) => some (⟨[pz, .nv (.one (.val (.int .i64 x)))], mbMI sh cap buf sh, bA (sndR sh cap buf), mbMI sh cap (sndB sh cap buf (.int .i64 x)) sh⟩, [])
    | none => none
  | [.nv (.one (.val (.pointer none))), .nv (.one (.val (.int .i64 x)))], _ => some (⟨[pnil, .nv (.one (.val (.int .i64 x)))], [], bA false, []⟩, [])
  | _, _ => none
theorem spSendI : SpOk Try.prog 9 (.lift gSendI) := by
  intro args mem cs obl h ho
  unfold gSendI at h
  split at h
  · split at h
    · simp only [Option.some.injEq, Prod.mk.injEq] at h
      obtain ⟨rfl, rfl⟩ := h
      exact fnSendI _ _ _ _
    · cases h
  · simp only [Option.some.injEq, Prod.mk.injEq] at h
    obtain ⟨rfl, rfl⟩ := h
    exact snd_nilI _
  · cases h
theorem fnTake0I (sh : Bool) (cap : Nat) : FnOk Try.prog 13 [pz] (mbMI sh cap [] sh) (.tup [.one (.val (.int .i64 0)), .one (.val (.bool false))]) (mbMI sh cap [] sh) := by
  cases sh
  · exact fnTakenI false cap
  · exact fnTakesI true cap
def gTakeI : List SV → List Seg → Option (CS × List Prop)
  | [.nv (.one (.ptr h 0))], mem => match mbAt mem h with
    | some (sh, cap, buf, cl) => match buf with
      | [] => some (⟨[pz], mbMI sh cap [] sh, .tup [.one (.val (.int .i64 0)), .one (.val (.bool false))], mbMI sh cap [] sh⟩, [])
      | .int .i64 x :: buf => some (⟨[pz], mbMI sh cap (.int .i64 x :: buf) sh, .tup [.one (.val (.int .i64 x)), .one (.val (.bool true))], mbMI sh cap buf sh⟩, [])
      | _ => none
    | none => none
  | [.nv (.one (.val (.pointer none)))], _ => some (⟨[pnil], [], .tup [.one (.val (.int .i64 0)), .one (.val (.bool false))], []⟩, [])
  | _, _ => none
theorem spTakeI : SpOk Try.prog 13 (.lift gTakeI) := by
  intro args mem cs obl h ho
  unfold gTakeI at h
  split at h
  · split at h
    · split at h
      · simp only [Option.some.injEq, Prod.mk.injEq] at h
        obtain ⟨rfl, rfl⟩ := h
        exact fnTake0I _ _
      · simp only [Option.some.injEq, Prod.mk.injEq] at h
        obtain ⟨rfl, rfl⟩ := h
        exact fnTakeyI _ _ _ _ _
      · cases h
    · cases h
  · simp only [Option.some.injEq, Prod.mk.injEq] at h
    obtain ⟨rfl, rfl⟩ := h
    exact tak_nilI
  · cases h
theorem fnShutI (sh : Bool) (cap : Nat) (buf : List Value) : FnOk Try.prog 17 [pz] (mbMI sh cap buf sh) (bA (!sh)) (mbMI true cap buf true) := by
  cases sh
  · exact shut_okI cap buf
  · exact shut_noI cap buf true
def gShutI : List SV → List Seg → Option (CS × List Prop)
  | [.nv (.one (.ptr h 0))], mem => match mbAt mem h with
    | some (sh, cap, buf, cl) => some (⟨[pz], mbMI sh cap buf sh, bA (!sh), mbMI true cap buf true⟩, [])
    | none => none
  | [.nv (.one (.val (.pointer none)))], _ => some (⟨[pnil], [], bA false, []⟩, [])
  | _, _ => none
theorem spShutI : SpOk Try.prog 17 (.lift gShutI) := by
  intro args mem cs obl h ho
  unfold gShutI at h
  split at h
  · split at h
    · simp only [Option.some.injEq, Prod.mk.injEq] at h
      obtain ⟨rfl, rfl⟩ := h
      exact fnShutI _ _ _
    · cases h
  · simp only [Option.some.injEq, Prod.mk.injEq] at h
    obtain ⟨rfl, rfl⟩ := h
    exact shut_nilI
  · cases h
theorem fnSendS (sh : Bool) (cap : Nat) (buf : List Value) (x : ByteArray) : FnOk Try.prog 22 [pz, .nv (.one (.val (.string x)))] (mbMS sh cap buf sh) (bA (sndR sh cap buf)) (mbMS sh cap (sndB sh cap buf (.string x)) sh) := by
  unfold sndB sndR
  cases sh
  · by_cases h : buf.length < cap
    · rw [show (!false && decide (buf.length < cap)) = true by simp [h], if_pos rfl]
      exact fnSendyS cap buf x h
    · rw [show (!false && decide (buf.length < cap)) = false by simp [h], if_neg (by simp)]
      exact fnSendnS cap buf x (by omega)
  · rw [show (!true && decide (buf.length < cap)) = false by simp, if_neg (by simp)]
    exact snd_noS cap buf true x
def gSendS : List SV → List Seg → Option (CS × List Prop)
  | [.nv (.one (.ptr h 0)), .nv (.one (.val (.string x)))], mem => match mbAt mem h with
    | some (sh, cap, buf, cl) => some (⟨[pz, .nv (.one (.val (.string x)))], mbMS sh cap buf sh, bA (sndR sh cap buf), mbMS sh cap (sndB sh cap buf (.string x)) sh⟩, [])
    | none => none
  | [.nv (.one (.val (.pointer none))), .nv (.one (.val (.string x)))], _ => some (⟨[pnil, .nv (.one (.val (.string x)))], [], bA false, []⟩, [])
  | _, _ => none
theorem spSendS : SpOk Try.prog 22 (.lift gSendS) := by
  intro args mem cs obl h ho
  unfold gSendS at h
  split at h
  · split at h
    · simp only [Option.some.injEq, Prod.mk.injEq] at h
      obtain ⟨rfl, rfl⟩ := h
      exact fnSendS _ _ _ _
    · cases h
  · simp only [Option.some.injEq, Prod.mk.injEq] at h
    obtain ⟨rfl, rfl⟩ := h
    exact snd_nilS _
  · cases h
theorem fnTake0S (sh : Bool) (cap : Nat) : FnOk Try.prog 24 [pz] (mbMS sh cap [] sh) (.tup [.one (.val (.string ByteArray.empty)), .one (.val (.bool false))]) (mbMS sh cap [] sh) := by
  cases sh
  · exact fnTakenS false cap
  · exact fnTakesS true cap
def gTakeS : List SV → List Seg → Option (CS × List Prop)
  | [.nv (.one (.ptr h 0))], mem => match mbAt mem h with
    | some (sh, cap, buf, cl) => match buf with
      | [] => some (⟨[pz], mbMS sh cap [] sh, .tup [.one (.val (.string ByteArray.empty)), .one (.val (.bool false))], mbMS sh cap [] sh⟩, [])
      | .string x :: buf => some (⟨[pz], mbMS sh cap (.string x :: buf) sh, .tup [.one (.val (.string x)), .one (.val (.bool true))], mbMS sh cap buf sh⟩, [])
      | _ => none
    | none => none
  | [.nv (.one (.val (.pointer none)))], _ => some (⟨[pnil], [], .tup [.one (.val (.string ByteArray.empty)), .one (.val (.bool false))], []⟩, [])
  | _, _ => none
theorem spTakeS : SpOk Try.prog 24 (.lift gTakeS) := by
  intro args mem cs obl h ho
  unfold gTakeS at h
  split at h
  · split at h
    · split at h
      · simp only [Option.some.injEq, Prod.mk.injEq] at h
        obtain ⟨rfl, rfl⟩ := h
        exact fnTake0S _ _
      · simp only [Option.some.injEq, Prod.mk.injEq] at h
        obtain ⟨rfl, rfl⟩ := h
        exact fnTakeyS _ _ _ _ _
      · cases h
    · cases h
  · simp only [Option.some.injEq, Prod.mk.injEq] at h
    obtain ⟨rfl, rfl⟩ := h
    exact tak_nilS
  · cases h
theorem fnShutS (sh : Bool) (cap : Nat) (buf : List Value) : FnOk Try.prog 23 [pz] (mbMS sh cap buf sh) (bA (!sh)) (mbMS true cap buf true) := by
  cases sh
  · exact shut_okS cap buf
  · exact shut_noS cap buf true
def gShutS : List SV → List Seg → Option (CS × List Prop)
  | [.nv (.one (.ptr h 0))], mem => match mbAt mem h with
    | some (sh, cap, buf, cl) => some (⟨[pz], mbMS sh cap buf sh, bA (!sh), mbMS true cap buf true⟩, [])
    | none => none
  | [.nv (.one (.val (.pointer none)))], _ => some (⟨[pnil], [], bA false, []⟩, [])
  | _, _ => none
theorem spShutS : SpOk Try.prog 23 (.lift gShutS) := by
  intro args mem cs obl h ho
  unfold gShutS at h
  split at h
  · split at h
    · simp only [Option.some.injEq, Prod.mk.injEq] at h
      obtain ⟨rfl, rfl⟩ := h
      exact fnShutS _ _ _
    · cases h
  · simp only [Option.some.injEq, Prod.mk.injEq] at h
    obtain ⟨rfl, rfl⟩ := h
    exact shut_nilS
  · cases h
def Gml1 : List (FuncId × Sp) := (9, .lift gSendI) :: (13, .lift gTakeI) :: (17, .lift gShutI) :: (22, .lift gSendS) :: (24, .lift gTakeS) :: (23, .lift gShutS) :: Gml0
theorem Gml1_ok : CtxOk Try.prog Gml1 := ctx_cons (enter_of Try.func9 (by kernel_rfl) (by kernel_rfl)) spSendI <|
  ctx_cons (enter_of Try.func13 (by kernel_rfl) (by kernel_rfl)) spTakeI <|
  ctx_cons (enter_of Try.func17 (by kernel_rfl) (by kernel_rfl)) spShutI <|
  ctx_cons (enter_of Try.func22 (by kernel_rfl) (by kernel_rfl)) spSendS <|
  ctx_cons (enter_of Try.func24 (by kernel_rfl) (by kernel_rfl)) spTakeS <|
  ctx_cons (enter_of Try.func23 (by kernel_rfl) (by kernel_rfl)) spShutS Gml0_ok
end Go.Proofs.Ytajdkbgbekdbmaa

/- mail: Send, Take. No condition. -/
import Derived.Test.YtajdkbgbekdbmaaMlD
namespace Go.Proofs.Ytajdkbgbekdbmaa
set_option linter.unusedVariables false
set_option linter.unusedSimpArgs false
set_option maxRecDepth 100000
open Go.RowKit E
def opsOf : Code → Array Oper
  | .region _ o _ => o
  | _ => #[]
def idOf : Code → Nat
  | .region i _ _ => i
  | _ => 0
def dfO : Oper := ⟨none, .nilCheck (.tmp 0), 0, "", #[], none⟩
def elOf : Oper → Nat
  | ⟨_, .select cs _, _, _, _, _⟩ => (cs.toList.headD ⟨.tmp 0, none, 0⟩).elem
  | _ => 0
theorem snd_bodyI : Try.f9.body = some (.seq (seqL (Try.f9.body.getD .skip)) (.seq (seqL (seqR (Try.f9.body.getD .skip))) (.seq (seqL (seqR (seqR (Try.f9.body.getD .skip)))) (.seq (seqL (seqR (seqR (seqR (Try.f9.body.getD .skip))))) (seqR (seqR (seqR (seqR (Try.f9.body.getD .skip))))))))) := by kernel_rfl
theorem snd_regI : (seqL (seqR (seqR (seqR (Try.f9.body.getD .skip))))) = .region (idOf (seqL (seqR (seqR (seqR (Try.f9.body.getD .skip)))))) (opsOf (seqL (seqR (seqR (seqR (Try.f9.body.getD .skip)))))) false := by kernel_rfl
theorem snd_opI : (opsOf (seqL (seqR (seqR (seqR (Try.f9.body.getD .skip))))))[0]? = some (selS 13 11 12 (elOf ((opsOf (seqL (seqR (seqR (seqR (Try.f9.body.getD .skip))))))[0]?.getD dfO)) ((opsOf (seqL (seqR (seqR (seqR (Try.f9.body.getD .skip))))))[0]?.getD dfO).type ((opsOf (seqL (seqR (seqR (seqR (Try.f9.body.getD .skip))))))[0]?.getD dfO).pos ((opsOf (seqL (seqR (seqR (seqR (Try.f9.body.getD .skip))))))[0]?.getD dfO).after) := by kernel_rfl
theorem fnSendyI (cap : Nat) (buf : List Value) (x : Int) (h : buf.length < cap) : FnOk Try.prog 9 [pz, .nv (.one (.val (.int .i64 x)))] (mbMI false cap buf false) (bA true) (mbMI false cap (snocV buf (.int .i64 x)) false) := by
  refine fnN_ok (tm := (mkSt 16 [(4, bA true)] []).tm) Try.func9 snd_bodyI ?_ (o := []) (by kernel_rfl) trivial
  refine CodeOkN.seq (snd0I cap buf false x).inN (CodeOkN.seq (snd1I cap buf false x).inN (CodeOkN.seq (snd2I cap buf false x).inN (CodeOkN.seq ?_ (snd6yI cap (snocV buf (.int .i64 x)) false x).inN)))
  rw [snd_regI]
  exact send_room Gml0_ok snd_opI (run_zeroOf (z := .int .i64 0) (by kernel_rfl)) (h := 1) (v := .int .i64 x) rfl rfl rfl h (obl := []) (by kernel_rfl) trivial
theorem fnSendnI (cap : Nat) (buf : List Value) (x : Int) (h : cap ≤ buf.length) : FnOk Try.prog 9 [pz, .nv (.one (.val (.int .i64 x)))] (mbMI false cap buf false) (bA false) (mbMI false cap buf false) := by
  refine fnN_ok (tm := (mkSt 16 [(4, bA false)] []).tm) Try.func9 snd_bodyI ?_ (o := []) (by kernel_rfl) trivial
  refine CodeOkN.seq (snd0I cap buf false x).inN (CodeOkN.seq (snd1I cap buf false x).inN (CodeOkN.seq (snd2I cap buf false x).inN (CodeOkN.seq ?_ (snd6nI cap buf false x).inN)))
  rw [snd_regI]
  exact send_full Gml0_ok snd_opI (run_zeroOf (z := .int .i64 0) (by kernel_rfl)) (h := 1) (v := .int .i64 x) rfl rfl rfl h (obl := []) (by kernel_rfl) trivial
theorem tak_bodyI : Try.f13.body = some (.seq (seqL (Try.f13.body.getD .skip)) (.seq (seqL (seqR (Try.f13.body.getD .skip))) (.seq (seqL (seqR (seqR (Try.f13.body.getD .skip)))) (.seq (seqL (seqR (seqR (seqR (Try.f13.body.getD .skip))))) (.seq (seqL (seqR (seqR (seqR (seqR (Try.f13.body.getD .skip)))))) (seqR (seqR (seqR (seqR (seqR (Try.f13.body.getD .skip))))))))))) := by kernel_rfl
theorem tak_regI : (seqL (seqR (seqR (seqR (seqR (Try.f13.body.getD .skip)))))) = .region (idOf (seqL (seqR (seqR (seqR (seqR (Try.f13.body.getD .skip))))))) (opsOf (seqL (seqR (seqR (seqR (seqR (Try.f13.body.getD .skip))))))) false := by kernel_rfl
theorem tak_opI : (opsOf (seqL (seqR (seqR (seqR (seqR (Try.f13.body.getD .skip)))))))[0]? = some (selR 14 13 (elOf ((opsOf (seqL (seqR (seqR (seqR (seqR (Try.f13.body.getD .skip)))))))[0]?.getD dfO)) ((opsOf (seqL (seqR (seqR (seqR (seqR (Try.f13.body.getD .skip)))))))[0]?.getD dfO).type ((opsOf (seqL (seqR (seqR (seqR (seqR (Try.f13.body.getD .skip)))))))[0]?.getD dfO).pos ((opsOf (seqL (seqR (seqR (seqR (seqR (Try.f13.body.getD .skip)))))))[0]?.getD dfO).after) := by kernel_rfl
theorem fnTakeyI (sh : Bool) (cap : Nat) (buf : List Value) (cl : Bool) (x : Int) : FnOk Try.prog 13 [pz] (mbMI sh cap (.int .i64 x :: buf) cl) (.tup [.one (.val (.int .i64 x)), .one (.val (.bool true))]) (mbMI sh cap buf cl) := by
  refine fnN_ok (tm := (mkSt 22 [(2, .nv (.one (.val (.int .i64 x)))), (3, bA true)] []).tm) Try.func13 tak_bodyI ?_ (o := []) (by kernel_rfl) trivial
  refine CodeOkN.seq (tak0I sh cap (.int .i64 x :: buf) cl).inN (CodeOkN.seq (tak1I sh cap (.int .i64 x :: buf) cl).inN (CodeOkN.seq (tak2I sh cap (.int .i64 x :: buf) cl).inN (CodeOkN.seq (tak3I sh cap (.int .i64 x :: buf) cl).inN (CodeOkN.seq ?_ (tak6yI sh cap buf cl x).inN))))
  rw [tak_regI]
  exact recv_buf Gml0_ok tak_opI (run_zeroOf (z := .int .i64 0) (by kernel_rfl)) (h := 1) rfl rfl (obl := []) (by kernel_rfl) trivial
theorem fnTakesI (sh : Bool) (cap : Nat)  : FnOk Try.prog 13 [pz] (mbMI sh cap [] true) (.tup [.one (.val (.int .i64 0)), .one (.val (.bool false))]) (mbMI sh cap [] true) := by
  refine fnN_ok (tm := (mkSt 22 [(2, .nv (.one (.val (.int .i64 0)))), (3, bA false)] []).tm) Try.func13 tak_bodyI ?_ (o := []) (by kernel_rfl) trivial
  refine CodeOkN.seq (tak0I sh cap [] true).inN (CodeOkN.seq (tak1I sh cap [] true).inN (CodeOkN.seq (tak2I sh cap [] true).inN (CodeOkN.seq (tak3I sh cap [] true).inN (CodeOkN.seq ?_ (tak6sI sh cap [] true).inN))))
  rw [tak_regI]
  exact recv_shut Gml0_ok tak_opI (run_zeroOf (z := .int .i64 0) (by kernel_rfl)) (h := 1) rfl rfl (obl := []) (by kernel_rfl) trivial
theorem fnTakenI (sh : Bool) (cap : Nat)  : FnOk Try.prog 13 [pz] (mbMI sh cap [] false) (.tup [.one (.val (.int .i64 0)), .one (.val (.bool false))]) (mbMI sh cap [] false) := by
  refine fnN_ok (tm := (mkSt 22 [(2, .nv (.one (.val (.int .i64 0)))), (3, bA false)] []).tm) Try.func13 tak_bodyI ?_ (o := []) (by kernel_rfl) trivial
  refine CodeOkN.seq (tak0I sh cap [] false).inN (CodeOkN.seq (tak1I sh cap [] false).inN (CodeOkN.seq (tak2I sh cap [] false).inN (CodeOkN.seq (tak3I sh cap [] false).inN (CodeOkN.seq ?_ (tak6nI sh cap [] false).inN))))
  rw [tak_regI]
  exact recv_none Gml0_ok tak_opI (run_zeroOf (z := .int .i64 0) (by kernel_rfl)) (h := 1) rfl rfl (obl := []) (by kernel_rfl) trivial
theorem snd_bodyS : Try.f22.body = some (.seq (seqL (Try.f22.body.getD .skip)) (.seq (seqL (seqR (Try.f22.body.getD .skip))) (.seq (seqL (seqR (seqR (Try.f22.body.getD .skip)))) (.seq (seqL (seqR (seqR (seqR (Try.f22.body.getD .skip))))) (seqR (seqR (seqR (seqR (Try.f22.body.getD .skip))))))))) := by kernel_rfl
theorem snd_regS : (seqL (seqR (seqR (seqR (Try.f22.body.getD .skip))))) = .region (idOf (seqL (seqR (seqR (seqR (Try.f22.body.getD .skip)))))) (opsOf (seqL (seqR (seqR (seqR (Try.f22.body.getD .skip)))))) false := by kernel_rfl
theorem snd_opS : (opsOf (seqL (seqR (seqR (seqR (Try.f22.body.getD .skip))))))[0]? = some (selS 13 11 12 (elOf ((opsOf (seqL (seqR (seqR (seqR (Try.f22.body.getD .skip))))))[0]?.getD dfO)) ((opsOf (seqL (seqR (seqR (seqR (Try.f22.body.getD .skip))))))[0]?.getD dfO).type ((opsOf (seqL (seqR (seqR (seqR (Try.f22.body.getD .skip))))))[0]?.getD dfO).pos ((opsOf (seqL (seqR (seqR (seqR (Try.f22.body.getD .skip))))))[0]?.getD dfO).after) := by kernel_rfl
theorem fnSendyS (cap : Nat) (buf : List Value) (x : ByteArray) (h : buf.length < cap) : FnOk Try.prog 22 [pz, .nv (.one (.val (.string x)))] (mbMS false cap buf false) (bA true) (mbMS false cap (snocV buf (.string x)) false) := by
  refine fnN_ok (tm := (mkSt 16 [(4, bA true)] []).tm) Try.func22 snd_bodyS ?_ (o := []) (by kernel_rfl) trivial
  refine CodeOkN.seq (snd0S cap buf false x).inN (CodeOkN.seq (snd1S cap buf false x).inN (CodeOkN.seq (snd2S cap buf false x).inN (CodeOkN.seq ?_ (snd6yS cap (snocV buf (.string x)) false x).inN)))
  rw [snd_regS]
  exact send_room Gml0_ok snd_opS (run_zeroOf (z := .string ByteArray.empty) (by kernel_rfl)) (h := 1) (v := .string x) rfl rfl rfl h (obl := []) (by kernel_rfl) trivial
theorem fnSendnS (cap : Nat) (buf : List Value) (x : ByteArray) (h : cap ≤ buf.length) : FnOk Try.prog 22 [pz, .nv (.one (.val (.string x)))] (mbMS false cap buf false) (bA false) (mbMS false cap buf false) := by
  refine fnN_ok (tm := (mkSt 16 [(4, bA false)] []).tm) Try.func22 snd_bodyS ?_ (o := []) (by kernel_rfl) trivial
  refine CodeOkN.seq (snd0S cap buf false x).inN (CodeOkN.seq (snd1S cap buf false x).inN (CodeOkN.seq (snd2S cap buf false x).inN (CodeOkN.seq ?_ (snd6nS cap buf false x).inN)))
  rw [snd_regS]
  exact send_full Gml0_ok snd_opS (run_zeroOf (z := .string ByteArray.empty) (by kernel_rfl)) (h := 1) (v := .string x) rfl rfl rfl h (obl := []) (by kernel_rfl) trivial
theorem tak_bodyS : Try.f24.body = some (.seq (seqL (Try.f24.body.getD .skip)) (.seq (seqL (seqR (Try.f24.body.getD .skip))) (.seq (seqL (seqR (seqR (Try.f24.body.getD .skip)))) (.seq (seqL (seqR (seqR (seqR (Try.f24.body.getD .skip))))) (.seq (seqL (seqR (seqR (seqR (seqR (Try.f24.body.getD .skip)))))) (seqR (seqR (seqR (seqR (seqR (Try.f24.body.getD .skip))))))))))) := by kernel_rfl
theorem tak_regS : (seqL (seqR (seqR (seqR (seqR (Try.f24.body.getD .skip)))))) = .region (idOf (seqL (seqR (seqR (seqR (seqR (Try.f24.body.getD .skip))))))) (opsOf (seqL (seqR (seqR (seqR (seqR (Try.f24.body.getD .skip))))))) false := by kernel_rfl
theorem tak_opS : (opsOf (seqL (seqR (seqR (seqR (seqR (Try.f24.body.getD .skip)))))))[0]? = some (selR 14 13 (elOf ((opsOf (seqL (seqR (seqR (seqR (seqR (Try.f24.body.getD .skip)))))))[0]?.getD dfO)) ((opsOf (seqL (seqR (seqR (seqR (seqR (Try.f24.body.getD .skip)))))))[0]?.getD dfO).type ((opsOf (seqL (seqR (seqR (seqR (seqR (Try.f24.body.getD .skip)))))))[0]?.getD dfO).pos ((opsOf (seqL (seqR (seqR (seqR (seqR (Try.f24.body.getD .skip)))))))[0]?.getD dfO).after) := by kernel_rfl
theorem fnTakeyS (sh : Bool) (cap : Nat) (buf : List Value) (cl : Bool) (x : ByteArray) : FnOk Try.prog 24 [pz] (mbMS sh cap (.string x :: buf) cl) (.tup [.one (.val (.string x)), .one (.val (.bool true))]) (mbMS sh cap buf cl) := by
  refine fnN_ok (tm := (mkSt 22 [(2, .nv (.one (.val (.string x)))), (3, bA true)] []).tm) Try.func24 tak_bodyS ?_ (o := []) (by kernel_rfl) trivial
  refine CodeOkN.seq (tak0S sh cap (.string x :: buf) cl).inN (CodeOkN.seq (tak1S sh cap (.string x :: buf) cl).inN (CodeOkN.seq (tak2S sh cap (.string x :: buf) cl).inN (CodeOkN.seq (tak3S sh cap (.string x :: buf) cl).inN (CodeOkN.seq ?_ (tak6yS sh cap buf cl x).inN))))
  rw [tak_regS]
  exact recv_buf Gml0_ok tak_opS (run_zeroOf (z := .string ByteArray.empty) (by kernel_rfl)) (h := 1) rfl rfl (obl := []) (by kernel_rfl) trivial
theorem fnTakesS (sh : Bool) (cap : Nat)  : FnOk Try.prog 24 [pz] (mbMS sh cap [] true) (.tup [.one (.val (.string ByteArray.empty)), .one (.val (.bool false))]) (mbMS sh cap [] true) := by
  refine fnN_ok (tm := (mkSt 22 [(2, .nv (.one (.val (.string ByteArray.empty)))), (3, bA false)] []).tm) Try.func24 tak_bodyS ?_ (o := []) (by kernel_rfl) trivial
  refine CodeOkN.seq (tak0S sh cap [] true).inN (CodeOkN.seq (tak1S sh cap [] true).inN (CodeOkN.seq (tak2S sh cap [] true).inN (CodeOkN.seq (tak3S sh cap [] true).inN (CodeOkN.seq ?_ (tak6sS sh cap [] true).inN))))
  rw [tak_regS]
  exact recv_shut Gml0_ok tak_opS (run_zeroOf (z := .string ByteArray.empty) (by kernel_rfl)) (h := 1) rfl rfl (obl := []) (by kernel_rfl) trivial
theorem fnTakenS (sh : Bool) (cap : Nat)  : FnOk Try.prog 24 [pz] (mbMS sh cap [] false) (.tup [.one (.val (.string ByteArray.empty)), .one (.val (.bool false))]) (mbMS sh cap [] false) := by
  refine fnN_ok (tm := (mkSt 22 [(2, .nv (.one (.val (.string ByteArray.empty)))), (3, bA false)] []).tm) Try.func24 tak_bodyS ?_ (o := []) (by kernel_rfl) trivial
  refine CodeOkN.seq (tak0S sh cap [] false).inN (CodeOkN.seq (tak1S sh cap [] false).inN (CodeOkN.seq (tak2S sh cap [] false).inN (CodeOkN.seq (tak3S sh cap [] false).inN (CodeOkN.seq ?_ (tak6nS sh cap [] false).inN))))
  rw [tak_regS]
  exact recv_none Gml0_ok tak_opS (run_zeroOf (z := .string ByteArray.empty) (by kernel_rfl)) (h := 1) rfl rfl (obl := []) (by kernel_rfl) trivial
end Go.Proofs.Ytajdkbgbekdbmaa

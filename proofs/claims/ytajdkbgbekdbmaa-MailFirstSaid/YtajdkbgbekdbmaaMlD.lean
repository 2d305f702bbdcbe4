/- Runs of Go code, as printed by a program: no condition beyond those that each states. -/
import Derived.Test.YtajdkbgbekdbmaaMlC
import Derived.Test.YtajdkbgbekdbmaaChecked
import Derived.KernelRfl
namespace Go.Proofs.Ytajdkbgbekdbmaa
set_option linter.unusedVariables false
set_option linter.unusedSimpArgs false
set_option maxRecDepth 100000
open Go.RowKit E
set_option maxHeartbeats 2000000 in
theorem snd_noI (cap : Nat) (buf : List Value) (cl : Bool) (x : Int) : FnOk Try.prog 9 ([pz, .nv (.one (.val (.int .i64 x)))]) (mbMI true cap buf cl) (bA false) (mbMI true cap buf cl) :=
  fn_run Gml0_ok Try.func9 (orc := ⟨[true], []⟩) (obl := [(0 : Nat) = (0 : Nat),
      true = true,
      cap = cap,
      buf = buf,
      cl = cl,
      (!!true) = true,
      false = false,
      true = true,
      cap = cap,
      buf = buf,
      cl = cl]) (by kernel_rfl) (.cons (by rfl) (.cons (by rfl) (.cons (by rfl) (.cons (by rfl) (.cons (by rfl) (.cons (by rfl) (.cons (by rfl) (.cons (by rfl) (.cons (by rfl) (.cons (by rfl) (.cons (by rfl) .nil))))))))))) (Nat.le_of_ble_eq_true (by kernel_rfl))

set_option maxHeartbeats 2000000 in
theorem snd_nilI (x : Int) : FnOk Try.prog 9 ([pnil, .nv (.one (.val (.int .i64 x)))]) ([]) (bA false) ([]) :=
  fn_run Gml0_ok Try.func9 (orc := ⟨[true], []⟩) (obl := [Value.pointer none = Value.pointer none,
      (!false) = true,
      false = false]) (by kernel_rfl) (.cons (by rfl) (.cons (by rfl) (.cons (by rfl) .nil))) (Nat.le_of_ble_eq_true (by kernel_rfl))

set_option maxHeartbeats 2000000 in
theorem snd0I (cap : Nat) (buf : List Value) (cl : Bool) (x : Int) : CodeOk Try.prog 2 (seqL (Try.f9.body.getD .skip)) (mkSt 16 [(0, pz), (1, .nv (.one (.val (.int .i64 x))))] (mbMI false cap buf cl)) .normal (mkSt 16 [(0, pz), (1, .nv (.one (.val (.int .i64 x))))] (mbMI false cap buf cl)) :=
  code_run Gml0_ok (orc := ⟨[], []⟩) (obl := [(0 : Nat) = (0 : Nat),
      x = x,
      false = false,
      cap = cap,
      buf = buf,
      cl = cl]) (by kernel_rfl) (.cons (by rfl) (.cons (by rfl) (.cons (by rfl) (.cons (by rfl) (.cons (by rfl) (.cons (by rfl) .nil)))))) (Nat.le_of_ble_eq_true (by kernel_rfl))

set_option maxHeartbeats 2000000 in
theorem snd1I (cap : Nat) (buf : List Value) (cl : Bool) (x : Int) : CodeOk Try.prog 2 (seqL (seqR (Try.f9.body.getD .skip))) (mkSt 16 [(0, pz), (1, .nv (.one (.val (.int .i64 x))))] (mbMI false cap buf cl)) .normal (mkSt 16 [(0, pz), (1, .nv (.one (.val (.int .i64 x))))] (mbMI false cap buf cl)) :=
  code_run Gml0_ok (orc := ⟨[false], []⟩) (obl := [(0 : Nat) = (0 : Nat),
      false = false,
      cap = cap,
      buf = buf,
      cl = cl,
      (!!false) = false,
      (0 : Nat) = (0 : Nat),
      x = x,
      false = false,
      cap = cap,
      buf = buf,
      cl = cl]) (by kernel_rfl) (.cons (by rfl) (.cons (by rfl) (.cons (by rfl) (.cons (by rfl) (.cons (by rfl) (.cons (by rfl) (.cons (by rfl) (.cons (by rfl) (.cons (by rfl) (.cons (by rfl) (.cons (by rfl) (.cons (by rfl) .nil)))))))))))) (Nat.le_of_ble_eq_true (by kernel_rfl))

set_option maxHeartbeats 2000000 in
theorem snd2I (cap : Nat) (buf : List Value) (cl : Bool) (x : Int) : CodeOk Try.prog 2 (seqL (seqR (seqR (Try.f9.body.getD .skip)))) (mkSt 16 [(0, pz), (1, .nv (.one (.val (.int .i64 x))))] (mbMI false cap buf cl)) .normal (mkSt 16 [(11, .nv (.one (.chn 1))), (12, .nv (.one (.val (.int .i64 x))))] (mbMI false cap buf cl)) :=
  code_run Gml0_ok (orc := ⟨[], []⟩) (obl := [x = x,
      false = false,
      cap = cap,
      buf = buf,
      cl = cl]) (by kernel_rfl) (.cons (by rfl) (.cons (by rfl) (.cons (by rfl) (.cons (by rfl) (.cons (by rfl) .nil))))) (Nat.le_of_ble_eq_true (by kernel_rfl))

set_option maxHeartbeats 2000000 in
theorem snd6yI (cap : Nat) (buf : List Value) (cl : Bool) (x : Int) : CodeOk Try.prog 2 (seqR (seqR (seqR (seqR (Try.f9.body.getD .skip))))) (⟨(((mkSt 16 [(11, .nv (.one (.chn 1))), (12, .nv (.one (.val (.int .i64 x))))] (mbMI false cap buf cl)).tm.set 13 (.tup [.one (.val (.int .i64 0)), .one (.val (.bool false))])).set 14 (iA 0)).set 15 (bA true), (mbMI false cap buf cl)⟩) .ret (mkSt 16 [(4, bA true)] (mbMI false cap buf cl)) :=
  code_run Gml0_ok (orc := ⟨[true], []⟩) (obl := [true = true,
      true = true,
      false = false,
      cap = cap,
      buf = buf,
      cl = cl]) (by kernel_rfl) (.cons (by rfl) (.cons (by rfl) (.cons (by rfl) (.cons (by rfl) (.cons (by rfl) (.cons (by rfl) .nil)))))) (Nat.le_of_ble_eq_true (by kernel_rfl))

set_option maxHeartbeats 2000000 in
theorem snd6nI (cap : Nat) (buf : List Value) (cl : Bool) (x : Int) : CodeOk Try.prog 2 (seqR (seqR (seqR (seqR (Try.f9.body.getD .skip))))) (⟨(((mkSt 16 [(11, .nv (.one (.chn 1))), (12, .nv (.one (.val (.int .i64 x))))] (mbMI false cap buf cl)).tm.set 13 (.tup [.one (.val (.int .i64 (-1))), .one (.val (.bool false))])).set 14 (iA (-1))).set 15 (bA false), (mbMI false cap buf cl)⟩) .ret (mkSt 16 [(4, bA false)] (mbMI false cap buf cl)) :=
  code_run Gml0_ok (orc := ⟨[false], []⟩) (obl := [false = false,
      false = false,
      false = false,
      cap = cap,
      buf = buf,
      cl = cl]) (by kernel_rfl) (.cons (by rfl) (.cons (by rfl) (.cons (by rfl) (.cons (by rfl) (.cons (by rfl) (.cons (by rfl) .nil)))))) (Nat.le_of_ble_eq_true (by kernel_rfl))

set_option maxHeartbeats 2000000 in
theorem tak_nilI  : FnOk Try.prog 13 ([pnil]) ([]) (.tup [.one (.val (.int .i64 0)), .one (.val (.bool false))]) ([]) :=
  fn_run Gml0_ok Try.func13 (orc := ⟨[true], []⟩) (obl := [true = true,
      (0 : Int) = (0 : Int),
      false = false]) (by kernel_rfl) (.cons (by rfl) (.cons (by rfl) (.cons (by rfl) .nil))) (Nat.le_of_ble_eq_true (by kernel_rfl))

set_option maxHeartbeats 2000000 in
theorem tak0I (sh : Bool) (cap : Nat) (buf : List Value) (cl : Bool) : CodeOk Try.prog 2 (seqL (Try.f13.body.getD .skip)) (mkSt 22 [(0, pz)] (mbMI sh cap buf cl)) .normal (mkSt 22 [(0, pz)] (mbMI sh cap buf cl)) :=
  code_run Gml0_ok (orc := ⟨[], []⟩) (obl := [(0 : Nat) = (0 : Nat),
      sh = sh,
      cap = cap,
      buf = buf,
      cl = cl]) (by kernel_rfl) (.cons (by rfl) (.cons (by rfl) (.cons (by rfl) (.cons (by rfl) (.cons (by rfl) .nil))))) (Nat.le_of_ble_eq_true (by kernel_rfl))

set_option maxHeartbeats 2000000 in
theorem tak1I (sh : Bool) (cap : Nat) (buf : List Value) (cl : Bool) : CodeOk Try.prog 2 (seqL (seqR (Try.f13.body.getD .skip))) (mkSt 22 [(0, pz)] (mbMI sh cap buf cl)) .normal (mkSt 22 [(0, pz), (4, .nv (.one (.val (.int .i64 0))))] (mbMI sh cap buf cl)) :=
  code_run Gml0_ok (orc := ⟨[], []⟩) (obl := [(0 : Nat) = (0 : Nat),
      (0 : Int) = (0 : Int),
      sh = sh,
      cap = cap,
      buf = buf,
      cl = cl]) (by kernel_rfl) (.cons (by rfl) (.cons (by rfl) (.cons (by rfl) (.cons (by rfl) (.cons (by rfl) (.cons (by rfl) .nil)))))) (Nat.le_of_ble_eq_true (by kernel_rfl))

set_option maxHeartbeats 2000000 in
theorem tak2I (sh : Bool) (cap : Nat) (buf : List Value) (cl : Bool) : CodeOk Try.prog 2 (seqL (seqR (seqR (Try.f13.body.getD .skip)))) (mkSt 22 [(0, pz), (4, .nv (.one (.val (.int .i64 0))))] (mbMI sh cap buf cl)) .normal (mkSt 22 [(0, pz), (4, .nv (.one (.val (.int .i64 0))))] (mbMI sh cap buf cl)) :=
  code_run Gml0_ok (orc := ⟨[false], []⟩) (obl := [false = false,
      (0 : Nat) = (0 : Nat),
      (0 : Int) = (0 : Int),
      sh = sh,
      cap = cap,
      buf = buf,
      cl = cl]) (by kernel_rfl) (.cons (by rfl) (.cons (by rfl) (.cons (by rfl) (.cons (by rfl) (.cons (by rfl) (.cons (by rfl) (.cons (by rfl) .nil))))))) (Nat.le_of_ble_eq_true (by kernel_rfl))

set_option maxHeartbeats 2000000 in
theorem tak3I (sh : Bool) (cap : Nat) (buf : List Value) (cl : Bool) : CodeOk Try.prog 2 (seqL (seqR (seqR (seqR (Try.f13.body.getD .skip))))) (mkSt 22 [(0, pz), (4, .nv (.one (.val (.int .i64 0))))] (mbMI sh cap buf cl)) .normal (mkSt 22 [(4, .nv (.one (.val (.int .i64 0)))), (13, .nv (.one (.chn 1)))] (mbMI sh cap buf cl)) :=
  code_run Gml0_ok (orc := ⟨[], []⟩) (obl := [(0 : Int) = (0 : Int),
      sh = sh,
      cap = cap,
      buf = buf,
      cl = cl]) (by kernel_rfl) (.cons (by rfl) (.cons (by rfl) (.cons (by rfl) (.cons (by rfl) (.cons (by rfl) .nil))))) (Nat.le_of_ble_eq_true (by kernel_rfl))

set_option maxHeartbeats 2000000 in
theorem tak6yI (sh : Bool) (cap : Nat) (buf : List Value) (cl : Bool) (x : Int) : CodeOk Try.prog 2 (seqR (seqR (seqR (seqR (seqR (Try.f13.body.getD .skip)))))) (⟨(((mkSt 22 [(4, .nv (.one (.val (.int .i64 0)))), (13, .nv (.one (.chn 1)))] (mbMI sh cap buf cl)).tm.set 14 (.tup [.one (.val (.int .i64 0)), .one (.val (.bool true)), .one (.val (.int .i64 x))])).set 15 (iA 0)).set 16 (bA true), (mbMI sh cap buf cl)⟩) .ret (mkSt 22 [(2, .nv (.one (.val (.int .i64 x)))), (3, bA true)] (mbMI sh cap buf cl)) :=
  code_run Gml0_ok (orc := ⟨[true], []⟩) (obl := [true = true,
      x = x,
      true = true,
      sh = sh,
      cap = cap,
      buf = buf,
      cl = cl]) (by kernel_rfl) (.cons (by rfl) (.cons (by rfl) (.cons (by rfl) (.cons (by rfl) (.cons (by rfl) (.cons (by rfl) (.cons (by rfl) .nil))))))) (Nat.le_of_ble_eq_true (by kernel_rfl))

set_option maxHeartbeats 2000000 in
theorem tak6sI (sh : Bool) (cap : Nat) (buf : List Value) (cl : Bool) : CodeOk Try.prog 2 (seqR (seqR (seqR (seqR (seqR (Try.f13.body.getD .skip)))))) (⟨(((mkSt 22 [(4, .nv (.one (.val (.int .i64 0)))), (13, .nv (.one (.chn 1)))] (mbMI sh cap buf cl)).tm.set 14 (.tup [.one (.val (.int .i64 0)), .one (.val (.bool false)), .one (.val (.int .i64 0))])).set 15 (iA 0)).set 16 (bA true), (mbMI sh cap buf cl)⟩) .ret (mkSt 22 [(2, .nv (.one (.val (.int .i64 0)))), (3, bA false)] (mbMI sh cap buf cl)) :=
  code_run Gml0_ok (orc := ⟨[true], []⟩) (obl := [true = true,
      (0 : Int) = (0 : Int),
      false = false,
      sh = sh,
      cap = cap,
      buf = buf,
      cl = cl]) (by kernel_rfl) (.cons (by rfl) (.cons (by rfl) (.cons (by rfl) (.cons (by rfl) (.cons (by rfl) (.cons (by rfl) (.cons (by rfl) .nil))))))) (Nat.le_of_ble_eq_true (by kernel_rfl))

set_option maxHeartbeats 2000000 in
theorem tak6nI (sh : Bool) (cap : Nat) (buf : List Value) (cl : Bool) : CodeOk Try.prog 2 (seqR (seqR (seqR (seqR (seqR (Try.f13.body.getD .skip)))))) (⟨(((mkSt 22 [(4, .nv (.one (.val (.int .i64 0)))), (13, .nv (.one (.chn 1)))] (mbMI sh cap buf cl)).tm.set 14 (.tup [.one (.val (.int .i64 (-1))), .one (.val (.bool false)), .one (.val (.int .i64 0))])).set 15 (iA (-1))).set 16 (bA false), (mbMI sh cap buf cl)⟩) .ret (mkSt 22 [(2, .nv (.one (.val (.int .i64 0)))), (3, bA false)] (mbMI sh cap buf cl)) :=
  code_run Gml0_ok (orc := ⟨[false], []⟩) (obl := [false = false,
      (0 : Int) = (0 : Int),
      false = false,
      sh = sh,
      cap = cap,
      buf = buf,
      cl = cl]) (by kernel_rfl) (.cons (by rfl) (.cons (by rfl) (.cons (by rfl) (.cons (by rfl) (.cons (by rfl) (.cons (by rfl) (.cons (by rfl) .nil))))))) (Nat.le_of_ble_eq_true (by kernel_rfl))

set_option maxHeartbeats 2000000 in
theorem snd_noS (cap : Nat) (buf : List Value) (cl : Bool) (x : ByteArray) : FnOk Try.prog 22 ([pz, .nv (.one (.val (.string x)))]) (mbMS true cap buf cl) (bA false) (mbMS true cap buf cl) :=
  fn_run Gml0_ok Try.func22 (orc := ⟨[true], []⟩) (obl := [(0 : Nat) = (0 : Nat),
      true = true,
      cap = cap,
      buf = buf,
      cl = cl,
      (!!true) = true,
      false = false,
      true = true,
      cap = cap,
      buf = buf,
      cl = cl]) (by kernel_rfl) (.cons (by rfl) (.cons (by rfl) (.cons (by rfl) (.cons (by rfl) (.cons (by rfl) (.cons (by rfl) (.cons (by rfl) (.cons (by rfl) (.cons (by rfl) (.cons (by rfl) (.cons (by rfl) .nil))))))))))) (Nat.le_of_ble_eq_true (by kernel_rfl))

set_option maxHeartbeats 2000000 in
theorem snd_nilS (x : ByteArray) : FnOk Try.prog 22 ([pnil, .nv (.one (.val (.string x)))]) ([]) (bA false) ([]) :=
  fn_run Gml0_ok Try.func22 (orc := ⟨[true], []⟩) (obl := [Value.pointer none = Value.pointer none,
      (!false) = true,
      false = false]) (by kernel_rfl) (.cons (by rfl) (.cons (by rfl) (.cons (by rfl) .nil))) (Nat.le_of_ble_eq_true (by kernel_rfl))

set_option maxHeartbeats 2000000 in
theorem snd0S (cap : Nat) (buf : List Value) (cl : Bool) (x : ByteArray) : CodeOk Try.prog 2 (seqL (Try.f22.body.getD .skip)) (mkSt 16 [(0, pz), (1, .nv (.one (.val (.string x))))] (mbMS false cap buf cl)) .normal (mkSt 16 [(0, pz), (1, .nv (.one (.val (.string x))))] (mbMS false cap buf cl)) :=
  code_run Gml0_ok (orc := ⟨[], []⟩) (obl := [(0 : Nat) = (0 : Nat),
      x = x,
      false = false,
      cap = cap,
      buf = buf,
      cl = cl]) (by kernel_rfl) (.cons (by rfl) (.cons (by rfl) (.cons (by rfl) (.cons (by rfl) (.cons (by rfl) (.cons (by rfl) .nil)))))) (Nat.le_of_ble_eq_true (by kernel_rfl))

set_option maxHeartbeats 2000000 in
theorem snd1S (cap : Nat) (buf : List Value) (cl : Bool) (x : ByteArray) : CodeOk Try.prog 2 (seqL (seqR (Try.f22.body.getD .skip))) (mkSt 16 [(0, pz), (1, .nv (.one (.val (.string x))))] (mbMS false cap buf cl)) .normal (mkSt 16 [(0, pz), (1, .nv (.one (.val (.string x))))] (mbMS false cap buf cl)) :=
  code_run Gml0_ok (orc := ⟨[false], []⟩) (obl := [(0 : Nat) = (0 : Nat),
      false = false,
      cap = cap,
      buf = buf,
      cl = cl,
      (!!false) = false,
      (0 : Nat) = (0 : Nat),
      x = x,
      false = false,
      cap = cap,
      buf = buf,
      cl = cl]) (by kernel_rfl) (.cons (by rfl) (.cons (by rfl) (.cons (by rfl) (.cons (by rfl) (.cons (by rfl) (.cons (by rfl) (.cons (by rfl) (.cons (by rfl) (.cons (by rfl) (.cons (by rfl) (.cons (by rfl) (.cons (by rfl) .nil)))))))))))) (Nat.le_of_ble_eq_true (by kernel_rfl))

set_option maxHeartbeats 2000000 in
theorem snd2S (cap : Nat) (buf : List Value) (cl : Bool) (x : ByteArray) : CodeOk Try.prog 2 (seqL (seqR (seqR (Try.f22.body.getD .skip)))) (mkSt 16 [(0, pz), (1, .nv (.one (.val (.string x))))] (mbMS false cap buf cl)) .normal (mkSt 16 [(11, .nv (.one (.chn 1))), (12, .nv (.one (.val (.string x))))] (mbMS false cap buf cl)) :=
  code_run Gml0_ok (orc := ⟨[], []⟩) (obl := [x = x,
      false = false,
      cap = cap,
      buf = buf,
      cl = cl]) (by kernel_rfl) (.cons (by rfl) (.cons (by rfl) (.cons (by rfl) (.cons (by rfl) (.cons (by rfl) .nil))))) (Nat.le_of_ble_eq_true (by kernel_rfl))

set_option maxHeartbeats 2000000 in
theorem snd6yS (cap : Nat) (buf : List Value) (cl : Bool) (x : ByteArray) : CodeOk Try.prog 2 (seqR (seqR (seqR (seqR (Try.f22.body.getD .skip))))) (⟨(((mkSt 16 [(11, .nv (.one (.chn 1))), (12, .nv (.one (.val (.string x))))] (mbMS false cap buf cl)).tm.set 13 (.tup [.one (.val (.int .i64 0)), .one (.val (.bool false))])).set 14 (iA 0)).set 15 (bA true), (mbMS false cap buf cl)⟩) .ret (mkSt 16 [(4, bA true)] (mbMS false cap buf cl)) :=
  code_run Gml0_ok (orc := ⟨[true], []⟩) (obl := [true = true,
      true = true,
      false = false,
      cap = cap,
      buf = buf,
      cl = cl]) (by kernel_rfl) (.cons (by rfl) (.cons (by rfl) (.cons (by rfl) (.cons (by rfl) (.cons (by rfl) (.cons (by rfl) .nil)))))) (Nat.le_of_ble_eq_true (by kernel_rfl))

set_option maxHeartbeats 2000000 in
theorem snd6nS (cap : Nat) (buf : List Value) (cl : Bool) (x : ByteArray) : CodeOk Try.prog 2 (seqR (seqR (seqR (seqR (Try.f22.body.getD .skip))))) (⟨(((mkSt 16 [(11, .nv (.one (.chn 1))), (12, .nv (.one (.val (.string x))))] (mbMS false cap buf cl)).tm.set 13 (.tup [.one (.val (.int .i64 (-1))), .one (.val (.bool false))])).set 14 (iA (-1))).set 15 (bA false), (mbMS false cap buf cl)⟩) .ret (mkSt 16 [(4, bA false)] (mbMS false cap buf cl)) :=
  code_run Gml0_ok (orc := ⟨[false], []⟩) (obl := [false = false,
      false = false,
      false = false,
      cap = cap,
      buf = buf,
      cl = cl]) (by kernel_rfl) (.cons (by rfl) (.cons (by rfl) (.cons (by rfl) (.cons (by rfl) (.cons (by rfl) (.cons (by rfl) .nil)))))) (Nat.le_of_ble_eq_true (by kernel_rfl))

set_option maxHeartbeats 2000000 in
theorem tak_nilS  : FnOk Try.prog 24 ([pnil]) ([]) (.tup [.one (.val (.string ByteArray.empty)), .one (.val (.bool false))]) ([]) :=
  fn_run Gml0_ok Try.func24 (orc := ⟨[true], []⟩) (obl := [true = true,
      (ByteArray.mk #[]) = ByteArray.empty,
      false = false]) (by kernel_rfl) (.cons (by rfl) (.cons (by rfl) (.cons (by rfl) .nil))) (Nat.le_of_ble_eq_true (by kernel_rfl))

set_option maxHeartbeats 2000000 in
theorem tak0S (sh : Bool) (cap : Nat) (buf : List Value) (cl : Bool) : CodeOk Try.prog 2 (seqL (Try.f24.body.getD .skip)) (mkSt 22 [(0, pz)] (mbMS sh cap buf cl)) .normal (mkSt 22 [(0, pz)] (mbMS sh cap buf cl)) :=
  code_run Gml0_ok (orc := ⟨[], []⟩) (obl := [(0 : Nat) = (0 : Nat),
      sh = sh,
      cap = cap,
      buf = buf,
      cl = cl]) (by kernel_rfl) (.cons (by rfl) (.cons (by rfl) (.cons (by rfl) (.cons (by rfl) (.cons (by rfl) .nil))))) (Nat.le_of_ble_eq_true (by kernel_rfl))

set_option maxHeartbeats 2000000 in
theorem tak1S (sh : Bool) (cap : Nat) (buf : List Value) (cl : Bool) : CodeOk Try.prog 2 (seqL (seqR (Try.f24.body.getD .skip))) (mkSt 22 [(0, pz)] (mbMS sh cap buf cl)) .normal (mkSt 22 [(0, pz), (4, .nv (.one (.val (.string ByteArray.empty))))] (mbMS sh cap buf cl)) :=
  code_run Gml0_ok (orc := ⟨[], []⟩) (obl := [(0 : Nat) = (0 : Nat),
      (ByteArray.mk #[]) = ByteArray.empty,
      sh = sh,
      cap = cap,
      buf = buf,
      cl = cl]) (by kernel_rfl) (.cons (by rfl) (.cons (by rfl) (.cons (by rfl) (.cons (by rfl) (.cons (by rfl) (.cons (by rfl) .nil)))))) (Nat.le_of_ble_eq_true (by kernel_rfl))

set_option maxHeartbeats 2000000 in
theorem tak2S (sh : Bool) (cap : Nat) (buf : List Value) (cl : Bool) : CodeOk Try.prog 2 (seqL (seqR (seqR (Try.f24.body.getD .skip)))) (mkSt 22 [(0, pz), (4, .nv (.one (.val (.string ByteArray.empty))))] (mbMS sh cap buf cl)) .normal (mkSt 22 [(0, pz), (4, .nv (.one (.val (.string ByteArray.empty))))] (mbMS sh cap buf cl)) :=
  code_run Gml0_ok (orc := ⟨[false], []⟩) (obl := [false = false,
      (0 : Nat) = (0 : Nat),
      ByteArray.empty = ByteArray.empty,
      sh = sh,
      cap = cap,
      buf = buf,
      cl = cl]) (by kernel_rfl) (.cons (by rfl) (.cons (by rfl) (.cons (by rfl) (.cons (by rfl) (.cons (by rfl) (.cons (by rfl) (.cons (by rfl) .nil))))))) (Nat.le_of_ble_eq_true (by kernel_rfl))

set_option maxHeartbeats 2000000 in
theorem tak3S (sh : Bool) (cap : Nat) (buf : List Value) (cl : Bool) : CodeOk Try.prog 2 (seqL (seqR (seqR (seqR (Try.f24.body.getD .skip))))) (mkSt 22 [(0, pz), (4, .nv (.one (.val (.string ByteArray.empty))))] (mbMS sh cap buf cl)) .normal (mkSt 22 [(4, .nv (.one (.val (.string ByteArray.empty)))), (13, .nv (.one (.chn 1)))] (mbMS sh cap buf cl)) :=
  code_run Gml0_ok (orc := ⟨[], []⟩) (obl := [ByteArray.empty = ByteArray.empty,
      sh = sh,
      cap = cap,
      buf = buf,
      cl = cl]) (by kernel_rfl) (.cons (by rfl) (.cons (by rfl) (.cons (by rfl) (.cons (by rfl) (.cons (by rfl) .nil))))) (Nat.le_of_ble_eq_true (by kernel_rfl))

set_option maxHeartbeats 2000000 in
theorem tak6yS (sh : Bool) (cap : Nat) (buf : List Value) (cl : Bool) (x : ByteArray) : CodeOk Try.prog 2 (seqR (seqR (seqR (seqR (seqR (Try.f24.body.getD .skip)))))) (⟨(((mkSt 22 [(4, .nv (.one (.val (.string ByteArray.empty)))), (13, .nv (.one (.chn 1)))] (mbMS sh cap buf cl)).tm.set 14 (.tup [.one (.val (.int .i64 0)), .one (.val (.bool true)), .one (.val (.string x))])).set 15 (iA 0)).set 16 (bA true), (mbMS sh cap buf cl)⟩) .ret (mkSt 22 [(2, .nv (.one (.val (.string x)))), (3, bA true)] (mbMS sh cap buf cl)) :=
  code_run Gml0_ok (orc := ⟨[true], []⟩) (obl := [true = true,
      x = x,
      true = true,
      sh = sh,
      cap = cap,
      buf = buf,
      cl = cl]) (by kernel_rfl) (.cons (by rfl) (.cons (by rfl) (.cons (by rfl) (.cons (by rfl) (.cons (by rfl) (.cons (by rfl) (.cons (by rfl) .nil))))))) (Nat.le_of_ble_eq_true (by kernel_rfl))

set_option maxHeartbeats 2000000 in
theorem tak6sS (sh : Bool) (cap : Nat) (buf : List Value) (cl : Bool) : CodeOk Try.prog 2 (seqR (seqR (seqR (seqR (seqR (Try.f24.body.getD .skip)))))) (⟨(((mkSt 22 [(4, .nv (.one (.val (.string ByteArray.empty)))), (13, .nv (.one (.chn 1)))] (mbMS sh cap buf cl)).tm.set 14 (.tup [.one (.val (.int .i64 0)), .one (.val (.bool false)), .one (.val (.string ByteArray.empty))])).set 15 (iA 0)).set 16 (bA true), (mbMS sh cap buf cl)⟩) .ret (mkSt 22 [(2, .nv (.one (.val (.string ByteArray.empty)))), (3, bA false)] (mbMS sh cap buf cl)) :=
  code_run Gml0_ok (orc := ⟨[true], []⟩) (obl := [true = true,
      ByteArray.empty = ByteArray.empty,
      false = false,
      sh = sh,
      cap = cap,
      buf = buf,
      cl = cl]) (by kernel_rfl) (.cons (by rfl) (.cons (by rfl) (.cons (by rfl) (.cons (by rfl) (.cons (by rfl) (.cons (by rfl) (.cons (by rfl) .nil))))))) (Nat.le_of_ble_eq_true (by kernel_rfl))

set_option maxHeartbeats 2000000 in
theorem tak6nS (sh : Bool) (cap : Nat) (buf : List Value) (cl : Bool) : CodeOk Try.prog 2 (seqR (seqR (seqR (seqR (seqR (Try.f24.body.getD .skip)))))) (⟨(((mkSt 22 [(4, .nv (.one (.val (.string ByteArray.empty)))), (13, .nv (.one (.chn 1)))] (mbMS sh cap buf cl)).tm.set 14 (.tup [.one (.val (.int .i64 (-1))), .one (.val (.bool false)), .one (.val (.string ByteArray.empty))])).set 15 (iA (-1))).set 16 (bA false), (mbMS sh cap buf cl)⟩) .ret (mkSt 22 [(2, .nv (.one (.val (.string ByteArray.empty)))), (3, bA false)] (mbMS sh cap buf cl)) :=
  code_run Gml0_ok (orc := ⟨[false], []⟩) (obl := [false = false,
      ByteArray.empty = ByteArray.empty,
      false = false,
      sh = sh,
      cap = cap,
      buf = buf,
      cl = cl]) (by kernel_rfl) (.cons (by rfl) (.cons (by rfl) (.cons (by rfl) (.cons (by rfl) (.cons (by rfl) (.cons (by rfl) (.cons (by rfl) .nil))))))) (Nat.le_of_ble_eq_true (by kernel_rfl))
end Go.Proofs.Ytajdkbgbekdbmaa

/- Runs of Go code, as printed by a program: no condition beyond those that each states. -/
import Derived.Test.YtfienpkogkepkaaTeH
import Derived.Test.YtfienpkogkepkaaChecked
import Derived.KernelRfl
namespace Go.Proofs.Ytfienpkogkepkaa
set_option linter.unusedVariables false
set_option linter.unusedSimpArgs false
set_option maxRecDepth 100000
open Go.RowKit E
attribute [local irreducible] bl8 bl32 wdN msk rgt hasB
set_option maxHeartbeats 2000000 in
theorem cv_n (a n b m : Int) (ha : 0 ≤ a) (ha2 : a ≤ 4294967295) (hb1 : 0 ≤ b) (hb2 : b ≤ 4294967295) (hr : rgt b m = false) : PureOk Try.prog 29 ([.nv (.agg [.val (.int .u32 (a)), .val (.int .i64 (n))]), .nv (.agg [.val (.int .u32 (b)), .val (.int .i64 (m))])]) (bA false) :=
  pure_run Gt2_ok Try.func29 (orc := ⟨[false, false], []⟩) (obl := [(0 : Int) ≤ b,
      b ≤ (4294967295 : Int),
      rgt b m = false,
      false = false,
      false = false]) (by kernel_rfl) (.cons (by assumption) (.cons (by assumption) (.cons (by assumption) (.cons (by rfl) (.cons (by rfl) .nil)))))

set_option maxHeartbeats 2000000 in
theorem cv_l (a n b m : Int) (ha : 0 ≤ a) (ha2 : a ≤ 4294967295) (hb1 : 0 ≤ b) (hb2 : b ≤ 4294967295) (hr : rgt b m = true) (h0 : ¬ n ≤ m) : PureOk Try.prog 29 ([.nv (.agg [.val (.int .u32 (a)), .val (.int .i64 (n))]), .nv (.agg [.val (.int .u32 (b)), .val (.int .i64 (m))])]) (bA false) :=
  pure_run Gt2_ok Try.func29 (orc := ⟨[true, false], []⟩) (obl := [(0 : Int) ≤ b,
      b ≤ (4294967295 : Int),
      rgt b m = true,
      decide (n ≤ m) = false,
      false = false]) (by kernel_rfl) (.cons (by assumption) (.cons (by assumption) (.cons (by assumption) (.cons (by exact decide_eq_false h0) (.cons (by rfl) .nil)))))

set_option maxHeartbeats 2000000 in
theorem cv_y (a n b m : Int) (ha : 0 ≤ a) (ha2 : a ≤ 4294967295) (hb1 : 0 ≤ b) (hb2 : b ≤ 4294967295) (r : Bool) (hr : rgt b m = true) (h0 : n ≤ m) (hh : hasB a n b = r) : PureOk Try.prog 29 ([.nv (.agg [.val (.int .u32 (a)), .val (.int .i64 (n))]), .nv (.agg [.val (.int .u32 (b)), .val (.int .i64 (m))])]) (bA r) :=
  pure_run Gt2_ok Try.func29 (orc := ⟨[true, true], []⟩) (obl := [(0 : Int) ≤ b,
      b ≤ (4294967295 : Int),
      rgt b m = true,
      decide (n ≤ m) = true,
      (0 : Int) ≤ a,
      a ≤ (4294967295 : Int),
      (0 : Int) ≤ b,
      b ≤ (4294967295 : Int),
      hasB a n b = r]) (by kernel_rfl) (.cons (by assumption) (.cons (by assumption) (.cons (by assumption) (.cons (by exact decide_eq_true h0) (.cons (by assumption) (.cons (by assumption) (.cons (by assumption) (.cons (by assumption) (.cons (by assumption) .nil)))))))))

set_option maxHeartbeats 2000000 in
theorem cm_f (a n b m : Int) (ha : 0 ≤ a) (ha2 : a ≤ 4294967295) (hb1 : 0 ≤ b) (hb2 : b ≤ 4294967295) (z k r : Int) (hz : bits .xor .u32 a b = z) (hz1 : 0 ≤ z) (hz2 : z ≤ 4294967295) (hk : List.foldl (fun (x y : Int) => if y < x then y else x) (IntKind.wrap .i64 (32 - bl32 z)) [n, m] = k) (hk1 : 0 ≤ k) (hk2 : k ≤ 32) (hr : bits .and .u32 a (msk k) = r) : PureOk Try.prog 31 ([.nv (.agg [.val (.int .u32 (a)), .val (.int .i64 (n))]), .nv (.agg [.val (.int .u32 (b)), .val (.int .i64 (m))])]) (.nv (.agg [.val (.int .u32 (r)), .val (.int .i64 (k))])) :=
  pure_run Gt2_ok Try.func31 (orc := ⟨[], []⟩) (obl := [(0 : Int) ≤ bits BinOp.xor IntKind.u32 a b,
      bits BinOp.xor IntKind.u32 a b ≤ (4294967295 : Int),
      (0 : Int) ≤ List.foldl (fun (x y : Int) => if y < x then y else x) (IntKind.wrap IntKind.i64 ((32 : Int) - bl32 (bits BinOp.xor IntKind.u32 a b))) [n, m],
      List.foldl (fun (x y : Int) => if y < x then y else x) (IntKind.wrap IntKind.i64 ((32 : Int) - bl32 (bits BinOp.xor IntKind.u32 a b))) [n, m] ≤ (32 : Int),
      bits BinOp.and IntKind.u32 a (msk (List.foldl (fun (x y : Int) => if y < x then y else x) (IntKind.wrap IntKind.i64 ((32 : Int) - bl32 (bits BinOp.xor IntKind.u32 a b))) [n, m])) = r,
      List.foldl (fun (x y : Int) => if y < x then y else x) (IntKind.wrap IntKind.i64 ((32 : Int) - bl32 (bits BinOp.xor IntKind.u32 a b))) [n, m] = k]) (by kernel_rfl) (.cons (by (rw [hz]; exact hz1)) (.cons (by (rw [hz]; exact hz2)) (.cons (by (simp only [hz, hk]; exact hk1)) (.cons (by (simp only [hz, hk]; exact hk2)) (.cons (by (simp only [hz, hk]; exact hr)) (.cons (by (simp only [hz]; exact hk)) .nil))))))

set_option maxHeartbeats 2000000 in
theorem sd_f (a n x y s : Int) (u : Bool) (c d : At) (h0 : 0 ≤ n) (h1 : n ≤ 31) (hs : IntKind.wrap .i64 (bits .and .u32 (Int.fdiv x (2 ^ min (Int.toNat (31 - n)) (IntKind.bits .u32))) 1) = s) : FnOk Try.prog 23 ([.nv (.one (.ptr 0 0)), .nv (.one (.val (.int .u32 (x))))]) ([.robox 55 [.val (.int .u32 a), .val (.int .i64 n), .val (.bool u), .val (.int .i64 y), c, d]]) (iA s) ([.gone]) :=
  fn_run Gt2_ok Try.func23 (orc := ⟨[], []⟩) (obl := [(0 : Int) ≤ IntKind.wrap IntKind.i64 ((31 : Int) - n),
      IntKind.wrap IntKind.i64 (bits BinOp.and IntKind.u32 (Int.fdiv x ((2 : Int) ^ min (Int.toNat (IntKind.wrap IntKind.i64 ((31 : Int) - n))) (IntKind.bits IntKind.u32))) (1 : Int)) = s]) (by kernel_rfl) (.cons (by (rw [w64 (b := 31 - n) rfl (by omega)]; omega)) (.cons (by (rw [w64 (b := 31 - n) rfl (by omega)]; omega)) .nil)) (Nat.le_of_ble_eq_true (by kernel_rfl))
end Go.Proofs.Ytfienpkogkepkaa

/- addresses: Covers, common, side. No condition. -/
namespace Go.Proofs.Ytfienpkogkepkaa
set_option linter.unusedVariables false
set_option linter.unusedSimpArgs false
open Go.RowKit E
def covB (a n b m : Int) : Bool := rgt b m && decide (n ≤ m) && hasB a n b
theorem fnCovers (a n b m : Int) (ha : 0 ≤ a ∧ a ≤ 4294967295) (hb : 0 ≤ b ∧ b ≤ 4294967295) : PureOk Try.prog 29 [.nv (.agg [.val (.int .u32 a), .val (.int .i64 n)]), .nv (.agg [.val (.int .u32 b), .val (.int .i64 m)])] (bA (covB a n b m)) := by
  unfold covB
  cases hr : rgt b m with
  | false => exact cv_n a n b m ha.1 ha.2 hb.1 hb.2 hr
  | true =>
    by_cases h0 : n ≤ m
    · rw [decide_eq_true h0]; exact cv_y a n b m ha.1 ha.2 hb.1 hb.2 _ hr h0 rfl
    · rw [decide_eq_false h0]; exact cv_l a n b m ha.1 ha.2 hb.1 hb.2 hr h0
/-- How many bits two prefixes have in common. -/
def comN (a n b m : Int) : Int := min (min (32 - bl32 (bits .xor .u32 a b)) n) m
theorem xor_bd {a b : Int} (ha : 0 ≤ a ∧ a ≤ 4294967295) (hb : 0 ≤ b ∧ b ≤ 4294967295) : 0 ≤ bits .xor .u32 a b ∧ bits .xor .u32 a b ≤ 4294967295 := by
  obtain ⟨x, rfl⟩ := Int.eq_ofNat_of_zero_le ha.1
  obtain ⟨y, rfl⟩ := Int.eq_ofNat_of_zero_le hb.1
  rw [bits_xor32 x y (by omega) (by omega)]
  have := Nat.xor_lt_two_pow (x := x) (y := y) (n := 32) (by omega) (by omega)
  omega
theorem comN_bd {a n b m : Int} (ha : 0 ≤ a ∧ a ≤ 4294967295) (hb : 0 ≤ b ∧ b ≤ 4294967295) (hn : 0 ≤ n) (hm : 0 ≤ m) : 0 ≤ comN a n b m ∧ comN a n b m ≤ 32 ∧ comN a n b m ≤ n ∧ comN a n b m ≤ m := by
  obtain ⟨k, k1, k2, _⟩ := bl32_spec (xor_bd ha hb)
  unfold comN
  omega
theorem fnCommon (a n b m : Int) (ha : 0 ≤ a ∧ a ≤ 4294967295) (hb : 0 ≤ b ∧ b ≤ 4294967295) (hn : 0 ≤ n) (hm : 0 ≤ m) : PureOk Try.prog 31 [.nv (.agg [.val (.int .u32 a), .val (.int .i64 n)]), .nv (.agg [.val (.int .u32 b), .val (.int .i64 m)])]
    (.nv (.agg [.val (.int .u32 (a - a % (wdN (comN a n b m) : Int))), .val (.int .i64 (comN a n b m))])) := by
  have hx := xor_bd ha hb
  have hc := comN_bd ha hb hn hm
  obtain ⟨k, k1, k2, _⟩ := bl32_spec hx
  refine cm_f a n b m ha.1 ha.2 hb.1 hb.2 _ (comN a n b m) _ rfl hx.1 hx.2 ?_ hc.1 hc.2.1 (and_msk ha ⟨hc.1, hc.2.1⟩)
  rw [w64 (a := 32 - bl32 _) rfl (by omega)]
  simp only [List.foldl_cons, List.foldl_nil]
  unfold comN
  split <;> split <;> omega
/-- Which side of a prefix an address is on. -/
def sdN (x n : Int) : Int := (x / (wdN (n + 1) : Int)) % 2
theorem fnSide (a n x y : Int) (u : Bool) (hx : 0 ≤ x ∧ x ≤ 4294967295) (hn : 0 ≤ n ∧ n ≤ 31) : FnOk Try.prog 23 [.nv (.one (.ptr 0 0)), .nv (.one (.val (.int .u32 x)))] [.robox 55 [.val (.int .u32 a), .val (.int .i64 n), .val (.bool u), .val (.int .i64 y), .any, .any]] (iA (sdN x n)) [.gone] := by
  refine sd_f a n x y _ u .any .any hn.1 hn.2 ?_
  have e : min (31 - n).toNat (IntKind.bits .u32) = (31 - n).toNat := by simp [IntKind.bits]; omega
  rw [e, side_bit hx hn]
  unfold sdN
  exact w64 rfl (by omega)
def gCovers : List SV → Option (SV × List Prop)
  | [.nv (.agg [.val (.int .u32 a), .val (.int .i64 n)]), .nv (.agg [.val (.int .u32 b), .val (.int .i64 m)])] => some (bA (covB a n b m), [0 ≤ a, a ≤ 4294967295, 0 ≤ b, b ≤ 4294967295])
  | _ => none
theorem spCovers : SpOk Try.prog 29 (pureS gCovers) := pureS_ok (by
  intro args r obl h ho
  unfold gCovers at h
  split at h
  · simp only [Option.some.injEq, Prod.mk.injEq] at h
    obtain ⟨rfl, rfl⟩ := h
    exact ⟨rfl, rfl, fnCovers _ _ _ _ ⟨ho.1, ho.2.1⟩ ⟨ho.2.2.1, ho.2.2.2.1⟩⟩
  · cases h)
def gCommon : List SV → Option (SV × List Prop)
  | [.nv (.agg [.val (.int .u32 a), .val (.int .i64 n)]), .nv (.agg [.val (.int .u32 b), .val (.int .i64 m)])] => some (.nv (.agg [.val (.int .u32 (a - a % (wdN (comN a n b m) : Int))), .val (.int .i64 (comN a n b m))]), [0 ≤ a, a ≤ 4294967295, 0 ≤ b, b ≤ 4294967295, 0 ≤ n, 0 ≤ m])
  | _ => none
theorem spCommon : SpOk Try.prog 31 (pureS gCommon) := pureS_ok (by
  intro args r obl h ho
  unfold gCommon at h
  split at h
  · simp only [Option.some.injEq, Prod.mk.injEq] at h
    obtain ⟨rfl, rfl⟩ := h
    exact ⟨rfl, rfl, fnCommon _ _ _ _ ⟨ho.1, ho.2.1⟩ ⟨ho.2.2.1, ho.2.2.2.1⟩ ho.2.2.2.2.1 ho.2.2.2.2.2.1⟩
  · cases h)
/-- side, told what it gives. -/
def gSide (s : Int) : List SV → List Seg → Option (CS × List Prop)
  | [.nv (.one (.ptr h 0)), .nv (.one (.val (.int .u32 x)))], mem => match mem[h]? with
    | some (.box _ [.val (.int .u32 a), .val (.int .i64 n), .val (.bool u), .val (.int .i64 y), _, _]) | some (.robox _ [.val (.int .u32 a), .val (.int .i64 n), .val (.bool u), .val (.int .i64 y), _, _]) =>
      some (⟨[.nv (.one (.ptr 0 0)), .nv (.one (.val (.int .u32 x)))], [.robox 55 [.val (.int .u32 a), .val (.int .i64 n), .val (.bool u), .val (.int .i64 y), .any, .any]], iA s, [.gone]⟩, [0 ≤ x, x ≤ 4294967295, 0 ≤ n, n ≤ 31, sdN x n = s])
    | _ => none
  | _, _ => none
theorem spSide (s : Int) : SpOk Try.prog 23 (.lift (gSide s)) := by
  intro args mem cs obl h ho
  unfold gSide at h
  split at h
  · split at h
    · simp only [Option.some.injEq, Prod.mk.injEq] at h
      obtain ⟨rfl, rfl⟩ := h
      have := ho.2.2.2.2.1
      subst this
      exact fnSide _ _ _ _ _ ⟨ho.1, ho.2.1⟩ ⟨ho.2.2.1, ho.2.2.2.1⟩
    · simp only [Option.some.injEq, Prod.mk.injEq] at h
      obtain ⟨rfl, rfl⟩ := h
      have := ho.2.2.2.2.1
      subst this
      exact fnSide _ _ _ _ _ ⟨ho.1, ho.2.1⟩ ⟨ho.2.2.1, ho.2.2.2.1⟩
    · cases h
  · cases h
def Gt3 : List (FuncId × Sp) := (29, pureS gCovers) :: (31, pureS gCommon) :: Gt2
theorem Gt3_ok : CtxOk Try.prog Gt3 := ctx_cons (enter_of Try.func29 (by kernel_rfl) (by kernel_rfl)) spCovers <|
  ctx_cons (enter_of Try.func31 (by kernel_rfl) (by kernel_rfl)) spCommon Gt2_ok
def Gs0 : List (FuncId × Sp) := (23, .lift (gSide 0)) :: Gt3
theorem Gs0_ok : CtxOk Try.prog Gs0 := ctx_cons (enter_of Try.func23 (by kernel_rfl) (by kernel_rfl)) (spSide 0) Gt3_ok
def Gs1 : List (FuncId × Sp) := (23, .lift (gSide 1)) :: Gt3
theorem Gs1_ok : CtxOk Try.prog Gs1 := ctx_cons (enter_of Try.func23 (by kernel_rfl) (by kernel_rfl)) (spSide 1) Gt3_ok
end Go.Proofs.Ytfienpkogkepkaa

/- wire: rows of fields put, held side by side, and counted; numbers read: plain functions. No condition. -/
import Derived.Test.YteehpliloegkgaaWrV
import Derived.Laws.BitsAllLaws
import Derived.Test.YteehpliloegkgaaChecked
import Derived.KernelRfl
namespace Go.Proofs.Yteehpliloegkgaa
set_option linter.unusedVariables false
set_option linter.unusedSimpArgs false
open Go.RowKit E

def mn7 (n : Int) : Int := if (70000 : Int) < n then 70000 else n
def fewT (L : Nat → Fl) : Nat → Int
  | 0 => 0
  | i + 1 => fewT L i + (mn7 (L i).s.size + 1)
theorem mn7_bd {n : Int} (h : 0 ≤ n) : 0 ≤ mn7 n ∧ mn7 n ≤ 70000 := by unfold mn7; split <;> omega
theorem fewT_up (L : Nat → Fl) : ∀ {j i : Nat}, i ≤ j → fewT L i ≤ fewT L j
  | 0, i, h => by have : i = 0 := by omega
                  subst this; exact Int.le_refl _
  | j + 1, i, h => by
    by_cases e : i = j + 1
    · subst e; exact Int.le_refl _
    · have := fewT_up L (j := j) (i := i) (by omega)
      have := mn7_bd (n := ((L j).s.size : Int)) (by omega)
      rw [fewT]; omega
theorem fewT_pos (L : Nat → Fl) (i : Nat) : 0 ≤ fewT L i := fewT_up L (Nat.zero_le i)
def fewB (L : Nat → Fl) (len : Nat) : Bool := decide (fewT L len ≤ 80000) && decide (len ≤ 200)
def idF : Fl := ⟨0, 0, .empty⟩
/-- A number whose low i bits are nought, with one of i bits. -/
theorem orZ (i : Nat) {a b : Int} (h0 : 0 ≤ a) (h1 : a < 18446744073709551616) (h2 : a % 2 ^ i = 0) (h3 : 0 ≤ b) (h4 : b < 2 ^ i) (h5 : b < 18446744073709551616) : bits .or .u64 a b = a + b := by
  rw [u64_or a b h0 h1 h3 h5]
  obtain ⟨a, rfl⟩ := Int.eq_ofNat_of_zero_le h0
  obtain ⟨b, rfl⟩ := Int.eq_ofNat_of_zero_le h3
  simp only [Int.toNat_natCast]
  have e : (2 : Int) ^ i = ((2 ^ i : Nat) : Int) := by rw [Int.natCast_pow]; rfl
  rw [e] at h2 h4
  have hm : a % 2 ^ i = 0 := by exact_mod_cast h2
  have hb : b < 2 ^ i := by exact_mod_cast h4
  have hq : a = 2 ^ i * (a / 2 ^ i) := by
    have := Nat.div_add_mod a (2 ^ i); omega
  rw [hq, ← Nat.two_pow_add_eq_or_of_lt hb (a / 2 ^ i)]
  omega
theorem orZ' (i : Nat) {a b : Int} (h0 : 0 ≤ a) (h1 : a < 18446744073709551616) (h2 : a % 2 ^ i = 0) (h3 : 0 ≤ b) (h4 : b < 2 ^ i) (h5 : b < 18446744073709551616) : bits .or .u64 b a = b + a := by
  rw [u64_or b a h3 h5 h0 h1, Nat.or_comm, ← u64_or a b h0 h1 h3 h5, orZ i h0 h1 h2 h3 h4 h5, Int.add_comm]
/-- A number of bytes, the highest first, behind one. -/
def bigZ (n : Int) : List Int → Int
  | [] => n
  | c :: l => bigZ (n * 256 + c) l
/-- A number of as few bytes as it takes, with which a row begins: the number, how many bytes, what is wrong. -/
def numL : Nat → Int → List Int → Int × Int × Int
  | _, _, [] => (0, 0, 2)
  | i, n, c :: l => if (i = 9 ∧ 1 < c) ∨ (0 < i ∧ c = 0) then (0, 0, 3) else if c < 128 then (n + c * 128 ^ i, i + 1, 0) else numL (i + 1) (n + (c - 128) * 128 ^ i) l
end Go.Proofs.Yteehpliloegkgaa

/- Runs of Go code, as printed by a program: no condition beyond those that each states. -/
namespace Go.Proofs.Yteehpliloegkgaa
set_option linter.unusedVariables false
set_option linter.unusedSimpArgs false
set_option maxRecDepth 100000
open Go.RowKit E
set_option maxHeartbeats 2000000 in
theorem rp_n (len i : Nat) (L : Nat → Fl) (s r : ByteArray) (hi : i < len) (hl : len ≤ 1000) (w0 : 0 ≤ (L i).n) (w1 : (L i).n ≤ 18446744073709551615) (ck : ckZ ⟨(L i).k, (L i).n, (L i).s⟩ = 0) (hz : ((s.size + (oneStr ⟨(L i).k, (L i).n, (L i).s⟩).size : Nat) : Int) ≤ IntKind.max IntKind.i64) (er : s ++ oneStr ⟨(L i).k, (L i).n, (L i).s⟩ = r) : CodeOk Try.prog 1 (loopOf Try.f29 0) (mkSt 29 [(0, .nv (.one (.own 0))), (4, sA s), (5, iA i)] [.ro 3 len (gF L)]) .normal (mkSt 29 [(0, .nv (.one (.own 0))), (4, sA r), (5, iA (i + 1 : Nat))] [.ro 3 len (gF L)]) :=
  code_run GbA_ok (orc := ⟨[true, false], []⟩) (obl := [decide ((↑i : Int) < (↑len : Int)) = true,
      (0 : Int) ≤ (↑i : Int),
      (↑i : Int) < (↑len : Int),
      Int.toNat (↑i : Int) < len,
      (0 : Int) ≤ Fl.n (L (Int.toNat (↑i : Int))),
      Fl.n (L (Int.toNat (↑i : Int))) ≤ (18446744073709551615 : Int),
      (ckZ { k := Fl.k (L (Int.toNat (↑i : Int))), n := Fl.n (L (Int.toNat (↑i : Int))), s := Fl.s (L (Int.toNat (↑i : Int))) } != (0 : Int)) = false,
      (↑(ByteArray.size s + ByteArray.size (oneStr { k := Fl.k (L (Int.toNat (↑i : Int))), n := Fl.n (L (Int.toNat (↑i : Int))), s := Fl.s (L (Int.toNat (↑i : Int))) })) : Int) ≤ IntKind.max IntKind.i64,
      s ++ oneStr { k := Fl.k (L (Int.toNat (↑i : Int))), n := Fl.n (L (Int.toNat (↑i : Int))), s := Fl.s (L (Int.toNat (↑i : Int))) } = r,
      IntKind.wrap IntKind.i64 ((↑i : Int) + (1 : Int)) = (↑(i + (1 : Nat)) : Int),
      len = len,
      ∀ (i : Nat), i < len → Fl.k (L i) = Fl.k (L i) ∧ Fl.n (L i) = Fl.n (L i) ∧ Fl.s (L i) = Fl.s (L i) ∧ True]) (by kernel_rfl) (.cons (by exact decide_eq_true (by omega)) (.cons (by omega) (.cons (by omega) (.cons (by assumption) (.cons (by assumption) (.cons (by assumption) (.cons (by exact bne_eq_false_iff_eq.2 ck) (.cons (by assumption) (.cons (by assumption) (.cons (by exact w64 (by omega) (by omega)) (.cons (by rfl) (.cons (by (intro _ _; exact ⟨rfl, rfl, rfl, trivial⟩)) .nil)))))))))))) (Nat.le_of_ble_eq_true (by kernel_rfl))

set_option maxHeartbeats 2000000 in
theorem rp_r (len i : Nat) (c : Int) (L : Nat → Fl) (s : ByteArray) (hi : i < len) (hl : len ≤ 1000) (w0 : 0 ≤ (L i).n) (w1 : (L i).n ≤ 18446744073709551615) (ck : ckZ ⟨(L i).k, (L i).n, (L i).s⟩ = c) (hc : c ≠ 0) : CodeOk Try.prog 1 (loopOf Try.f29 0) (mkSt 29 [(0, .nv (.one (.own 0))), (4, sA s), (5, iA i)] [.ro 3 len (gF L)]) .ret (mkSt 29 [(2, sA ⟨#[]⟩), (3, iA c)] [.ro 3 len (gF L)]) :=
  code_run GbA_ok (orc := ⟨[true, true], []⟩) (obl := [decide ((↑i : Int) < (↑len : Int)) = true,
      (0 : Int) ≤ (↑i : Int),
      (↑i : Int) < (↑len : Int),
      Int.toNat (↑i : Int) < len,
      (0 : Int) ≤ Fl.n (L (Int.toNat (↑i : Int))),
      Fl.n (L (Int.toNat (↑i : Int))) ≤ (18446744073709551615 : Int),
      (ckZ { k := Fl.k (L (Int.toNat (↑i : Int))), n := Fl.n (L (Int.toNat (↑i : Int))), s := Fl.s (L (Int.toNat (↑i : Int))) } != (0 : Int)) = true,
      (ByteArray.mk #[]) = (ByteArray.mk #[]),
      ckZ { k := Fl.k (L (Int.toNat (↑i : Int))), n := Fl.n (L (Int.toNat (↑i : Int))), s := Fl.s (L (Int.toNat (↑i : Int))) } = c,
      len = len,
      ∀ (i : Nat), i < len → Fl.k (L i) = Fl.k (L i) ∧ Fl.n (L i) = Fl.n (L i) ∧ Fl.s (L i) = Fl.s (L i) ∧ True]) (by kernel_rfl) (.cons (by exact decide_eq_true (by omega)) (.cons (by omega) (.cons (by omega) (.cons (by assumption) (.cons (by assumption) (.cons (by assumption) (.cons (by exact bne_iff_ne.2 (by intro e; exact hc (ck.symm.trans e))) (.cons (by rfl) (.cons (by assumption) (.cons (by rfl) (.cons (by (intro _ _; exact ⟨rfl, rfl, rfl, trivial⟩)) .nil))))))))))) (Nat.le_of_ble_eq_true (by kernel_rfl))

set_option maxHeartbeats 2000000 in
theorem rp_e (len : Nat) (L : Nat → Fl) (s : ByteArray) : CodeOk Try.prog 1 (loopOf Try.f29 0) (mkSt 29 [(0, .nv (.one (.own 0))), (4, sA s), (5, iA len)] [.ro 3 len (gF L)]) (.exit 0) (mkSt 29 [(4, sA s)] [.ro 3 len (gF L)]) :=
  code_run GbA_ok (orc := ⟨[false], []⟩) (obl := [decide ((↑len : Int) < (↑len : Int)) = false,
      s = s,
      len = len,
      ∀ (i : Nat), i < len → Fl.k (L i) = Fl.k (L i) ∧ Fl.n (L i) = Fl.n (L i) ∧ Fl.s (L i) = Fl.s (L i) ∧ True]) (by kernel_rfl) (.cons (by exact decide_eq_false (by omega)) (.cons (by rfl) (.cons (by rfl) (.cons (by (intro _ _; exact ⟨rfl, rfl, rfl, trivial⟩)) .nil)))) (Nat.le_of_ble_eq_true (by kernel_rfl))

set_option maxHeartbeats 2000000 in
theorem rp_k (len : Nat) (L : Nat → Fl) (s : ByteArray) (l0 : CodeOk Try.prog 1 (.loop (loopOf Try.f29 0)) (mkSt 29 [(0, .nv (.one (.own 0))), (4, sA ⟨#[]⟩), (5, iA (0 : Nat))] [.ro 3 len (gF L)]) (.exit 0) (mkSt 29 [(4, sA s)] [.ro 3 len (gF L)])) : FnOk Try.prog 29 ([.nv (.one (.own 0))]) ([.ro 3 len (gF L)]) (.tup [.one (.val (.string s)), .one (.val (.int .i64 0))]) ([.ro 3 len (gF L)]) :=
  fn_run GbA_ok Try.func29 (orc := ⟨[], [⟨mkSt 29 [(0, .nv (.one (.own 0))), (4, sA ⟨#[]⟩), (5, iA (0 : Nat))] [.ro 3 len (gF L)], .exit 0, mkSt 29 [(4, sA s)] [.ro 3 len (gF L)]⟩]⟩) (obl := [(ByteArray.mk #[]) = (ByteArray.mk #[]),
      (0 : Int) = (↑(0 : Nat) : Int),
      len = len,
      ∀ (i : Nat), i < len → Fl.k (L i) = Fl.k (L i) ∧ Fl.n (L i) = Fl.n (L i) ∧ Fl.s (L i) = Fl.s (L i) ∧ True,
      (1 : Nat) ≤ (1 : Nat),
      CodeOk Try.prog (1 : Nat) (Code.loop (loopOf Try.f29 (0 : Nat))) (mkSt (29 : Nat) [((0 : Nat), SV.nv (NV.one (At.own (0 : Nat)))), ((4 : Nat), sA (ByteArray.mk #[])), ((5 : Nat), iA (↑(0 : Nat) : Int))] [Seg.ro (3 : Nat) len (gF L)]) (Ex.exit (0 : Nat)) (mkSt (29 : Nat) [((4 : Nat), sA s)] [Seg.ro (3 : Nat) len (gF L)]),
      s = s,
      (0 : Int) = (0 : Int),
      len = len,
      ∀ (i : Nat), i < len → Fl.k (L i) = Fl.k (L i) ∧ Fl.n (L i) = Fl.n (L i) ∧ Fl.s (L i) = Fl.s (L i) ∧ True]) (by kernel_rfl) (.cons (by rfl) (.cons (by rfl) (.cons (by rfl) (.cons (by (intro _ _; exact ⟨rfl, rfl, rfl, trivial⟩)) (.cons (by trivial) (.cons (by assumption) (.cons (by rfl) (.cons (by rfl) (.cons (by rfl) (.cons (by (intro _ _; exact ⟨rfl, rfl, rfl, trivial⟩)) .nil)))))))))) (Nat.le_of_ble_eq_true (by kernel_rfl))

set_option maxHeartbeats 2000000 in
theorem rp_x (len : Nat) (c : Int) (L : Nat → Fl) (l0 : CodeOk Try.prog 1 (.loop (loopOf Try.f29 0)) (mkSt 29 [(0, .nv (.one (.own 0))), (4, sA ⟨#[]⟩), (5, iA (0 : Nat))] [.ro 3 len (gF L)]) .ret (mkSt 29 [(2, sA ⟨#[]⟩), (3, iA c)] [.ro 3 len (gF L)])) : FnOk Try.prog 29 ([.nv (.one (.own 0))]) ([.ro 3 len (gF L)]) (.tup [.one (.val (.string ⟨#[]⟩)), .one (.val (.int .i64 c))]) ([.ro 3 len (gF L)]) :=
  fn_run GbA_ok Try.func29 (orc := ⟨[], [⟨mkSt 29 [(0, .nv (.one (.own 0))), (4, sA ⟨#[]⟩), (5, iA (0 : Nat))] [.ro 3 len (gF L)], .ret, mkSt 29 [(2, sA ⟨#[]⟩), (3, iA c)] [.ro 3 len (gF L)]⟩]⟩) (obl := [(ByteArray.mk #[]) = (ByteArray.mk #[]),
      (0 : Int) = (↑(0 : Nat) : Int),
      len = len,
      ∀ (i : Nat), i < len → Fl.k (L i) = Fl.k (L i) ∧ Fl.n (L i) = Fl.n (L i) ∧ Fl.s (L i) = Fl.s (L i) ∧ True,
      (1 : Nat) ≤ (1 : Nat),
      CodeOk Try.prog (1 : Nat) (Code.loop (loopOf Try.f29 (0 : Nat))) (mkSt (29 : Nat) [((0 : Nat), SV.nv (NV.one (At.own (0 : Nat)))), ((4 : Nat), sA (ByteArray.mk #[])), ((5 : Nat), iA (↑(0 : Nat) : Int))] [Seg.ro (3 : Nat) len (gF L)]) Ex.ret (mkSt (29 : Nat) [((2 : Nat), sA (ByteArray.mk #[])), ((3 : Nat), iA c)] [Seg.ro (3 : Nat) len (gF L)]),
      (ByteArray.mk #[]) = (ByteArray.mk #[]),
      c = c,
      len = len,
      ∀ (i : Nat), i < len → Fl.k (L i) = Fl.k (L i) ∧ Fl.n (L i) = Fl.n (L i) ∧ Fl.s (L i) = Fl.s (L i) ∧ True]) (by kernel_rfl) (.cons (by rfl) (.cons (by rfl) (.cons (by rfl) (.cons (by (intro _ _; exact ⟨rfl, rfl, rfl, trivial⟩)) (.cons (by trivial) (.cons (by assumption) (.cons (by rfl) (.cons (by rfl) (.cons (by rfl) (.cons (by (intro _ _; exact ⟨rfl, rfl, rfl, trivial⟩)) .nil)))))))))) (Nat.le_of_ble_eq_true (by kernel_rfl))

end Go.Proofs.Yteehpliloegkgaa

/- wire: the document's Put, Same, and Few, as specifications. No condition. -/
namespace Go.Proofs.Yteehpliloegkgaa
set_option linter.unusedVariables false
set_option linter.unusedSimpArgs false
open Go.RowKit E

theorem oneStr_ok {f : Fl} (h : ckZ f = 0) : oneStr f = strL (putL f) := by unfold oneStr; rw [if_pos h]
theorem fnRPut (len : Nat) (L : Nat → Fl) (hl : len ≤ 1000) (hw : ∀ i, i < len → (L i).wf) :
    FnOk Try.prog 29 [.nv (.one (.own 0))] [.ro 3 len (gF L)] (.tup [.one (.val (.string (putStr L len))), .one (.val (.int .i64 (badZ L len)))]) [.ro 3 len (gF L)] := by
  have step : ∀ p i, badZ L p = 0 → i < p → p ≤ len → CodeOk Try.prog 1 (loopOf Try.f29 0) (mkSt 29 [(0, .nv (.one (.own 0))), (4, sA (strL (putAll L i))), (5, iA i)] [.ro 3 len (gF L)]) .normal (mkSt 29 [(0, .nv (.one (.own 0))), (4, sA (strL (putAll L (i + 1)))), (5, iA (i + 1 : Nat))] [.ro 3 len (gF L)]) := by
    intro p i hp hi hpl
    obtain ⟨h1, h2⟩ := badZ_low hp i hi
    have hil := putAll_len h1
    have hf := hw i (by omega)
    obtain ⟨k1, k2, _⟩ := ckZ_ok h2
    have hpu := putL_len k1
    have := Nat.mul_le_mul_right 65545 (show i ≤ 1000 by omega)
    have eo : oneStr ⟨(L i).k, (L i).n, (L i).s⟩ = strL (putL (L i)) := oneStr_ok h2
    exact rp_n len i L _ _ (by omega) hl hf.1 (by have := hf.2; omega) h2 (by rw [eo, strL_size, strL_size, show IntKind.max IntKind.i64 = 9223372036854775807 from rfl]; omega) (by rw [eo, putAll, strL_app (inB_all h1 (fun j hj => hw j (by omega))) (inB_put h2 hf)])
  by_cases hb : badZ L len = 0
  · unfold putStr
    rw [if_pos hb, hb]
    refine rp_k len L _ ?_
    refine loop_ok (α := Nat) (fun i => mkSt 29 [(0, .nv (.one (.own 0))), (4, sA (strL (putAll L i))), (5, iA i)] [.ro 3 len (gF L)]) (fun i => i ≤ len) (fun i => len - i) (by simp) ?_ (x := 0) (Nat.zero_le _)
    intro i hi
    by_cases e : i = len
    · subst e; exact .inr (rp_e i L _)
    · exact .inl ⟨i + 1, (show i + 1 ≤ len by omega), (show len - (i + 1) < len - i by omega), step len i hb (by omega) (Nat.le_refl _)⟩
  · unfold putStr
    rw [if_neg hb]
    obtain ⟨p, hp, hp0, hpc⟩ := badZ_at hb
    refine rp_x len (badZ L len) L ?_
    refine loop_ok (α := Nat) (fun i => mkSt 29 [(0, .nv (.one (.own 0))), (4, sA (strL (putAll L i))), (5, iA i)] [.ro 3 len (gF L)]) (fun i => i ≤ p) (fun i => p - i) (by simp) ?_ (x := 0) (Nat.zero_le _)
    intro i hi
    by_cases e : i = p
    · subst e
      have hf := hw i (by omega)
      exact .inr (rp_r len i _ L _ hp hl hf.1 (by have := hf.2; omega) hpc hb)
    · exact .inl ⟨i + 1, (show i + 1 ≤ p by omega), (show p - (i + 1) < p - i by omega), step p i hp0 (by omega) (by omega)⟩
def gRPut : List SV → List Seg → Option (CS × List Prop)
  | [.nv (.one a)], mem => match srcOf mem 3 a with
    | some (n, g, _) => some (⟨[.nv (.one (.own 0))], [.ro 3 n (gF (flOf g))], .tup [.one (.val (.string (putStr (flOf g) n))), .one (.val (.int .i64 (badZ (flOf g) n)))], [.ro 3 n (gF (flOf g))]⟩, [n ≤ 1000, ∀ i, i < n → (flOf g i).wf])
    | none => none
  | _, _ => none
theorem spRPut : SpOk Try.prog 29 (.lift gRPut) := by
  intro args mem cs obl h ho
  unfold gRPut at h
  split at h
  · split at h
    · simp only [Option.some.injEq, Prod.mk.injEq] at h
      obtain ⟨rfl, rfl⟩ := h
      exact fnRPut _ _ ho.1 ho.2.1
    · cases h
  · cases h
def gSame : List SV → List Seg → Option (CS × List Prop)
  | [.nv (.one a), .nv (.one b)], mem => match srcOf mem 3 a, srcOf mem 3 b with
    | some (n, g, _), some (m, g2, _) => some (⟨[.nv (.one (.own 0)), .nv (.one (.own 1))], [.ro 3 n (gF (flOf g)), .ro 3 n (gF (flOf g2))], bA true, [.ro 3 n (gF (flOf g)), .ro 3 n (gF (flOf g2))]⟩, [n ≤ 100000, ∀ i, i < n → flOf g i = flOf g2 i])
    | _, _ => none
  | _, _ => none
def gFew : List SV → List Seg → Option (CS × List Prop)
  | [.nv (.one a)], mem => match srcOf mem 3 a with
    | some (n, g, _) => some (⟨[.nv (.one (.own 0))], [.ro 3 n (gF (flOf g))], bA (fewB (flOf g) n), [.ro 3 n (gF (flOf g))]⟩, [n ≤ 9223372036854775807])
    | none => none
  | _, _ => none
def GbB : List (FuncId × Sp) := (29, .lift gRPut) :: GbA
theorem GbB_ok : CtxOk Try.prog GbB := ctx_cons (enter_of Try.func29 (by kernel_rfl) (by kernel_rfl)) spRPut GbA_ok
end Go.Proofs.Yteehpliloegkgaa

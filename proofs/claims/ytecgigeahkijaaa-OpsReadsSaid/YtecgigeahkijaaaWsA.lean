/- wire: numbers read, as specifications. No condition. -/
import Derived.Test.YtecgigeahkijaaaWrZ
import Derived.Test.YtecgigeahkijaaaED
namespace Go.Proofs.Ytecgigeahkijaaa
set_option linter.unusedVariables false
set_option linter.unusedSimpArgs false
open Go.RowKit E

theorem ipow_le {b : Int} (hb : 1 ≤ b) : ∀ {i j : Nat}, i ≤ j → b ^ i ≤ b ^ j
  | i, 0, h => by have : i = 0 := by omega
                  subst this; exact Int.le_refl _
  | i, j + 1, h => by
    by_cases e : i = j + 1
    · subst e; exact Int.le_refl _
    · have h1 := ipow_le hb (i := i) (j := j) (by omega)
      have h2 : (0 : Int) < b ^ j := Int.pow_pos (by omega)
      have h3 := Int.mul_le_mul_of_nonneg_left hb (Int.le_of_lt h2)
      rw [Int.pow_succ]
      omega
theorem bigZ_snoc : ∀ (l : List Int) (n c : Int), bigZ n (l ++ [c]) = bigZ n l * 256 + c
  | [], n, c => rfl
  | a :: l, n, c => bigZ_snoc l _ c
theorem bigZ_bd : ∀ (l : List Int) (n : Int), inB l → 0 ≤ n → 0 ≤ bigZ n l ∧ bigZ n l < (n + 1) * 256 ^ l.length
  | [], n, _, h => ⟨h, by simp [bigZ]; omega⟩
  | a :: l, n, hb, h => by
    have ha := hb a (List.mem_cons_self ..)
    have := bigZ_bd l (n * 256 + a) (fun x hx => hb x (List.mem_cons_of_mem _ hx)) (by omega)
    refine ⟨this.1, Int.lt_of_lt_of_le this.2 ?_⟩
    rw [List.length_cons, Int.pow_succ, Int.mul_comm (256 ^ l.length) 256, ← Int.mul_assoc]
    exact Int.mul_le_mul_of_nonneg_right (by omega) (Int.le_of_lt (Int.pow_pos (by omega)))
theorem take_snoc {l : List Int} {i : Nat} (h : i < l.length) : l.take (i + 1) = l.take i ++ [l.getD i 0] := by
  rw [List.take_add_one, List.getElem?_eq_getElem h, List.getD_eq_getElem?_getD, List.getElem?_eq_getElem h]; rfl
theorem inB_take {l : List Int} (h : inB l) (n : Nat) : inB (l.take n) := fun x hx => h x (List.mem_of_mem_take hx)
theorem inB_drop {l : List Int} (h : inB l) (n : Nat) : inB (l.drop n) := fun x hx => h x (List.mem_of_mem_drop hx)
theorem pow256_le {i : Nat} (h : i ≤ 8) : (256 : Int) ^ i ≤ 18446744073709551616 := by
  have : (256 : Int) ^ i ≤ 256 ^ 8 := ipow_le (by decide) h
  omega
theorem byteAt_bd (s : ByteArray) (i : Int) : 0 ≤ byteAt s i ∧ byteAt s i < 256 := by
  unfold byteAt
  have := (s.data.toList.getD i.toNat 0).toNat_lt
  omega
theorem byteAt_wrap (s : ByteArray) (i : Int) : IntKind.wrap IntKind.u64 (byteAt s i) = byteAt s i := wU64 rfl (by have := byteAt_bd s i; omega)
def fixV (s : ByteArray) (w : Int) : Int := if (s.size : Int) < w then 0 else bigZ 0 ((ints s).take w.toNat)
theorem pureFixed (s : ByteArray) (w : Int) (h0 : 0 ≤ w) (h8 : w ≤ 8) (hz : s.size ≤ 140737488355328) :
    PureOk Try.prog 40 [sA s, iA w] (.tup [.one (.val (.int .u64 (fixV s w))), .one (.val (.int .i64 (if (s.size : Int) < w then 0 else w))), .one (.val (.int .i64 (if (s.size : Int) < w then 2 else 0)))]) := by
  unfold fixV
  by_cases c : (s.size : Int) < w
  · rw [if_pos c, if_pos c, if_pos c]; exact fx_s s w c
  · rw [if_neg c, if_neg c, if_neg c]
    obtain ⟨w, rfl⟩ := Int.eq_ofNat_of_zero_le h0
    refine fx_k s w _ c ?_
    refine loop_ok (α := Nat) (fun i => mkSt 27 [(0, sA s), (1, iA w), (7, uA (bigZ 0 ((ints s).take i))), (13, iA w), (14, iA i)] []) (fun i => i ≤ w) (fun i => w - i) (by simp) ?_ (x := 0) (Nat.zero_le _)
    intro i hi
    by_cases e : i = w
    · subst e; exact .inr (fx_e s i _)
    · have hl := ints_len s
      have hb := bigZ_bd ((ints s).take i) 0 (inB_take (inB_ints s) i) (by omega)
      have hlen : ((ints s).take i).length = i := by rw [List.length_take]; omega
      rw [hlen] at hb
      have hp : (256 : Int) ^ i ≤ 256 ^ 7 := ipow_le (by decide) (by omega)
      have hp7 : (256 : Int) ^ 7 = 72057594037927936 := by decide
      refine .inl ⟨i + 1, (show i + 1 ≤ w by omega), (show w - (i + 1) < w - i by omega), fx_n s w _ _ i (by omega) (by omega) hz ?_⟩
      rw [take_snoc (by omega), bigZ_snoc, byteAt_wrap, byteAt_ints]
      have hc := (byteAt_ints s i) ▸ byteAt_bd s i
      rw [show (2 : Int) ^ 8 = 256 from rfl, wU64 (a := bigZ 0 ((ints s).take i) * 256) rfl (by omega)]
      exact orZ 8 (by omega) (by omega) (by rw [show (2 : Int) ^ 8 = 256 from rfl]; omega) hc.1 (by rw [show (2 : Int) ^ 8 = 256 from rfl]; exact hc.2) (by omega)
def gFixed : List SV → Option (SV × List Prop)
  | [.nv (.one (.val (.string s))), .nv (.one (.val (.int .i64 w)))] => some (.tup [.one (.val (.int .u64 (fixV s w))), .one (.val (.int .i64 (if (s.size : Int) < w then 0 else w))), .one (.val (.int .i64 (if (s.size : Int) < w then 2 else 0)))], [0 ≤ w, w ≤ 8, s.size ≤ 140737488355328])
  | _ => none
theorem spFixed : SpOk Try.prog 40 (pureS gFixed) := pureS_ok (by
  intro args r obl h ho
  unfold gFixed at h
  split at h
  · simp only [Option.some.injEq, Prod.mk.injEq] at h
    obtain ⟨rfl, rfl⟩ := h
    exact ⟨rfl, rfl, pureFixed _ _ ho.1 ho.2.1 ho.2.2.1⟩
  · cases h)
theorem pow2_7 (i : Nat) : (2 : Int) ^ (7 * i) = 128 ^ i := by rw [Int.pow_mul]; rfl
theorem sh_bd {i : Nat} {d : Int} (h0 : 0 ≤ d) (h1 : d < 128) (hi : i ≤ 9) (h9 : i = 9 → d ≤ 1) : 0 ≤ d * 128 ^ i ∧ d * 128 ^ i ≤ 9223372036854775808 := by
  have hp : (0 : Int) < 128 ^ i := Int.pow_pos (by omega)
  refine ⟨Int.mul_nonneg h0 (by omega), ?_⟩
  by_cases e : i = 9
  · subst e; have := h9 rfl; omega
  · have hp8 : (128 : Int) ^ i ≤ 128 ^ 8 := ipow_le (by decide) (by omega)
    have e8 : (128 : Int) ^ 8 = 72057594037927936 := by decide
    have := Int.mul_le_mul (show d ≤ 127 by omega) hp8 (by omega) (by omega)
    omega
theorem or_sh {i : Nat} {x d : Int} (hx0 : 0 ≤ x) (hx : x < 128 ^ i) (h0 : 0 ≤ d) (h1 : d < 128) (hi : i ≤ 9) (h9 : i = 9 → d ≤ 1) :
    bits BinOp.or IntKind.u64 x (IntKind.wrap IntKind.u64 (d * 2 ^ Nat.min (IntKind.wrap IntKind.i64 (7 * (i : Int))).toNat 64)) = x + d * 128 ^ i := by
  have e7 : IntKind.wrap IntKind.i64 (7 * (i : Int)) = 7 * i := w64 rfl (by omega)
  rw [e7, show Nat.min (7 * (i : Int)).toNat 64 = 7 * i by rw [show (7 * (i : Int)).toNat = 7 * i by omega]; exact Nat.min_eq_left (by omega), pow2_7]
  have hb := sh_bd h0 h1 hi h9
  rw [wU64 (a := d * 128 ^ i) rfl (by omega)]
  have hp : (128 : Int) ^ i ≤ 128 ^ 9 := ipow_le (by decide) (by omega)
  have e9 : (128 : Int) ^ 9 = 9223372036854775808 := by decide
  exact orZ' (7 * i) hb.1 (by omega) (by rw [pow2_7]; exact Int.mul_emod_left _ _) hx0 (by rw [pow2_7]; exact hx) (by omega)
theorem x_next {i : Nat} {x d : Int} (hx0 : 0 ≤ x) (hx : x < 128 ^ i) (h0 : 0 ≤ d) (h1 : d < 128) : 0 ≤ x + d * 128 ^ i ∧ x + d * 128 ^ i < 128 ^ (i + 1) := by
  have hp : (0 : Int) < 128 ^ i := Int.pow_pos (by omega)
  have := Int.mul_nonneg h0 (Int.le_of_lt hp)
  have h2 := Int.mul_le_mul_of_nonneg_right (show d ≤ 127 by omega) (Int.le_of_lt hp)
  rw [Int.pow_succ]
  omega
theorem drop_at {l m : List Int} {c : Int} {i : Nat} (h : l.drop i = c :: m) : i < l.length ∧ l.getD i 0 = c ∧ l.drop (i + 1) = m := by
  have hi : i < l.length := by
    rcases Nat.lt_or_ge i l.length with q | q
    · exact q
    · rw [List.drop_eq_nil_of_le q] at h; cases h
  rw [List.drop_eq_getElem_cons hi] at h
  obtain ⟨h1, h2⟩ := List.cons.inj h
  exact ⟨hi, by rw [List.getD_eq_getElem?_getD, List.getElem?_eq_getElem hi]; exact h1, h2⟩
abbrev nbS (s : ByteArray) (x : Int) (i : Nat) : St := mkSt 49 [(0, sA s), (5, uA x), (9, iA s.size), (10, iA i)] []
abbrev nbR (r : Int × Int × Int) : St := mkSt 49 [(2, uA r.1), (3, iA r.2.1), (4, iA r.2.2)] []
theorem nb_loop (s : ByteArray) (hz : s.size ≤ 140737488355328) : ∀ (l : List Int) (i : Nat) (x : Int), (ints s).drop i = l → i ≤ 9 → i ≤ s.size → 0 ≤ x → x < 128 ^ i →
    (numL i x l = (0, 0, 2) ∧ LoopOk Try.prog 0 (loopOf Try.f41 0) (nbS s x i) (.exit 0) (mkSt 49 [] [])) ∨
    LoopOk Try.prog 0 (loopOf Try.f41 0) (nbS s x i) .ret (nbR (numL i x l))
  | [], i, x, hl, h9, his, h0, h1 => by
    have hi : i = s.size := by
      have : (ints s).length ≤ i := by
        rcases Nat.lt_or_ge i (ints s).length with q | q
        · rw [List.drop_eq_getElem_cons q] at hl; cases hl
        · exact q
      rw [ints_len] at this; omega
    subst hi
    exact .inl ⟨rfl, .last (by simp) (nb_e s x)⟩
  | c :: l, i, x, hl, h9, his, h0, h1 => by
    obtain ⟨hi, hc, hd⟩ := drop_at hl
    rw [ints_len] at hi
    have hb := byteAt_bd s i
    have ec : IntKind.wrap IntKind.u64 (byteAt s (i : Int)) = c := by rw [byteAt_wrap, byteAt_ints, hc]
    rw [byteAt_ints, hc] at hb
    have e7 : 0 ≤ IntKind.wrap IntKind.i64 (7 * (i : Int)) := by rw [w64 (a := 7 * (i : Int)) rfl (by omega)]; omega
    rw [numL]
    by_cases i9 : i = 9
    · by_cases c1 : 1 < c
      · rw [if_pos (.inl ⟨i9, c1⟩)]
        exact .inr (.last (by simp) (nb_f3 s x c i i9 hi hz ec hb.1 hb.2 c1))
      · by_cases c0 : c = 0
        · rw [if_pos (.inr ⟨by omega, c0⟩)]
          exact .inr (.last (by simp) (nb_z3 s x c i i9 hi hz ec hb.1 hb.2 c0))
        · rw [if_neg (by omega), if_pos (by omega)]
          exact .inr (.last (by simp) (nb_k3 s x _ c i i9 hi hz ec hb.1 hb.2 (by omega) c0 (by omega) (by rw [ec]; exact or_sh h0 h1 hb.1 (by omega) h9 (fun _ => by omega)) e7))
    · by_cases c0 : 0 < i ∧ c = 0
      · rw [if_pos (.inr c0)]
        exact .inr (.last (by simp) (nb_z1 s x c i i9 c0.1 hi hz ec hb.1 hb.2 c0.2))
      · rw [if_neg (by omega)]
        by_cases c7 : c < 128
        · rw [if_pos c7]
          have eo := or_sh h0 h1 hb.1 c7 h9 (fun q => absurd q i9)
          by_cases i0 : i = 0
          · exact .inr (.last (by simp) (nb_k2 s x _ c i i0 hi hz ec hb.1 hb.2 c7 (by rw [ec]; exact eo) e7))
          · exact .inr (.last (by simp) (nb_k1 s x _ c i i9 (by omega) hi hz ec hb.1 hb.2 c7 (by omega) (by rw [ec]; exact eo) e7))
        · rw [if_neg c7]
          have ew : IntKind.wrap IntKind.u64 (IntKind.wrap IntKind.u64 (byteAt s (i : Int)) - 128) = c - 128 := by rw [ec]; exact wU64 rfl (by omega)
          have eo := or_sh h0 h1 (show 0 ≤ c - 128 by omega) (by omega) h9 (fun q => absurd q i9)
          have hn := x_next h0 h1 (show 0 ≤ c - 128 by omega) (by omega)
          have step : CodeOk Try.prog 0 (loopOf Try.f41 0) (nbS s x i) .normal (nbS s (x + (c - 128) * 128 ^ i) (i + 1)) := by
            by_cases i0 : i = 0
            · exact nb_n2 s x _ c i i0 hi hz ec hb.1 hb.2 (by omega) (by rw [ew]; exact eo) e7
            · exact nb_n1 s x _ c i i9 (by omega) hi hz ec hb.1 hb.2 (by omega) (by rw [ew]; exact eo) e7
          rcases nb_loop s hz l (i + 1) _ hd (by omega) (by omega) hn.1 hn.2 with ⟨q1, q2⟩ | q
          · exact .inl ⟨q1, .step step q2⟩
          · exact .inr (.step step q)
def numZ (s : ByteArray) : Int × Int × Int := numL 0 0 (ints s)
theorem pureNumber (s : ByteArray) (hz : s.size ≤ 140737488355328) :
    PureOk Try.prog 41 [sA s] (.tup [.one (.val (.int .u64 (numZ s).1)), .one (.val (.int .i64 (numZ s).2.1)), .one (.val (.int .i64 (numZ s).2.2))]) := by
  rcases nb_loop s hz (ints s) 0 0 rfl (by omega) (by omega) (Int.le_refl _) (by decide) with ⟨q1, q2⟩ | q
  · unfold numZ; rw [q1]; exact nb_s s q2.code
  · exact nb_r s _ _ _ q.code
def gNumber : List SV → Option (SV × List Prop)
  | [.nv (.one (.val (.string s)))] => some (.tup [.one (.val (.int .u64 (numZ s).1)), .one (.val (.int .i64 (numZ s).2.1)), .one (.val (.int .i64 (numZ s).2.2))], [s.size ≤ 140737488355328])
  | _ => none
theorem spNumber : SpOk Try.prog 41 (pureS gNumber) := pureS_ok (by
  intro args r obl h ho
  unfold gNumber at h
  split at h
  · simp only [Option.some.injEq, Prod.mk.injEq] at h
    obtain ⟨rfl, rfl⟩ := h
    exact ⟨rfl, rfl, pureNumber _ ho.1⟩
  · cases h)
abbrev svS (s : ByteArray) (x : Int) (i : Nat) : St := mkSt 46 [(0, sA s), (5, uA x), (6, uA (128 ^ i)), (7, iA i)] []
abbrev svR (r : Int × Int × Int) : St := mkSt 46 [(2, uA r.1), (3, iA r.2.1), (4, iA r.2.2)] []
theorem add_sh {i : Nat} {x c d : Int} (hx0 : 0 ≤ x) (hx : x < 128 ^ i) (h0 : 0 ≤ d) (h1 : d < 128) (hi : i ≤ 9) (h9 : i = 9 → d ≤ 1) (hc0 : 0 ≤ c) (hd : c % 128 = d) :
    IntKind.wrap IntKind.u64 (x + IntKind.wrap IntKind.u64 (Int.tmod c 128 * 128 ^ i)) = x + d * 128 ^ i := by
  have hb := sh_bd h0 h1 hi h9
  have hp : (128 : Int) ^ i ≤ 128 ^ 9 := ipow_le (by decide) (by omega)
  have e9 : (128 : Int) ^ 9 = 9223372036854775808 := by decide
  rw [tmod_e hc0, hd, wU64 (a := d * 128 ^ i) rfl (by omega)]
  exact wU64 rfl (by omega)
theorem sv_loop (s : ByteArray) (hz : s.size ≤ 140737488355328) : ∀ (l : List Int) (i : Nat) (x : Int), (ints s).drop i = l → i ≤ 9 → i ≤ s.size → 0 ≤ x → x < 128 ^ i →
    (numL i x l = (0, 0, 2) ∧ LoopOk Try.prog 0 (loopOf Try.f32 0) (svS s x i) (.exit 0) (mkSt 46 [] [])) ∨
    LoopOk Try.prog 0 (loopOf Try.f32 0) (svS s x i) .ret (svR (numL i x l))
  | [], i, x, hl, h9, his, h0, h1 => by
    have hi : i = s.size := by
      have : (ints s).length ≤ i := by
        rcases Nat.lt_or_ge i (ints s).length with q | q
        · rw [List.drop_eq_getElem_cons q] at hl; cases hl
        · exact q
      rw [ints_len] at this; omega
    subst hi
    exact .inl ⟨rfl, .last (by simp) (sv_e s x _ 0)⟩
  | c :: l, i, x, hl, h9, his, h0, h1 => by
    obtain ⟨hi, hc, hd⟩ := drop_at hl
    rw [ints_len] at hi
    have hb := byteAt_bd s i
    have ec : IntKind.wrap IntKind.u64 (byteAt s (i : Int)) = c := by rw [byteAt_wrap, byteAt_ints, hc]
    rw [byteAt_ints, hc] at hb
    have e7 : 0 ≤ IntKind.wrap IntKind.i64 (7 * (i : Int)) := by rw [w64 (a := 7 * (i : Int)) rfl (by omega)]; omega
    rw [numL]
    by_cases i9 : i = 9
    · by_cases c1 : 1 < c
      · rw [if_pos (.inl ⟨i9, c1⟩)]
        exact .inr (.last (by simp) (sv_f3 s x c _ 0 i i9 hi hz ec hb.1 hb.2 c1))
      · by_cases c0 : c = 0
        · rw [if_pos (.inr ⟨by omega, c0⟩)]
          exact .inr (.last (by simp) (sv_z3 s x c _ 0 i i9 hi hz ec hb.1 hb.2 c0))
        · rw [if_neg (by omega), if_pos (by omega)]
          exact .inr (.last (by simp) (sv_k3 s x _ c _ _ i i9 hi hz ec hb.1 hb.2 (by omega) c0 (by omega) (by rw [ec]; exact add_sh h0 h1 hb.1 (by omega) h9 (fun _ => by omega) hb.1 (by omega)) rfl e7))
    · by_cases c0 : 0 < i ∧ c = 0
      · rw [if_pos (.inr c0)]
        exact .inr (.last (by simp) (sv_z1 s x c _ 0 i i9 c0.1 hi hz ec hb.1 hb.2 c0.2))
      · rw [if_neg (by omega)]
        by_cases c7 : c < 128
        · rw [if_pos c7]
          have eo := add_sh h0 h1 hb.1 c7 h9 (fun q => absurd q i9) hb.1 (show c % 128 = c by omega)
          by_cases i0 : i = 0
          · exact .inr (.last (by simp) (sv_k2 s x _ c _ _ i i0 hi hz ec hb.1 hb.2 c7 (by rw [ec]; exact eo) rfl e7))
          · exact .inr (.last (by simp) (sv_k1 s x _ c _ _ i i9 (by omega) hi hz ec hb.1 hb.2 c7 (by omega) (by rw [ec]; exact eo) rfl e7))
        · rw [if_neg c7]
          have eo := add_sh h0 h1 (show 0 ≤ c - 128 by omega) (by omega) h9 (fun q => absurd q i9) hb.1 (show c % 128 = c - 128 by omega)
          have hn := x_next h0 h1 (show 0 ≤ c - 128 by omega) (by omega)
          have hp : (128 : Int) ^ i ≤ 128 ^ 8 := ipow_le (by decide) (by omega)
          have hp0 : (0 : Int) < 128 ^ i := Int.pow_pos (by omega)
          have e8 : (128 : Int) ^ 8 = 72057594037927936 := by decide
          have eu : IntKind.wrap IntKind.u64 ((128 : Int) ^ i * 128) = 128 ^ (i + 1) := by rw [Int.pow_succ]; exact wU64 rfl (by omega)
          have step : CodeOk Try.prog 0 (loopOf Try.f32 0) (svS s x i) .normal (svS s (x + (c - 128) * 128 ^ i) (i + 1)) := by
            by_cases i0 : i = 0
            · exact sv_n2 s x _ c _ _ i i0 hi hz ec hb.1 hb.2 (by omega) (by rw [ec]; exact eo) eu e7
            · exact sv_n1 s x _ c _ _ i i9 (by omega) hi hz ec hb.1 hb.2 (by omega) (by rw [ec]; exact eo) eu e7
          rcases sv_loop s hz l (i + 1) _ hd (by omega) (by omega) hn.1 hn.2 with ⟨q1, q2⟩ | q
          · exact .inl ⟨q1, .step step q2⟩
          · exact .inr (.step step q)
theorem pureSeven (s : ByteArray) (hz : s.size ≤ 140737488355328) :
    PureOk Try.prog 32 [sA s] (.tup [.one (.val (.int .u64 (numZ s).1)), .one (.val (.int .i64 (numZ s).2.1)), .one (.val (.int .i64 (numZ s).2.2))]) := by
  rcases sv_loop s hz (ints s) 0 0 rfl (by omega) (by omega) (Int.le_refl _) (by decide) with ⟨q1, q2⟩ | q
  · unfold numZ; rw [q1]; exact sv_s s q2.code
  · exact sv_r s _ _ _ q.code
theorem spSeven : SpOk Try.prog 32 (pureS gNumber) := pureS_ok (by
  intro args r obl h ho
  unfold gNumber at h
  split at h
  · simp only [Option.some.injEq, Prod.mk.injEq] at h
    obtain ⟨rfl, rfl⟩ := h
    exact ⟨rfl, rfl, pureSeven _ ho.1⟩
  · cases h)
def GbC : List (FuncId × Sp) := (40, pureS gFixed) :: (41, pureS gNumber) :: (32, pureS gNumber) :: GbB
theorem GbC_ok : CtxOk Try.prog GbC := ctx_cons (enter_of Try.func40 (by kernel_rfl) (by kernel_rfl)) spFixed <|
  ctx_cons (enter_of Try.func41 (by kernel_rfl) (by kernel_rfl)) spNumber <|
  ctx_cons (enter_of Try.func32 (by kernel_rfl) (by kernel_rfl)) spSeven GbB_ok
end Go.Proofs.Ytecgigeahkijaaa

/- header: sums and halves as specifications. No condition. -/
import Derived.Test.YteehpliloegkgaaHdD
namespace Go.Proofs.Yteehpliloegkgaa
set_option linter.unusedVariables false
set_option linter.unusedSimpArgs false
open Go.RowKit E
theorem inL_bd : ∀ (l : List Int) (n : Int), inB l → 0 ≤ n ∧ n ≤ 65535 → 0 ≤ inL n l ∧ inL n l ≤ 65535
  | [], n, _, h => h
  | [a], n, hb, h => ringZ_bd h (by have := hb a (by simp); omega)
  | a :: b :: l, n, hb, h => inL_bd l _ (fun x hx => hb x (by simp [hx])) (ringZ_bd h (by have := hb a (by simp); have := hb b (by simp); omega))
theorem drop_at {l m : List Int} {c : Int} {i : Nat} (h : l.drop i = c :: m) : i < l.length ∧ l.getD i 0 = c ∧ l.drop (i + 1) = m := by
  have hi : i < l.length := by
    rcases Nat.lt_or_ge i l.length with q | q
    · exact q
    · rw [List.drop_eq_nil_of_le q] at h; cases h
  rw [List.drop_eq_getElem_cons hi] at h
  obtain ⟨h1, h2⟩ := List.cons.inj h
  exact ⟨hi, by rw [List.getD_eq_getElem?_getD, List.getElem?_eq_getElem hi]; exact h1, h2⟩
theorem drop_end' {l : List Int} {i : Nat} (h : l.drop i = []) : l.length ≤ i := by
  rcases Nat.lt_or_ge i l.length with q | q
  · rw [List.drop_eq_getElem_cons q] at h; cases h
  · exact q
theorem in_loop (s : ByteArray) (hz : s.size ≤ 140737488355328) : ∀ (l : List Int) (i : Nat) (n : Int), (ints s).drop i = l → 0 ≤ n ∧ n ≤ 65535 →
    LoopOk Try.prog 0 (loopOf Try.f18 0) (mkSt 35 [(0, sA s), (3, .nv (.one (.val (.int .u32 n)))), (4, iA i)] []) (.exit 0) (mkSt 35 [(3, .nv (.one (.val (.int .u32 (inL n l)))))] [])
  | [], i, n, h, hn => by
    have := drop_end' h
    rw [ints_len] at this
    exact .last (by simp) (in_e s i n this)
  | [a], i, n, h, hn => by
    obtain ⟨h1, h2, h3⟩ := drop_at h
    have h4 := drop_end' h3
    rw [ints_len] at h1 h4
    have hb := byteAt_bd s i
    have ea : byteAt s (i : Int) = a := by rw [byteAt_ints, h2]
    have ew : IntKind.wrap IntKind.u32 (IntKind.wrap IntKind.u32 (byteAt s i) * 2 ^ 8) = a * 256 := by
      rw [wU32 (a := byteAt s i) (b := byteAt s i) rfl (by omega), ea]; rw [ea] at hb; exact wU32 rfl (by omega)
    exact .step (in_1 s i n hz hn.1 hn.2 _ (by omega) ew (by omega) (by omega) (w64 rfl (by omega))) (.last (by simp) (in_e s (i + 2) _ (by omega)))
  | a :: b :: l, i, n, h, hn => by
    obtain ⟨h1, h2, h3⟩ := drop_at h
    obtain ⟨g1, g2, g3⟩ := drop_at h3
    rw [ints_len] at h1 g1
    have hb := byteAt_bd s i
    have hb2 := byteAt_bd s ((i : Int) + 1)
    have ea : byteAt s (i : Int) = a := by rw [byteAt_ints, h2]
    have eb : byteAt s ((i : Int) + 1) = b := by
      have := byteAt_ints s (i + 1)
      rw [g2] at this; exact this
    have ew : IntKind.wrap IntKind.u32 (IntKind.wrap IntKind.u32 (IntKind.wrap IntKind.u32 (byteAt s i) * 2 ^ 8) + IntKind.wrap IntKind.u32 (byteAt s ((i : Int) + 1))) = a * 256 + b := by
      rw [wU32 (a := byteAt s i) (b := byteAt s i) rfl (by omega), wU32 (a := byteAt s ((i : Int) + 1)) (b := byteAt s ((i : Int) + 1)) rfl (by omega), ea, eb]
      rw [ea] at hb; rw [eb] at hb2
      rw [wU32 (a := a * 2 ^ 8) (b := a * 256) rfl (by omega)]; exact wU32 rfl (by omega)
    rw [ea] at hb; rw [eb] at hb2
    refine .step (in_2 s i n hz hn.1 hn.2 _ (by omega) ew (by omega) (by omega) (w64 rfl (by omega))) ?_
    exact in_loop s hz l (i + 2) _ g3 (ringZ_bd hn (by omega))
theorem inetZ_bd (s : ByteArray) : 0 ≤ inetZ s ∧ inetZ s ≤ 65535 := by
  have := inL_bd (ints s) 0 (inB_ints s) (by omega)
  unfold inetZ; omega
theorem pureInet (s : ByteArray) (hz : s.size ≤ 140737488355328) : PureOk Try.prog 18 [sA s] (.nv (.one (.val (.int .u16 (inetZ s))))) := by
  have hb := inL_bd (ints s) 0 (inB_ints s) (by omega)
  refine in_f s _ _ ?_ (in_loop s hz (ints s) 0 0 rfl (by omega)).code
  rw [wU16 (a := inL 0 (ints s)) (b := inL 0 (ints s)) rfl hb]
  exact u16_not _ hb
theorem id_loop (s : ByteArray) (hz : s.size ≤ 140737488355328) : ∀ (l : List Int) (i : Nat) (n : Int), i % 2 = 0 → (ints s).drop i = l → 0 ≤ n ∧ n ≤ 65535 →
    LoopOk Try.prog 0 (loopOf Try.f21 0) (mkSt 37 [(0, sA s), (3, iA n), (4, iA i)] []) (.exit 0) (mkSt 37 [(3, iA (inL n l))] [])
  | [], i, n, hp, h, hn => by
    have := drop_end' h
    rw [ints_len] at this
    exact .last (by simp) (id_e s i n this)
  | [a], i, n, hp, h, hn => by
    obtain ⟨h1, h2, h3⟩ := drop_at h
    have h4 := drop_end' h3
    rw [ints_len] at h1 h4
    have hb := byteAt_bd s i
    have ea : byteAt s (i : Int) = a := by rw [byteAt_ints, h2]
    have ew : IntKind.wrap IntKind.i64 (IntKind.wrap IntKind.i64 (byteAt s i) * 256) = a * 256 := by
      rw [w64 (a := byteAt s i) (b := byteAt s i) rfl (by omega), ea]; rw [ea] at hb; exact w64 rfl (by omega)
    exact .step (id_1 s i n hz hn.1 hn.2 _ (by omega) (by rw [tmod_e (by omega)]; omega) ew (by omega) (by omega) (w64 rfl (by omega))) (.last (by simp) (id_e s (i + 1) _ (by omega)))
  | a :: b :: l, i, n, hp, h, hn => by
    obtain ⟨h1, h2, h3⟩ := drop_at h
    obtain ⟨g1, g2, g3⟩ := drop_at h3
    rw [ints_len] at h1 g1
    have hb := byteAt_bd s i
    have hb2 := byteAt_bd s ((i : Int) + 1)
    have ea : byteAt s (i : Int) = a := by rw [byteAt_ints, h2]
    have eb : byteAt s ((i : Int) + 1) = b := by
      have := byteAt_ints s (i + 1)
      rw [g2] at this; exact this
    have ew : IntKind.wrap IntKind.i64 (IntKind.wrap IntKind.i64 (IntKind.wrap IntKind.i64 (byteAt s i) * 256) + IntKind.wrap IntKind.i64 (byteAt s ((i : Int) + 1))) = a * 256 + b := by
      rw [w64 (a := byteAt s i) (b := byteAt s i) rfl (by omega), w64 (a := byteAt s ((i : Int) + 1)) (b := byteAt s ((i : Int) + 1)) rfl (by omega), ea, eb]
      rw [ea] at hb; rw [eb] at hb2
      rw [w64 (a := a * 256) (b := a * 256) rfl (by omega)]; exact w64 rfl (by omega)
    rw [ea] at hb; rw [eb] at hb2
    have hr := ringZ_bd hn (b := a * 256 + b) (by omega)
    refine .step (id_2 s i n hz hn.1 hn.2 _ (by omega) (by rw [tmod_e (by omega)]; omega) ew (by omega) (by omega) (w64 rfl (by omega))) (.step (id_0 s (i + 1) _ hz hr.1 hr.2 (by omega) (by rw [tmod_e (by omega)]; omega)) ?_)
    exact id_loop s hz l (i + 2) _ (by omega) g3 hr
theorem pureInetD (s : ByteArray) (hz : s.size ≤ 140737488355328) : PureOk Try.prog 21 [sA s] (iA (inetZ s)) := by
  have hb := inL_bd (ints s) 0 (inB_ints s) (by omega)
  exact id_f s _ hb.1 hb.2 (id_loop s hz (ints s) 0 0 rfl rfl (by omega)).code
theorem halvL_len (L : Nat → Int) : ∀ n, (halvL L n).length = 2 * n
  | 0 => rfl
  | n + 1 => by rw [halvL, List.length_append, halvL_len L n]; simp; omega
theorem halvL_inB {L : Nat → Int} : ∀ {n : Nat}, (∀ i, i < n → 0 ≤ L i ∧ L i ≤ 65535) → inB (halvL L n)
  | 0, _ => fun x hx => by simp [halvL] at hx
  | n + 1, h => inB_app (halvL_inB (fun i hi => h i (by omega))) (fun x hx => by
    have := h n (by omega)
    simp at hx
    rcases hx with rfl | rfl <;> omega)
theorem fnHalves (n : Nat) (L : Nat → Int) (hn : n ≤ 1000) (h : ∀ i, i < n → 0 ≤ L i ∧ L i ≤ 65535) :
    FnOk Try.prog 17 [.nv (.one (.own 0))] [.ro 1 n (gH L)] (.nv (.one (.val (.string (strL (halvL L n)))))) [.gone] := by
  refine hv_f n (halvL L n).length L (lF (halvL L 0)) (lF (halvL L n)) ?_
  refine loop_ok (α := Nat) (fun i => mkSt 23 [(3, .nv (.one (.own 1))), (6, .nv (.one (.own 0))), (7, iA n), (8, iA i)] [.ro 1 n (gH L), .row 5 1 (halvL L i).length (gB (lF (halvL L i)))]) (fun i => i ≤ n) (fun i => n - i) (by simp) ?_ (x := 0) (Nat.zero_le _)
  intro i hi
  by_cases e : i = n
  · subst e; exact .inr (hv_e i _ L _)
  · have hl := halvL_len L i
    have hb := h i (by omega)
    refine .inl ⟨i + 1, (show i + 1 ≤ n by omega), (show n - (i + 1) < n - i by omega), ?_⟩
    have := hv_n n i (halvL L i).length L (lF (halvL L i)) (lF (halvL L (i + 1))) (by omega) hn (by omega) (by rw [show (2 : Int) ^ 8 = 256 from rfl, Int.fdiv_eq_ediv_of_nonneg _ (by omega)]; exact wU8 rfl (by omega)) (wrap8 _) (fun j hj => lF_cat _ _ j)
    rw [show (halvL L (i + 1)).length = (halvL L i).length + 2 by rw [halvL, List.length_append]; rfl]
    exact this
def gInet : List SV → Option (SV × List Prop)
  | [.nv (.one (.val (.string s)))] => some (.nv (.one (.val (.int .u16 (inetZ s)))), [s.size ≤ 140737488355328])
  | _ => none
theorem spInet : SpOk Try.prog 18 (pureS gInet) := pureS_ok (by
  intro args r obl h ho
  unfold gInet at h
  split at h
  · simp only [Option.some.injEq, Prod.mk.injEq] at h
    obtain ⟨rfl, rfl⟩ := h
    exact ⟨rfl, rfl, pureInet _ ho.1⟩
  · cases h)
def gInetD : List SV → Option (SV × List Prop)
  | [.nv (.one (.val (.string s)))] => some (iA (inetZ s), [s.size ≤ 140737488355328])
  | _ => none
theorem spInetD : SpOk Try.prog 21 (pureS gInetD) := pureS_ok (by
  intro args r obl h ho
  unfold gInetD at h
  split at h
  · simp only [Option.some.injEq, Prod.mk.injEq] at h
    obtain ⟨rfl, rfl⟩ := h
    exact ⟨rfl, rfl, pureInetD _ ho.1⟩
  · cases h)
def gHalves : List SV → List Seg → Option (CS × List Prop)
  | [.nv (.one a)], mem => match srcOf mem 1 a with
    | some (n, g, _) => some (⟨[.nv (.one (.own 0))], [.ro 1 n (gH (kOf g))], .nv (.one (.val (.string (strL (halvL (kOf g) n))))), [.gone]⟩, [n ≤ 1000, ∀ i, i < n → 0 ≤ kOf g i ∧ kOf g i ≤ 65535])
    | none => none
  | _, _ => none
theorem spHalves : SpOk Try.prog 17 (.lift gHalves) := by
  intro args mem cs obl h ho
  unfold gHalves at h
  split at h
  · split at h
    · simp only [Option.some.injEq, Prod.mk.injEq] at h
      obtain ⟨rfl, rfl⟩ := h
      exact fnHalves _ _ ho.1 ho.2.1
    · cases h
  · cases h
theorem halv5 (a b c d e : Int) : halvL (kOf (litG 1 [.val (.int .u16 a), .val (.int .u16 b), .val (.int .u16 c), .val (.int .u16 d), .val (.int .u16 e)])) 5 = w2 a ++ (w2 b ++ (w2 c ++ (w2 d ++ w2 e))) := rfl
theorem halv4 (a b c d : Int) : halvL (kOf (litG 1 [.val (.int .u16 a), .val (.int .u16 b), .val (.int .u16 c), .val (.int .u16 d)])) 4 = w2 a ++ (w2 b ++ (w2 c ++ w2 d)) := rfl
theorem halv1 (a : Int) : halvL (kOf (litG 1 [.val (.int .u16 a)])) 1 = w2 a := rfl
theorem k5 {a b c d e : Int} (h : (0 ≤ a ∧ a ≤ 65535) ∧ (0 ≤ b ∧ b ≤ 65535) ∧ (0 ≤ c ∧ c ≤ 65535) ∧ (0 ≤ d ∧ d ≤ 65535) ∧ (0 ≤ e ∧ e ≤ 65535)) : ∀ i, i < 5 → 0 ≤ kOf (litG 1 [.val (.int .u16 a), .val (.int .u16 b), .val (.int .u16 c), .val (.int .u16 d), .val (.int .u16 e)]) i ∧ kOf (litG 1 [.val (.int .u16 a), .val (.int .u16 b), .val (.int .u16 c), .val (.int .u16 d), .val (.int .u16 e)]) i ≤ 65535 := fun i hi => by
  match i, hi with
  | 0, _ => exact h.1
  | 1, _ => exact h.2.1
  | 2, _ => exact h.2.2.1
  | 3, _ => exact h.2.2.2.1
  | 4, _ => exact h.2.2.2.2
theorem k4 {a b c d : Int} (h : (0 ≤ a ∧ a ≤ 65535) ∧ (0 ≤ b ∧ b ≤ 65535) ∧ (0 ≤ c ∧ c ≤ 65535) ∧ (0 ≤ d ∧ d ≤ 65535)) : ∀ i, i < 4 → 0 ≤ kOf (litG 1 [.val (.int .u16 a), .val (.int .u16 b), .val (.int .u16 c), .val (.int .u16 d)]) i ∧ kOf (litG 1 [.val (.int .u16 a), .val (.int .u16 b), .val (.int .u16 c), .val (.int .u16 d)]) i ≤ 65535 := fun i hi => by
  match i, hi with
  | 0, _ => exact h.1
  | 1, _ => exact h.2.1
  | 2, _ => exact h.2.2.1
  | 3, _ => exact h.2.2.2
theorem k1 {a : Int} (h : 0 ≤ a ∧ a ≤ 65535) : ∀ i, i < 1 → 0 ≤ kOf (litG 1 [.val (.int .u16 a)]) i ∧ kOf (litG 1 [.val (.int .u16 a)]) i ≤ 65535 := fun i hi => by
  match i, hi with
  | 0, _ => exact h
theorem zz_size : (ByteArray.mk #[0, 0]).size = 2 := rfl
def GhB : List (FuncId × Sp) := (18, pureS gInet) :: (21, pureS gInetD) :: (17, .lift gHalves) :: GhA
theorem GhB_ok : CtxOk Try.prog GhB := ctx_cons (enter_of Try.func18 (by kernel_rfl) (by kernel_rfl)) spInet <|
  ctx_cons (enter_of Try.func21 (by kernel_rfl) (by kernel_rfl)) spInetD <|
  ctx_cons (enter_of Try.func17 (by kernel_rfl) (by kernel_rfl)) spHalves GhA_ok
end Go.Proofs.Yteehpliloegkgaa

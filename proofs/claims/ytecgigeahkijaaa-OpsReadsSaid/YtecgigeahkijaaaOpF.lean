/- ops: Read, the document's, and Same, as specifications. No condition. -/
import Derived.Test.YtecgigeahkijaaaOpE
import Derived.Test.YtecgigeahkijaaaED
namespace Go.Proofs.Ytecgigeahkijaaa
set_option linter.unusedVariables false
set_option linter.unusedSimpArgs false
open Go.RowKit E
theorem offO_ge (s : ByteArray) : ∀ i, i ≤ offO s i
  | 0 => Nat.le_refl _
  | i + 1 => by
    have := offO_ge s i
    have := oneL_pos (fromZ s (offO s i))
    rw [offO]; omega
theorem oneW_beg {t : ByteArray} (h : begB (byteAt t 0) = false) : oneW t = true ∧ oneL t = 1 ∧ oneX t = ⟨0, 0, 0, byteAt t 0, 0⟩ := by
  unfold oneW oneL oneX
  rw [if_pos h, if_pos h, if_pos h]
  exact ⟨rfl, rfl, rfl⟩
theorem or_loop (s : ByteArray) (hz : s.size ≤ 100000000) : ∀ (f i : Nat), offO s i ≤ s.size → s.size - offO s i ≤ f →
    LoopOk Try.prog 0 (loopOf Try.f8 0) (mkSt 39 [(0, sA (fromZ s (offO s i))), (3, .nv (.one (.own 0)))] [.row 30 5 i (gO (opX s))]) (.exit 0) (mkSt 39 [(3, .nv (.one (.own 0)))] [.row 30 5 (i + (cntO s f i).1) (gO (opX s))])
  | 0, i, h1, h2 => .last (by simp) (or_e _ i _ (by rw [fromZ_size h1]; omega))
  | f + 1, i, h1, h2 => by
    have hts := fromZ_size h1
    have hge := offO_ge s i
    rw [cntO]
    by_cases q : s.size ≤ offO s i
    · rw [if_pos q]
      exact .last (by simp) (or_e _ i _ (by rw [hts]; omega))
    · rw [if_neg q]
      have hc := byteAt_bd (fromZ s (offO s i)) 0
      have ec : IntKind.wrap IntKind.u64 (byteAt (fromZ s (offO s i)) 0) = byteAt (fromZ s (offO s i)) 0 := byteAt_wrap _ _
      cases hb : begB (byteAt (fromZ s (offO s i)) 0) with
      | false =>
        obtain ⟨w1, w2, w3⟩ := oneW_beg hb
        rw [if_pos w1]
        have hn : offO s (i + 1) = offO s i + 1 := by rw [offO, w2]
        have ih := or_loop s hz f (i + 1) (by omega) (by omega)
        rw [hn, show i + 1 + (cntO s f (i + 1)).1 = i + ((cntO s f (i + 1)).1 + 1) by omega, ← fromZ_fromZ] at ih
        exact .step (or_j _ i _ (opX s) (by rw [hts]; omega) (by rw [hts]; omega) (by omega) (fun _ _ => rfl) _ ec rfl hb w3) ih
      | true =>
        by_cases w1 : oneW (fromZ s (offO s i)) = true
        · rw [if_pos w1]
          have hle := oneL_le (by rw [hts]; omega) w1
          have hle2 := hle
          rw [hts] at hle2
          have hn : offO s (i + 1) = offO s i + oneL (fromZ s (offO s i)) := rfl
          have hp := oneL_pos (fromZ s (offO s i))
          have ih := or_loop s hz f (i + 1) (by omega) (by omega)
          rw [hn, show i + 1 + (cntO s f (i + 1)).1 = i + ((cntO s f (i + 1)).1 + 1) by omega, ← fromZ_fromZ] at ih
          exact .step (or_w _ i _ (opX s) (by rw [hts]; omega) (by rw [hts]; omega) (by omega) (fun _ _ => rfl) _ ec rfl hb _ hb w1 (if_pos w1) hle rfl) ih
        · rw [if_neg w1]
          exact .last (by simp) (or_t _ i _ (opX s) (by rw [hts]; omega) (by rw [hts]; omega) (by omega) (fun _ _ => rfl) _ ec rfl hb hb (Bool.eq_false_iff.2 w1) rfl)
theorem fnReadO (s : ByteArray) (hz : s.size ≤ 100000000) : FnOk Try.prog 8 [sA s] [] (.nv (.one (.own 0))) [.row 30 5 (numO s) (gO (opX s))] := by
  have := or_loop s hz s.size 0 (Nat.zero_le _) (Nat.sub_le _ _)
  rw [show fromZ s (offO s 0) = s from ints_ext (by rw [fromZ_ints]; rfl), Nat.zero_add] at this
  exact or_f s _ _ _ this.code
theorem rr_loop (s : ByteArray) (hz : s.size ≤ 100000000) : ∀ (f i : Nat), offO s i ≤ s.size → s.size - offO s i ≤ f →
    LoopOk Try.prog 0 (loopOf Try.f9 0) (mkSt 91 [(0, sA (fromZ s (offO s i))), (3, .nv (.one (.own 0)))] [.row 30 5 i (gO (opX s))]) (.exit 0) (mkSt 91 [(3, .nv (.one (.own 0)))] [.row 30 5 (i + (cntO s f i).1) (gO (opX s))]) ∨
    LoopOk Try.prog 0 (loopOf Try.f9 0) (mkSt 91 [(0, sA (fromZ s (offO s i))), (3, .nv (.one (.own 0)))] [.row 30 5 i (gO (opX s))]) .ret (mkSt 91 [(2, .nv (.one (.own 0)))] [.row 30 5 (i + (cntO s f i).1) (gO (opX s))])
  | 0, i, h1, h2 => .inl (.last (by simp) (rr_e _ i _ (by rw [fromZ_size h1]; omega)))
  | f + 1, i, h1, h2 => by
    have hts := fromZ_size h1
    have hge := offO_ge s i
    rw [cntO]
    by_cases q : s.size ≤ offO s i
    · rw [if_pos q]
      exact .inl (.last (by simp) (rr_e _ i _ (by rw [hts]; omega)))
    · rw [if_neg q]
      have next : oneW (fromZ s (offO s i)) = true → CodeOk Try.prog 0 (loopOf Try.f9 0) (mkSt 91 [(0, sA (fromZ s (offO s i))), (3, .nv (.one (.own 0)))] [.row 30 5 i (gO (opX s))]) .normal (mkSt 91 [(0, sA (fromZ (fromZ s (offO s i)) (oneL (fromZ s (offO s i))))), (3, .nv (.one (.own 0)))] [.row 30 5 (i + 1) (gO (opX s))]) →
          (LoopOk Try.prog 0 (loopOf Try.f9 0) (mkSt 91 [(0, sA (fromZ s (offO s i))), (3, .nv (.one (.own 0)))] [.row 30 5 i (gO (opX s))]) (.exit 0) (mkSt 91 [(3, .nv (.one (.own 0)))] [.row 30 5 (i + ((cntO s f (i + 1)).1 + 1)) (gO (opX s))]) ∨
          LoopOk Try.prog 0 (loopOf Try.f9 0) (mkSt 91 [(0, sA (fromZ s (offO s i))), (3, .nv (.one (.own 0)))] [.row 30 5 i (gO (opX s))]) .ret (mkSt 91 [(2, .nv (.one (.own 0)))] [.row 30 5 (i + ((cntO s f (i + 1)).1 + 1)) (gO (opX s))])) := by
        intro w1 step
        have hle := oneL_le (by rw [hts]; omega) w1
        rw [hts] at hle
        have hn : offO s (i + 1) = offO s i + oneL (fromZ s (offO s i)) := rfl
        have hp := oneL_pos (fromZ s (offO s i))
        have ih := rr_loop s hz f (i + 1) (by omega) (by omega)
        rw [hn, show i + 1 + (cntO s f (i + 1)).1 = i + ((cntO s f (i + 1)).1 + 1) by omega, ← fromZ_fromZ] at ih
        exact ih.imp (.step step) (.step step)
      have hx : opX s i = oneX (fromZ s (offO s i)) := rfl
      have hsz : (fromZ s (offO s i)).size ≤ 100000000 := by rw [hts]; omega
      have hs1 : 1 ≤ (fromZ s (offO s i)).size := by rw [hts]; omega
      revert next hx hsz hs1
      generalize fromZ s (offO s i) = t
      intro next hx hsz hs1
      have hc := byteAt_bd t 0
      have ec : IntKind.wrap IntKind.u64 (byteAt t 0) = byteAt t 0 := byteAt_wrap _ _
      have ei : IntKind.wrap IntKind.i64 (byteAt t 0) = byteAt t 0 := w64 rfl (by omega)
      have ht1 := fromZ_size hs1
      cases hb : begB (byteAt t 0) with
      | false =>
        obtain ⟨w1, w2, w3⟩ := oneW_beg hb
        rw [if_pos w1]
        apply next w1
        rw [w2]
        have : byteAt t 0 = 0 ∨ 4 < byteAt t 0 := by
          unfold begB at hb
          simp only [Bool.and_eq_false_iff, decide_eq_false_iff_not] at hb
          omega
        rcases this with c0 | c5
        · exact rr_j0 t i _ (opX s) hsz hs1 (by omega) (fun _ _ => rfl) _ ei ec c0 (hx.trans w3)
        · exact rr_j5 t i _ (opX s) hsz hs1 (by omega) (fun _ _ => rfl) _ ei ec c5 (hx.trans w3)
      | true =>
        have hnb : ¬ begB (byteAt t 0) = false := by rw [hb]; decide
        have hbb : 1 ≤ byteAt t 0 ∧ byteAt t 0 ≤ 4 := by
          unfold begB at hb
          simp only [Bool.and_eq_true, decide_eq_true_eq] at hb
          exact hb
        have eX : oneX t = if errT (fromZ t 1) (kindsF (byteAt t 0)) (kindsN (byteAt t 0)) ≠ 0 then ⟨5, 0, 0, 0, 0⟩
            else if byteAt t 0 = 1 then ⟨1, (fldT (fromZ t 1) (kindsF 1) 0).n, (fldT (fromZ t 1) (kindsF 1) 1).n, (fldT (fromZ t 1) (kindsF 1) 2).n, 0⟩
            else if byteAt t 0 = 3 then ⟨3, 0, 0, 0, (fldT (fromZ t 1) (kindsF 3) 0).n⟩
            else ⟨byteAt t 0, 0, 0, 0, 0⟩ := by unfold oneX; rw [if_neg hnb]
        have eW : oneW t = decide (errT (fromZ t 1) (kindsF (byteAt t 0)) (kindsN (byteAt t 0)) = 0) := by unfold oneW; rw [if_neg hnb]
        have eL : oneL t = atN (fromZ t 1) (kindsF (byteAt t 0)) (kindsN (byteAt t 0)) + 1 := by unfold oneL; rw [if_neg hnb]
        by_cases c1 : byteAt t 0 = 1
        · rw [c1, show kindsN 1 = 3 from rfl] at eX eW eL
          replace ei := ei.trans c1
          have he : ∀ K : Nat → Int, (∀ j, j < 3 → K j = kindsF 1 j) → errT (fromZ t 1) K 3 = errT (fromZ t 1) (kindsF 1) 3 := fun K hK => (take_congr hK).1
          by_cases e : errT (fromZ t 1) (kindsF 1) 3 = 0
          · have ha := atN_le e
            rw [ht1] at ha
            rw [if_neg (fun q => q e), if_pos rfl] at eX
            rw [decide_eq_true e] at eW
            rw [if_pos eW]
            apply next eW
            rw [eL]
            have w0 := fld_word (s := fromZ t 1) (K := kindsF 1) (i := 0) rfl
            have w1 := fld_word (s := fromZ t 1) (K := kindsF 1) (i := 1) rfl
            refine rr_1k t i _ (opX s) hsz hs1 (by omega) (fun _ _ => rfl) _ _ _ _ _ ei he e (fun K hK => ?_) (fun K hK => ?_) (fun K hK => ?_) (fun K hK => ?_) (by omega) (hx.trans eX)
            · rw [fld_congr (n := 0) (fun j hj => hK j (by omega))]; exact wU32 rfl (by omega)
            · rw [fld_congr (n := 1) (fun j hj => hK j (by omega))]; exact wU32 rfl (by omega)
            · rw [fld_congr (n := 2) (fun j hj => hK j (by omega))]
            · rw [(take_congr hK).1, (take_congr hK).2, if_pos e]; exact w64 (by omega) (by omega)
          · rw [if_pos e] at eX
            rw [decide_eq_false e] at eW
            rw [if_neg (by rw [eW]; decide)]
            exact .inr (.last (by simp) (rr_1e t i _ (opX s) hsz hs1 (by omega) (fun _ _ => rfl) _ ei he e (hx.trans eX)))
        · by_cases c3 : byteAt t 0 = 3
          · rw [c3, show kindsN 3 = 1 from rfl] at eX eW eL
            replace ei := ei.trans c3
            have he : ∀ K : Nat → Int, (∀ j, j < 1 → K j = kindsF 3 j) → errT (fromZ t 1) K 1 = errT (fromZ t 1) (kindsF 3) 1 := fun K hK => (take_congr hK).1
            by_cases e : errT (fromZ t 1) (kindsF 3) 1 = 0
            · have ha := atN_le e
              rw [ht1] at ha
              rw [if_neg (fun q => q e), if_neg (by decide), if_pos rfl] at eX
              rw [decide_eq_true e] at eW
              rw [if_pos eW]
              apply next eW
              rw [eL]
              refine rr_3k t i _ (opX s) hsz hs1 (by omega) (fun _ _ => rfl) _ _ _ ei he e (fun K hK => ?_) (fun K hK => ?_) (by omega) (hx.trans eX)
              · rw [fld_congr (n := 0) (fun j hj => hK j (by omega))]
              · rw [(take_congr hK).1, (take_congr hK).2, if_pos e]; exact w64 (by omega) (by omega)
            · rw [if_pos e] at eX
              rw [decide_eq_false e] at eW
              rw [if_neg (by rw [eW]; decide)]
              exact .inr (.last (by simp) (rr_3e t i _ (opX s) hsz hs1 (by omega) (fun _ _ => rfl) _ ei he e (hx.trans eX)))
          · have k0 : kindsN (byteAt t 0) = 0 := by unfold kindsN; rw [if_neg c1, if_neg c3]
            rw [k0] at eX eW eL
            have e : errT (fromZ t 1) (kindsF (byteAt t 0)) 0 = 0 := rfl
            rw [if_neg (fun q => q e), if_neg c1, if_neg c3] at eX
            rw [decide_eq_true e] at eW
            rw [if_pos eW]
            apply next eW
            rw [eL]
            exact rr_2 t i _ (opX s) hsz hs1 (by omega) (fun _ _ => rfl) _ ei c1 c3 (by omega) (by omega) (hx.trans eX)
theorem fnRRead (s : ByteArray) (hz : s.size ≤ 100000000) : FnOk Try.prog 9 [sA s] [] (.nv (.one (.own 0))) [.row 30 5 (numO s) (gO (opX s))] := by
  have := rr_loop s hz s.size 0 (Nat.zero_le _) (Nat.sub_le _ _)
  rw [show fromZ s (offO s 0) = s from ints_ext (by rw [fromZ_ints]; rfl), Nat.zero_add] at this
  rcases this with h | h
  · exact rr_f s _ _ _ h.code
  · exact rr_g s _ (opX s) _ h.code
def gRead : List SV → List Seg → Option (CS × List Prop)
  | [.nv (.one (.val (.string s)))], mem => some (⟨[sA s], [], .nv (.one (.own 0)), [.row 30 5 (numO s) (gO (opX s))]⟩, [s.size ≤ 100000000])
  | _, _ => none
theorem spReadO : SpOk Try.prog 8 (.lift gRead) := by
  intro args mem cs obl h ho
  unfold gRead at h
  split at h
  · simp only [Option.some.injEq, Prod.mk.injEq] at h
    obtain ⟨rfl, rfl⟩ := h
    exact fnReadO _ ho.1
  · cases h
theorem spRRead : SpOk Try.prog 9 (.lift gRead) := by
  intro args mem cs obl h ho
  unfold gRead at h
  split at h
  · simp only [Option.some.injEq, Prod.mk.injEq] at h
    obtain ⟨rfl, rfl⟩ := h
    exact fnRRead _ ho.1
  · cases h
theorem fnSameO (len : Nat) (L M : Nat → Op5) (hl : len ≤ 100000000) (e : ∀ i, i < len → L i = M i) :
    FnOk Try.prog 7 [.nv (.one (.own 0)), .nv (.one (.own 1))] [.ro 5 len (gO L), .ro 5 len (gO M)] (bA true) [.ro 5 len (gO L), .ro 5 len (gO M)] := by
  refine os_f len L M ?_
  refine loop_ok (α := Nat) (fun i => mkSt 26 [(0, .nv (.one (.own 0))), (1, .nv (.one (.own 1))), (5, iA i)] [.ro 5 len (gO L), .ro 5 len (gO M)]) (fun i => i ≤ len) (fun i => len - i) (by simp) ?_ (x := 0) (Nat.zero_le _)
  intro i hi
  by_cases q : i = len
  · subst q; exact .inr (os_e i L M)
  · exact .inl ⟨i + 1, (show i + 1 ≤ len by omega), (show len - (i + 1) < len - i by omega), os_n len i L M (by omega) hl (e i (by omega))⟩
def gSameO : List SV → List Seg → Option (CS × List Prop)
  | [.nv (.one a), .nv (.one b)], mem => match srcOf mem 5 a, srcOf mem 5 b with
    | some (n, g, _), some (m, g2, _) => some (⟨[.nv (.one (.own 0)), .nv (.one (.own 1))], [.ro 5 n (gO (opOf g)), .ro 5 n (gO (opOf g2))], bA true, [.ro 5 n (gO (opOf g)), .ro 5 n (gO (opOf g2))]⟩, [n ≤ 100000000, ∀ i, i < n → opOf g i = opOf g2 i])
    | _, _ => none
  | _, _ => none
theorem spSameO : SpOk Try.prog 7 (.lift gSameO) := by
  intro args mem cs obl h ho
  unfold gSameO at h
  split at h
  · split at h
    · simp only [Option.some.injEq, Prod.mk.injEq] at h
      obtain ⟨rfl, rfl⟩ := h
      exact fnSameO _ _ _ ho.1 ho.2.1
    · cases h
  · cases h
theorem cnt_le (s : ByteArray) : ∀ (f i : Nat), i + (cntO s f i).1 ≤ i + f
  | 0, i => Nat.le_refl _
  | f + 1, i => by
    have := cnt_le s f (i + 1)
    rw [cntO]
    split
    · simp
    · split
      · simp only; omega
      · simp
theorem opEq {a b : Op5} (h : a.k = b.k ∧ a.fl = b.fl ∧ a.id = b.id ∧ a.ln = b.ln ∧ a.tk = b.tk) : a = b := by
  obtain ⟨h1, h2, h3, h4, h5⟩ := h
  cases a; cases b; simp_all
theorem numO_le (s : ByteArray) : numO s ≤ s.size := by have := cnt_le s s.size 0; unfold numO; omega
def GoB : List (FuncId × Sp) := (8, .lift gRead) :: (9, .lift gRead) :: (7, .lift gSameO) :: GoA
theorem GoB_ok : CtxOk Try.prog GoB := ctx_cons (enter_of Try.func8 (by kernel_rfl) (by kernel_rfl)) spReadO <|
  ctx_cons (enter_of Try.func9 (by kernel_rfl) (by kernel_rfl)) spRRead <|
  ctx_cons (enter_of Try.func7 (by kernel_rfl) (by kernel_rfl)) spSameO GoA_ok
end Go.Proofs.Ytecgigeahkijaaa

/- ops: what is put is read as it was, and what is read is put as it stood: plain laws. No condition. -/
import Derived.Test.YtecgigeahkijaaaOpP
import Derived.Test.YtecgigeahkijaaaWsX
namespace Go.Proofs.Ytecgigeahkijaaa
set_option linter.unusedVariables false
set_option linter.unusedSimpArgs false
open Go.RowKit E

theorem byte0 {t : ByteArray} {c : Int} {l : List Int} (h : ints t = c :: l) : byteAt t 0 = c ∧ ints (fromZ t 1) = l ∧ 1 ≤ t.size := by
  refine ⟨?_, by rw [fromZ_ints, h]; rfl, ?_⟩
  · have := byteAt_ints t 0
    rw [h] at this; exact this
  · have := ints_size h; rw [this]; simp
theorem oneO_put {t : ByteArray} {x : Op5} {T : List Int} (h : ints t = opL x ++ T) (hw : x.wf) (hr : rgt x = true) : oneX t = x ∧ oneW t = true ∧ oneL t = (opL x).length := by
  obtain ⟨h0, h4, r1, r2, r3, r4⟩ := (rgt_iff x).1 hr
  obtain ⟨p1, p2⟩ := op_put hw hr
  by_cases k1 : x.k = 1
  · have eo : opL x = 1 :: (hiL 4 x.fl ++ (hiL 4 x.id ++ varL 9 x.ln)) := by unfold opL; rw [if_pos k1]
    have en : fldN x = 4 := by unfold fldN; rw [if_pos k1]
    rw [eo] at h ⊢
    obtain ⟨b1, b2, b3⟩ := byte0 (l := (hiL 4 x.fl ++ (hiL 4 x.id ++ varL 9 x.ln)) ++ T) h
    have e1 : fldF x 1 = ⟨3, x.fl, .empty⟩ := by unfold fldF; rw [if_pos k1]; rfl
    have e2 : fldF x 2 = ⟨3, x.id, .empty⟩ := by unfold fldF; rw [if_pos k1]; rfl
    have e3 : fldF x 3 = ⟨5, x.ln, .empty⟩ := by unfold fldF; rw [if_pos k1]; rfl
    rw [en] at p1
    have ea : putAll (fun j => fldF x (j + 1)) 3 = hiL 4 x.fl ++ (hiL 4 x.id ++ varL 9 x.ln) := by
      rw [putAll, putAll, putAll, putAll, e1, e2, e3]
      show (([] ++ hiL 4 x.fl) ++ hiL 4 x.id) ++ varL 9 x.ln = _
      simp
    have eb : badZ (fun j => fldF x (j + 1)) 3 = 0 := by
      have c1 := (badZ_low p1 1 (by omega)).2
      have c2 := (badZ_low p1 2 (by omega)).2
      have c3 := (badZ_low p1 3 (by omega)).2
      rw [badZ, badZ, badZ, badZ, c1, c2, c3]; rfl
    have tp := take_put (L := fun j => fldF x (j + 1)) (K := kindsF 1) (s := fromZ t 1) (n := 3) (T := T) (by rw [b2, ea]) eb (fun i _ => fld_wf hw hr (i + 1)) (fun i hi => by
      match i, hi with
      | 0, _ => rw [e1]; rfl
      | 1, _ => rw [e2]; rfl
      | 2, _ => rw [e3]; rfl) 3 (Nat.le_refl _)
    obtain ⟨t1, t2, t3⟩ := tp
    have hb : begB (byteAt t 0) = true := by rw [b1]; rfl
    have hnb : ¬ begB (byteAt t 0) = false := by rw [hb]; decide
    unfold oneX oneW oneL
    rw [if_neg hnb, if_neg hnb, if_neg hnb, b1, show kindsN 1 = 3 from rfl, if_neg (fun q => q t1), if_pos rfl, decide_eq_true t1, t2, t3 0 (by omega), t3 1 (by omega), t3 2 (by omega), ea]
    refine ⟨?_, rfl, by rw [List.length_cons]⟩
    rw [e1, e2, e3]
    exact opEq ⟨k1.symm, rfl, rfl, rfl, (r3 (by omega)).symm⟩
  · by_cases k3 : x.k = 3
    · have eo : opL x = 3 :: varL 9 x.tk := by unfold opL; rw [if_neg k1, if_pos k3]
      have en : fldN x = 2 := by unfold fldN; rw [if_neg k1, if_pos k3]
      rw [eo] at h ⊢
      obtain ⟨b1, b2, b3⟩ := byte0 (l := varL 9 x.tk ++ T) h
      have e1 : fldF x 1 = ⟨5, x.tk, .empty⟩ := by unfold fldF; rw [if_neg k1, if_pos k3]; rfl
      rw [en] at p1
      have ea : putAll (fun j => fldF x (j + 1)) 1 = varL 9 x.tk := by
        rw [putAll, putAll, e1]
        show [] ++ varL 9 x.tk = _
        simp
      have eb : badZ (fun j => fldF x (j + 1)) 1 = 0 := by
        have c1 := (badZ_low p1 1 (by omega)).2
        rw [badZ, badZ, c1]; rfl
      obtain ⟨t1, t2, t3⟩ := take_put (L := fun j => fldF x (j + 1)) (K := kindsF 3) (s := fromZ t 1) (n := 1) (T := T) (by rw [b2, ea]) eb (fun i _ => fld_wf hw hr (i + 1)) (fun i hi => by
        match i, hi with
        | 0, _ => rw [e1]; rfl) 1 (Nat.le_refl _)
      have hb : begB (byteAt t 0) = true := by rw [b1]; rfl
      have hnb : ¬ begB (byteAt t 0) = false := by rw [hb]; decide
      unfold oneX oneW oneL
      rw [if_neg hnb, if_neg hnb, if_neg hnb, b1, show kindsN 3 = 1 from rfl, if_neg (fun q => q t1), if_neg (by decide), if_pos rfl, decide_eq_true t1, t2, t3 0 (by omega), ea]
      refine ⟨?_, rfl, by rw [List.length_cons]⟩
      rw [e1]
      exact opEq ⟨k3.symm, (r1 k1).1.symm, (r1 k1).2.symm, (r2 k1 (by omega)).symm, rfl⟩
    · have eo : opL x = [if x.k = 0 then x.ln else x.k] := by unfold opL; rw [if_neg k1, if_neg k3]
      rw [eo] at h ⊢
      obtain ⟨b1, b2, b3⟩ := byte0 (l := T) h
      by_cases k0 : x.k = 0
      · rw [if_pos k0] at b1
        have hl := r4 k0
        have hln := hw.2.2.2.2.1
        have hb : begB (byteAt t 0) = false := by
          rw [b1]; unfold begB
          simp only [Bool.and_eq_false_iff, decide_eq_false_iff_not]; omega
        obtain ⟨w1, w2, w3⟩ := oneW_beg hb
        refine ⟨?_, w1, by rw [w2]; rfl⟩
        rw [w3, b1]
        exact opEq ⟨k0.symm, (r1 k1).1.symm, (r1 k1).2.symm, rfl, (r3 k3).symm⟩
      · rw [if_neg k0] at b1
        have hb : begB (byteAt t 0) = true := by
          rw [b1]; unfold begB
          simp only [Bool.and_eq_true, decide_eq_true_eq]; omega
        have hnb : ¬ begB (byteAt t 0) = false := by rw [hb]; decide
        have kn : kindsN x.k = 0 := by unfold kindsN; rw [if_neg k1, if_neg k3]
        have t1 : errT (fromZ t 1) (kindsF x.k) 0 = 0 := rfl
        unfold oneX oneW oneL
        rw [if_neg hnb, if_neg hnb, if_neg hnb, b1, kn, if_neg (fun q => q t1), if_neg k1, if_neg k3, decide_eq_true t1]
        refine ⟨?_, rfl, rfl⟩
        exact opEq ⟨rfl, (r1 k1).1.symm, (r1 k1).2.symm, (r2 k1 k0).symm, (r3 k3).symm⟩
theorem mk_ok {k fl id ln tk : Int} (h1 : 0 ≤ fl ∧ fl < 4294967296 ∧ 0 ≤ id ∧ id < 4294967296 ∧ 0 ≤ ln ∧ ln < 18446744073709551616 ∧ 0 ≤ tk ∧ tk < 18446744073709551616)
    (h2 : 0 ≤ k ∧ k ≤ 4 ∧ (k ≠ 1 → fl = 0 ∧ id = 0) ∧ (k ≠ 1 → k ≠ 0 → ln = 0) ∧ (k ≠ 3 → tk = 0) ∧ (k = 0 → ln < 256 ∧ (ln = 0 ∨ 4 < ln))) : Op5.wf ⟨k, fl, id, ln, tk⟩ ∧ rgt ⟨k, fl, id, ln, tk⟩ = true := ⟨h1, (rgt_iff _).2 h2⟩
theorem putL_3 {f : Fl} (h : f.k = 3) : putL f = hiL 4 f.n := by unfold putL; rw [h]; rfl
theorem putL_5 {f : Fl} (h : f.k = 5) : putL f = varL 9 f.n := by unfold putL; rw [h]; rfl
theorem fldT_k (s : ByteArray) (K : Nat → Int) (i : Nat) : (fldT s K i).k = K i := rfl
theorem oneO_take {t : ByteArray} (h1 : 1 ≤ t.size) (hw : oneW t = true) : (oneX t).wf ∧ rgt (oneX t) = true ∧ opL (oneX t) = (ints t).take (oneL t) := by
  have hc := byteAt_bd t 0
  have hil := ints_len t
  obtain ⟨l, hl⟩ : ∃ l, ints t = byteAt t 0 :: l := by
    have e := byteAt_ints t 0
    cases hh : ints t with
    | nil => rw [hh] at hil; simp at hil; omega
    | cons a l => rw [hh] at e; exact ⟨l, by rw [show byteAt t 0 = a from e]⟩
  have hf1 : ints (fromZ t 1) = l := by rw [fromZ_ints, hl]; rfl
  cases hb : begB (byteAt t 0) with
  | false =>
    obtain ⟨w1, w2, w3⟩ := oneW_beg hb
    rw [w2, w3]
    have hn : byteAt t 0 = 0 ∨ 4 < byteAt t 0 := by
      unfold begB at hb
      simp only [Bool.and_eq_false_iff, decide_eq_false_iff_not] at hb
      omega
    obtain ⟨m1, m2⟩ := mk_ok (k := 0) (fl := 0) (id := 0) (ln := byteAt t 0) (tk := 0) (by omega) (by omega)
    refine ⟨m1, m2, ?_⟩
    rw [hl]; rfl
  | true =>
    have hnb : ¬ begB (byteAt t 0) = false := by rw [hb]; decide
    have hbb : 1 ≤ byteAt t 0 ∧ byteAt t 0 ≤ 4 := by
      unfold begB at hb
      simp only [Bool.and_eq_true, decide_eq_true_eq] at hb
      exact hb
    unfold oneW at hw
    rw [if_neg hnb] at hw
    have he := of_decide_eq_true hw
    obtain ⟨q1, q2⟩ := take_only he
    have eX : oneX t = if errT (fromZ t 1) (kindsF (byteAt t 0)) (kindsN (byteAt t 0)) ≠ 0 then ⟨5, 0, 0, 0, 0⟩
        else if byteAt t 0 = 1 then ⟨1, (fldT (fromZ t 1) (kindsF 1) 0).n, (fldT (fromZ t 1) (kindsF 1) 1).n, (fldT (fromZ t 1) (kindsF 1) 2).n, 0⟩
        else if byteAt t 0 = 3 then ⟨3, 0, 0, 0, (fldT (fromZ t 1) (kindsF 3) 0).n⟩
        else ⟨byteAt t 0, 0, 0, 0, 0⟩ := by unfold oneX; rw [if_neg hnb]
    have eL : oneL t = atN (fromZ t 1) (kindsF (byteAt t 0)) (kindsN (byteAt t 0)) + 1 := by unfold oneL; rw [if_neg hnb]
    rw [if_neg (fun q => q he)] at eX
    rw [hf1] at q2
    by_cases c1 : byteAt t 0 = 1
    · rw [if_pos c1] at eX
      rw [c1, show kindsN 1 = 3 from rfl] at eL q1 q2
      have w0 := fld_word (s := fromZ t 1) (K := kindsF 1) (i := 0) rfl
      have w1 := fld_word (s := fromZ t 1) (K := kindsF 1) (i := 1) rfl
      have w2 := fldT_wf (fromZ t 1) (kindsF 1) 2
      have c0' := (badZ_low q1 0 (by omega)).2
      have c1' := (badZ_low q1 1 (by omega)).2
      have c2' := (badZ_low q1 2 (by omega)).2
      rw [eX, eL, hl, c1]
      obtain ⟨m1, m2⟩ := mk_ok (k := 1) (fl := (fldT (fromZ t 1) (kindsF 1) 0).n) (id := (fldT (fromZ t 1) (kindsF 1) 1).n) (ln := (fldT (fromZ t 1) (kindsF 1) 2).n) (tk := 0) (by have := w2.1; have := w2.2; omega) (by omega)
      refine ⟨m1, m2, ?_⟩
      have f0 := putL_3 (f := fldT (fromZ t 1) (kindsF 1) 0) (fldT_k _ _ _)
      have f1 := putL_3 (f := fldT (fromZ t 1) (kindsF 1) 1) (fldT_k _ _ _)
      have f2 := putL_5 (f := fldT (fromZ t 1) (kindsF 1) 2) (fldT_k _ _ _)
      rw [List.take_succ_cons, ← q2, putAll, putAll, putAll, putAll, f0, f1, f2]
      unfold opL
      rw [if_pos rfl]
      simp
    · by_cases c3 : byteAt t 0 = 3
      · rw [if_neg c1, if_pos c3] at eX
        rw [c3, show kindsN 3 = 1 from rfl] at eL q1 q2
        have w2 := fldT_wf (fromZ t 1) (kindsF 3) 0
        rw [eX, eL, hl, c3]
        obtain ⟨m1, m2⟩ := mk_ok (k := 3) (fl := 0) (id := 0) (ln := 0) (tk := (fldT (fromZ t 1) (kindsF 3) 0).n) (by have := w2.1; have := w2.2; omega) (by omega)
        refine ⟨m1, m2, ?_⟩
        have f0 := putL_5 (f := fldT (fromZ t 1) (kindsF 3) 0) (fldT_k _ _ _)
        rw [List.take_succ_cons, ← q2, putAll, putAll, f0]
        unfold opL
        rw [if_neg (show ¬ (3 : Int) = 1 by decide), if_pos rfl]
        simp
      · have k0 : kindsN (byteAt t 0) = 0 := by unfold kindsN; rw [if_neg c1, if_neg c3]
        rw [if_neg c1, if_neg c3] at eX
        rw [k0] at eL
        rw [eX, eL, hl]
        obtain ⟨m1, m2⟩ := mk_ok (k := byteAt t 0) (fl := 0) (id := 0) (ln := 0) (tk := 0) (by omega) (by omega)
        refine ⟨m1, m2, ?_⟩
        unfold opL
        simp only
        rw [if_neg c1, if_neg c3, if_neg (show ¬ byteAt t 0 = 0 by omega)]
        rfl
theorem opsL_split {L : Nat → Op5} {i : Nat} : ∀ {n : Nat}, i < n → ∃ R, opsL L n = opsL L i ++ (opL (L i) ++ R)
  | 0, h => absurd h (Nat.not_lt_zero i)
  | n + 1, h => by
    by_cases e : i = n
    · subst e; exact ⟨[], by rw [opsL]; simp⟩
    · obtain ⟨R, hR⟩ := opsL_split (L := L) (i := i) (n := n) (by omega)
      exact ⟨R ++ opL (L n), by rw [opsL, hR]; simp⟩
/-- What is put is read as it was, whatever stands behind it. -/
theorem read_put {s : ByteArray} {L : Nat → Op5} {n : Nat} {T : List Int} (h : ints s = opsL L n ++ T) (hr : allR L n = true) (hw : ∀ i, i < n → (L i).wf) :
    ∀ i, i ≤ n → offO s i = (opsL L i).length ∧ ∀ j, j < i → opX s j = L j ∧ oneW (fromZ s (offO s j)) = true ∧ offO s j < s.size
  | 0, _ => ⟨rfl, fun j hj => absurd hj (Nat.not_lt_zero j)⟩
  | i + 1, hi => by
    obtain ⟨h1, h2⟩ := read_put h hr hw i (by omega)
    obtain ⟨b1, b2⟩ := allR_low hr i (by omega)
    obtain ⟨R, hR⟩ := opsL_split (L := L) (i := i) (n := n) (by omega)
    obtain ⟨o1, o2, o3⟩ := oneO_put (t := fromZ s (offO s i)) (x := L i) (T := R ++ T) (by rw [fromZ_ints, h, hR, h1, List.append_assoc, List.drop_left' rfl, List.append_assoc]) (hw i (by omega)) b2
    refine ⟨by rw [offO, o3, h1, opsL, List.length_append], fun j hj => ?_⟩
    by_cases e : j = i
    · subst e
      refine ⟨o1, o2, ?_⟩
      have := ints_size h
      rw [hR] at this
      have := op_len (L j)
      simp only [List.length_append] at *
      omega
    · exact h2 j (by omega)
theorem cnt_all {s : ByteArray} {n : Nat} (hn : offO s n = s.size) (h : ∀ j, j < n → oneW (fromZ s (offO s j)) = true ∧ offO s j < s.size) : ∀ (f i : Nat), i ≤ n → n - i ≤ f → cntO s f i = (n - i, false)
  | 0, i, h1, h2 => by rw [cntO, show n - i = 0 by omega]
  | f + 1, i, h1, h2 => by
    rw [cntO]
    by_cases e : i = n
    · subst e; rw [if_pos (by omega), Nat.sub_self]
    · obtain ⟨a, b⟩ := h i (by omega)
      rw [if_neg (by omega), if_pos a, cnt_all hn h f (i + 1) (by omega) (by omega)]
      show (n - (i + 1) + 1, false) = _
      rw [show n - (i + 1) + 1 = n - i by omega]
theorem read_back {s : ByteArray} {L : Nat → Op5} {n : Nat} (h : ints s = opsL L n) (hr : allR L n = true) (hw : ∀ i, i < n → (L i).wf) :
    numO s = n ∧ tornO s = false ∧ ∀ j, j < n → opX s j = L j := by
  obtain ⟨h1, h2⟩ := read_put (T := []) (by rw [h]; simp) hr hw n (Nat.le_refl _)
  have hs := ints_size h
  have hl := opsL_len L n
  have := cnt_all (s := s) (n := n) (by omega) (fun j hj => (h2 j hj).2) s.size 0 (Nat.zero_le _) (by omega)
  unfold numO tornO
  rw [this]
  exact ⟨rfl, rfl, fun j hj => (h2 j hj).1⟩
end Go.Proofs.Ytecgigeahkijaaa

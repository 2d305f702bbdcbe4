/- wire: what is put is taken as it was; cut off it is too short: plain laws. No condition. -/
import Derived.Test.YtecgigeahkijaaaWsJ
namespace Go.Proofs.Ytecgigeahkijaaa
set_option linter.unusedVariables false
set_option linter.unusedSimpArgs false
open Go.RowKit E

theorem numL_put : ∀ (f i : Nat) (x v : Int) (T : List Int), i + f = 9 → 0 ≤ v → v < 2 * 128 ^ f → (0 < i → 0 < v) →
    numL i x (varL f v ++ T) = (x + v * 128 ^ i, (i : Int) + (varL f v).length, 0)
  | 0, i, x, v, T, hi, h0, h1, hp => by
    have : i = 9 := by omega
    subst this
    show numL 9 x (v :: T) = _
    rw [numL, if_neg (by omega), if_pos (by omega)]
    rfl
  | f + 1, i, x, v, T, hi, h0, h1, hp => by
    rw [Int.pow_succ] at h1
    by_cases q : 128 ≤ v
    · rw [varL_go q]
      show numL i x ((v % 128 + 128) :: (varL f (v / 128) ++ T)) = _
      rw [numL, if_neg (by omega), if_neg (by omega), numL_put f (i + 1) _ (v / 128) T (by omega) (by omega) (by omega) (fun _ => by omega)]
      have e : x + (v % 128 + 128 - 128) * 128 ^ i + v / 128 * 128 ^ (i + 1) = x + v * 128 ^ i := by
        have hv : v = v % 128 + 128 * (v / 128) := by omega
        have : v * 128 ^ i = (v % 128) * 128 ^ i + (v / 128) * 128 ^ (i + 1) := by
          rw [Int.pow_succ, Int.mul_comm (128 ^ i) 128, ← Int.mul_assoc, ← Int.add_mul]
          congr 1; omega
        rw [this, show v % 128 + 128 - 128 = v % 128 by omega]
        omega
      rw [e, List.length_cons]
      refine Prod.ext rfl (Prod.ext ?_ rfl)
      show ((i + 1 : Nat) : Int) + ((varL f (v / 128)).length : Int) = (i : Int) + (((varL f (v / 128)).length + 1 : Nat) : Int)
      omega
    · rw [varL_end q]
      show numL i x (v :: T) = _
      rw [numL, if_neg (by omega), if_pos (by omega)]
      rfl
theorem numL_cut : ∀ (f i : Nat) (x v : Int) (p q : List Int), i + f = 9 → 0 ≤ v → v < 2 * 128 ^ f → p ++ q = varL f v → q ≠ [] → numL i x p = (0, 0, 2)
  | 0, i, x, v, p, q, hi, h0, h1, e, hq => by
    rw [varL] at e
    cases p with
    | nil => rfl
    | cons a p => simp at e; exact absurd e.2.2 hq
  | f + 1, i, x, v, p, q, hi, h0, h1, e, hq => by
    rw [Int.pow_succ] at h1
    cases p with
    | nil => rfl
    | cons a p =>
      by_cases g : 128 ≤ v
      · rw [varL_go g] at e
        obtain ⟨ea, e'⟩ := List.cons.inj e
        subst ea
        rw [numL, if_neg (by omega), if_neg (by omega)]
        exact numL_cut f (i + 1) _ (v / 128) p q (by omega) (by omega) (by omega) e' hq
      · rw [varL_end g] at e
        simp at e; exact absurd e.2.2 hq
theorem bigZ_hi : ∀ (w : Nat) (n : Int), 0 ≤ n → bigZ 0 (hiL w n) = n % 256 ^ w
  | 0, n, h => by show (0 : Int) = n % 256 ^ 0; rw [Int.pow_zero, Int.emod_one]
  | w + 1, n, h => by
    show bigZ 0 (hiL w (n / 256) ++ [n % 256]) = _
    rw [bigZ_snoc, bigZ_hi w (n / 256) (by omega)]
    have hp : (0 : Int) < 256 ^ w := Int.pow_pos (by omega)
    have e : n / 256 % 256 ^ w = n / 256 - 256 ^ w * (n / 256 / 256 ^ w) := by have := Int.emod_def (n / 256) (256 ^ w); omega
    have e2 : n % 256 ^ (w + 1) = n - 256 ^ (w + 1) * (n / 256 ^ (w + 1)) := Int.emod_def _ _
    have e3 : n / 256 ^ (w + 1) = n / 256 / 256 ^ w := by rw [Int.pow_succ, Int.mul_comm, ← Int.ediv_ediv_of_nonneg (by omega)]
    rw [e, e2, e3, Int.pow_succ, Int.sub_mul, Int.mul_assoc, Int.mul_assoc, Int.mul_comm (n / 256 / 256 ^ w) 256]
    omega
theorem ints_extract (s : ByteArray) (a b : Nat) : ints (s.extract a b) = ((ints s).drop a).take (b - a) := by
  unfold ints
  rw [ext_toList, List.map_take, List.map_drop]
theorem ints_size {s : ByteArray} {l : List Int} (h : ints s = l) : s.size = l.length := by rw [← h, ints_len]
theorem oneZ_put {s : ByteArray} {f : Fl} {T : List Int} (h : ints s = putL f ++ T) (hc : ckZ f = 0) (hf : f.wf) : oneZ s f.k = (f.n, f.s, ((putL f).length : Int), 0) := by
  obtain ⟨k1, k2, k3, k4, k5⟩ := ckZ_ok hc
  have hw := widthZ_bd f.k
  have hs := ints_size h
  rw [List.length_append] at hs
  have hwk : ∀ k : Int, widthZ k = 0 ↔ k < 1 ∨ 4 < k := fun k => by unfold widthZ; (repeat' split) <;> omega
  unfold oneZ
  by_cases q : 0 < widthZ f.k
  · have n5 : f.k ≠ 5 := fun e => by rw [e] at q; have : widthZ 5 = 0 := rfl; omega
    have n6 : f.k ≠ 6 := fun e => by rw [e] at q; have : widthZ 6 = 0 := rfl; omega
    have e : putL f = hiL (widthZ f.k).toNat f.n := by unfold putL; rw [if_neg n5, if_neg n6]
    rw [e] at h hs ⊢
    rw [hiL_len] at hs ⊢
    rw [if_pos q, if_neg (by omega), if_neg (by omega)]
    have ev : fixV s (widthZ f.k) = f.n := by
      unfold fixV
      rw [if_neg (by omega), h, List.take_left' (hiL_len _ _), bigZ_hi _ _ hf.1]
      have := k5 q
      rw [Int.natCast_pow, show ((2 : Nat) : Int) = 2 from rfl, pow_2_8] at this
      exact Int.emod_eq_of_lt hf.1 this
    rw [ev, show f.s = .empty from (str_empty _).2 (k3 n6)]
    refine Prod.ext rfl (Prod.ext rfl (Prod.ext ?_ rfl))
    show widthZ f.k = ((widthZ f.k).toNat : Int); omega
  · rw [if_neg q]
    have hk : f.k = 5 ∨ f.k = 6 := by omega
    rcases hk with e5 | e6
    · have e : putL f = varL 9 f.n := by unfold putL; rw [if_pos e5]
      rw [e] at h ⊢
      have hn : numZ s = (f.n, ((varL 9 f.n).length : Int), 0) := by
        unfold numZ; rw [h, numL_put 9 0 0 f.n T rfl hf.1 (by have := hf.2; omega) (fun q => absurd q (by omega))]
        simp
      rw [if_pos e5, hn, show f.s = .empty from (str_empty _).2 (k3 (by omega))]
    · have e : putL f = varL 9 f.s.size ++ ints f.s := by unfold putL; rw [if_neg (by omega), if_pos e6]
      rw [e] at h hs ⊢
      rw [List.append_assoc] at h
      rw [List.length_append, ints_len] at hs ⊢
      have hn : numZ s = ((f.s.size : Int), ((varL 9 (f.s.size : Int)).length : Int), 0) := by
        unfold numZ; rw [h, numL_put 9 0 0 f.s.size _ rfl (by omega) (by omega) (fun q => absurd q (by omega))]
        simp
      rw [if_neg (by omega), if_pos e6]
      have ht : txtZ s = (f.s, (((varL 9 (f.s.size : Int)).length + f.s.size : Nat) : Int), 0) := by
        unfold txtZ
        rw [hn]
        simp only
        rw [if_neg (by omega), if_neg (by omega), if_neg (by omega)]
        refine Prod.ext ?_ (Prod.ext (by show _ = _; simp) rfl)
        apply ints_ext
        show ints (s.extract _ _) = _
        rw [ints_extract, h, Int.toNat_natCast, List.drop_left' rfl]
        rw [show (((varL 9 (f.s.size : Int)).length : Int) + (f.s.size : Int)).toNat - (varL 9 (f.s.size : Int)).length = f.s.size by omega]
        rw [List.take_left' (ints_len _)]
      rw [ht, k4 e6]
theorem oneZ_cut {s : ByteArray} {f : Fl} {p q : List Int} (h : ints s = p) (e : p ++ q = putL f) (hq : q ≠ []) (hc : ckZ f = 0) (hf : f.wf) : (oneZ s f.k).2.2.2 = 2 := by
  obtain ⟨k1, k2, k3, k4, k5⟩ := ckZ_ok hc
  have hw := widthZ_bd f.k
  have hs := ints_size h
  have hql : 0 < q.length := List.length_pos_iff.2 hq
  have hl := congrArg List.length e
  rw [List.length_append] at hl
  unfold oneZ
  by_cases g : 0 < widthZ f.k
  · have n5 : f.k ≠ 5 := fun e => by rw [e] at g; have : widthZ 5 = 0 := rfl; omega
    have n6 : f.k ≠ 6 := fun e => by rw [e] at g; have : widthZ 6 = 0 := rfl; omega
    have e2 : putL f = hiL (widthZ f.k).toNat f.n := by unfold putL; rw [if_neg n5, if_neg n6]
    rw [e2, hiL_len] at hl
    rw [if_pos g]
    show (if (s.size : Int) < widthZ f.k then (2 : Int) else 0) = 2
    rw [if_pos (by omega)]
  · rw [if_neg g]
    have hk : f.k = 5 ∨ f.k = 6 := by omega
    rcases hk with e5 | e6
    · have e2 : putL f = varL 9 f.n := by unfold putL; rw [if_pos e5]
      rw [e2] at e
      have hn : numZ s = (0, 0, 2) := by
        unfold numZ; rw [h, numL_cut 9 0 0 f.n p q rfl hf.1 (by have := hf.2; omega) e hq]
      rw [if_pos e5, hn]
    · have e2 : putL f = varL 9 f.s.size ++ ints f.s := by unfold putL; rw [if_neg (by omega), if_pos e6]
      rw [if_neg (by omega), if_pos e6]
      show (txtZ s).2.2 = 2
      rw [e2] at e
      by_cases c : p.length < (varL 9 (f.s.size : Int)).length
      · have e3 : p ++ (varL 9 (f.s.size : Int)).drop p.length = varL 9 (f.s.size : Int) := by
          have h1 := congrArg (List.take p.length) e
          rw [List.take_left' rfl, List.take_append_of_le_length (by omega)] at h1
          have h2 := List.take_append_drop p.length (varL 9 (f.s.size : Int))
          rw [← h1] at h2
          exact h2
        have hn : numZ s = (0, 0, 2) := by
          unfold numZ; rw [h, numL_cut 9 0 0 f.s.size p _ rfl (by omega) (by omega) e3 (fun q => by have := congrArg List.length q; simp at this; omega)]
        unfold txtZ; rw [hn]; rfl
      · have e3 : p = varL 9 (f.s.size : Int) ++ p.drop (varL 9 (f.s.size : Int)).length := by
          have h1 := congrArg (List.take (varL 9 (f.s.size : Int)).length) e
          rw [List.take_left' rfl, List.take_append_of_le_length (by omega)] at h1
          have h2 := List.take_append_drop (varL 9 (f.s.size : Int)).length p
          rw [h1] at h2
          exact h2.symm
        have hn : numZ s = ((f.s.size : Int), ((varL 9 (f.s.size : Int)).length : Int), 0) := by
          unfold numZ; rw [h, e3, numL_put 9 0 0 f.s.size _ rfl (by omega) (by omega) (fun q => absurd q (by omega))]
          simp
        rw [e2, List.length_append, ints_len] at hl
        unfold txtZ; rw [hn]; simp only
        rw [if_neg (by omega), if_neg (by omega), if_pos (by omega)]
theorem putAll_split {L : Nat → Fl} {i : Nat} : ∀ {n : Nat}, i < n → ∃ R, putAll L n = putAll L i ++ (putL (L i) ++ R)
  | 0, h => absurd h (Nat.not_lt_zero i)
  | n + 1, h => by
    by_cases e : i = n
    · subst e; exact ⟨[], by rw [putAll]; simp⟩
    · obtain ⟨R, hR⟩ := putAll_split (L := L) (i := i) (n := n) (by omega)
      exact ⟨R ++ putL (L n), by rw [putAll, hR]; simp⟩
theorem fld_ext {f : Fl} {k n : Int} {s : ByteArray} (h1 : k = f.k) (h2 : n = f.n) (h3 : s = f.s) : (⟨k, n, s⟩ : Fl) = f := by subst h1; subst h2; subst h3; rfl
theorem take_put {L : Nat → Fl} {K : Nat → Int} {s : ByteArray} {n : Nat} {T : List Int} (h : ints s = putAll L n ++ T) (hb : badZ L n = 0) (hw : ∀ i, i < n → (L i).wf) (hK : ∀ i, i < n → K i = (L i).k) :
    ∀ i, i ≤ n → errT s K i = 0 ∧ atN s K i = (putAll L i).length ∧ ∀ j, j < i → fldT s K j = L j
  | 0, _ => ⟨rfl, rfl, fun j hj => absurd hj (Nat.not_lt_zero j)⟩
  | i + 1, hi => by
    obtain ⟨h1, h2, h3⟩ := take_put h hb hw hK i (by omega)
    obtain ⟨b1, b2⟩ := badZ_low hb i (by omega)
    obtain ⟨R, hR⟩ := putAll_split (L := L) (i := i) (n := n) (by omega)
    have ho : oneZ (fromZ s (atN s K i)) (K i) = ((L i).n, (L i).s, ((putL (L i)).length : Int), 0) := by
      rw [hK i (by omega)]
      refine oneZ_put (T := R ++ T) ?_ b2 (hw i (by omega))
      rw [fromZ_ints, h, hR, h2, List.append_assoc, List.drop_left' rfl, List.append_assoc]
    refine ⟨by rw [errT, if_pos h1, ho], by rw [atN, ho, h2, putAll, List.length_append]; simp, fun j hj => ?_⟩
    by_cases e : j = i
    · subst e
      unfold fldT
      rw [ho]
      exact fld_ext (hK j (by omega)) rfl rfl
    · exact h3 j (by omega)
theorem errT_stay {s : ByteArray} {K : Nat → Int} {p : Nat} (h : errT s K p ≠ 0) : ∀ {n : Nat}, p ≤ n → errT s K n = errT s K p
  | 0, hn => by have : p = 0 := by omega
                subst this; rfl
  | n + 1, hn => by
    by_cases e : p = n + 1
    · subst e; rfl
    · have := errT_stay h (n := n) (by omega)
      rw [errT, if_neg (by rw [this]; exact h), this]
theorem putAll_at {L : Nat → Fl} {c : Nat} : ∀ {n : Nat}, c < (putAll L n).length → ∃ p, p < n ∧ (putAll L p).length ≤ c ∧ c < (putAll L (p + 1)).length
  | 0, h => absurd h (Nat.not_lt_zero c)
  | n + 1, h => by
    by_cases e : c < (putAll L n).length
    · obtain ⟨p, h1, h2⟩ := putAll_at e
      exact ⟨p, by omega, h2⟩
    · exact ⟨n, by omega, by omega, h⟩
/-- Cut off ahead of its end it is too short. -/
theorem take_cut {L : Nat → Fl} {K : Nat → Int} {s : ByteArray} {n c : Nat} (hc : c < (putAll L n).length) (h : ints s = (putAll L n).take c) (hb : badZ L n = 0) (hw : ∀ i, i < n → (L i).wf) (hK : ∀ i, i < n → K i = (L i).k) : errT s K n = 2 := by
  obtain ⟨p, h1, h2, h3⟩ := putAll_at hc
  obtain ⟨b1, b2⟩ := badZ_low hb p h1
  obtain ⟨R, hR⟩ := putAll_split (L := L) (i := p) (n := n) h1
  rw [putAll, List.length_append] at h3
  have e1 : ints s = putAll L p ++ (putL (L p)).take (c - (putAll L p).length) := by
    rw [h, hR, List.take_append, List.take_of_length_le (by omega), List.take_append_of_le_length (by omega)]
  obtain ⟨t1, t2, _⟩ := take_put e1 b1 (fun i hi => hw i (by omega)) (fun i hi => hK i (by omega)) p (Nat.le_refl _)
  have ho : (oneZ (fromZ s (atN s K p)) (K p)).2.2.2 = 2 := by
    rw [hK p h1]
    refine oneZ_cut (p := (putL (L p)).take (c - (putAll L p).length)) (q := (putL (L p)).drop (c - (putAll L p).length)) ?_ (List.take_append_drop _ _) ?_ b2 (hw p h1)
    · rw [fromZ_ints, e1, t2, List.drop_left' rfl]
    · intro q; have := congrArg List.length q; simp at this; omega
  have e2 : errT s K (p + 1) = 2 := by rw [errT, if_pos t1]; exact ho
  rw [errT_stay (p := p + 1) (by rw [e2]; decide) (by omega), e2]
end Go.Proofs.Ytecgigeahkijaaa

namespace Go.Proofs.Ytecgigeahkijaaa
set_option linter.unusedVariables false
set_option linter.unusedSimpArgs false
open Go.RowKit E

theorem hi_bigZ : ∀ (w : Nat) (l : List Int), inB l → l.length = w → hiL w (bigZ 0 l) = l
  | 0, l, _, h => by rw [List.length_eq_zero_iff] at h; subst h; rfl
  | w + 1, l, hb, h => by
    have hne : l ≠ [] := by intro e; subst e; cases h
    have e := List.dropLast_concat_getLast hne
    generalize l.dropLast = m at e
    generalize l.getLast hne = c at e
    subst e
    have hc := hb c (by simp)
    have hl : inB m := fun x hx => hb x (List.mem_append_left _ hx)
    have h0 := (bigZ_bd m 0 hl (Int.le_refl _)).1
    rw [bigZ_snoc]
    show hiL w ((bigZ 0 m * 256 + c) / 256) ++ [(bigZ 0 m * 256 + c) % 256] = _
    rw [show (bigZ 0 m * 256 + c) / 256 = bigZ 0 m by omega, show (bigZ 0 m * 256 + c) % 256 = c by omega, hi_bigZ w m hl (by simpa using h)]
theorem numL_take : ∀ (l : List Int) (i f : Nat) (x : Int), inB l → i + f = 9 → 0 ≤ x → x < 128 ^ i → (numL i x l).2.2 = 0 →
    ∃ v : Int, (numL i x l).1 = x + v * 128 ^ i ∧ 0 ≤ v ∧ v < 2 * 128 ^ f ∧ (0 < i → 0 < v) ∧ ((numL i x l).2.1 : Int) = i + (varL f v).length ∧ varL f v = l.take (varL f v).length
  | [], i, f, x, hb, hf, h0, h1, he => by cases he
  | c :: l, i, f, x, hb, hf, h0, h1, he => by
    have hc := hb c (List.mem_cons_self ..)
    rw [numL] at he ⊢
    by_cases c1 : (i = 9 ∧ 1 < c) ∨ (0 < i ∧ c = 0)
    · rw [if_pos c1] at he; cases he
    · rw [if_neg c1] at he ⊢
      have hp : (0 : Int) < 128 ^ f := Int.pow_pos (by omega)
      by_cases c7 : c < 128
      · rw [if_pos c7] at he ⊢
        have ev : varL f c = [c] := varL_end (by omega)
        refine ⟨c, rfl, hc.1, ?_, fun q => by omega, ?_, ?_⟩
        · cases f with
          | zero => simp; omega
          | succ f =>
            have hp : (0 : Int) < 128 ^ f := Int.pow_pos (by omega)
            rw [Int.pow_succ]; omega
        · rw [ev]; rfl
        · rw [ev]; rfl
      · rw [if_neg c7] at he ⊢
        cases f with
        | zero => exfalso; omega
        | succ f =>
          have hn := x_next h0 h1 (show 0 ≤ c - 128 by omega) (by omega)
          obtain ⟨v, v1, v2, v3, v4, v5, v6⟩ := numL_take l (i + 1) f _ (fun y hy => hb y (List.mem_cons_of_mem _ hy)) (by omega) hn.1 hn.2 he
          have hv := v4 (by omega)
          have eq1 : (v * 128 + (c - 128)) / 128 = v := by omega
          have eq2 : (v * 128 + (c - 128)) % 128 + 128 = c := by omega
          have ev : varL (f + 1) (v * 128 + (c - 128)) = c :: varL f v := by rw [varL_go (by omega), eq1, eq2]
          refine ⟨v * 128 + (c - 128), ?_, by omega, ?_, fun _ => by omega, ?_, ?_⟩
          · rw [v1, Int.pow_succ, Int.add_mul, Int.mul_assoc v 128, Int.mul_comm 128 (128 ^ i)]; omega
          · rw [Int.pow_succ]; omega
          · rw [v5, ev, List.length_cons]; omega
          · rw [ev, List.length_cons, List.take_succ_cons, ← v6]
theorem numZ_take {s : ByteArray} (h : (numZ s).2.2 = 0) : varL 9 (numZ s).1 = (ints s).take (numZ s).2.1.toNat ∧ ((varL 9 (numZ s).1).length : Int) = (numZ s).2.1 := by
  obtain ⟨v, v1, v2, v3, v4, v5, v6⟩ := numL_take (ints s) 0 9 0 (inB_ints s) rfl (Int.le_refl _) (by decide) h
  have e : (numZ s).1 = v := by show (numL 0 0 (ints s)).1 = v; rw [v1]; simp
  have e2 : (numZ s).2.1 = ((varL 9 v).length : Int) := by show (numL 0 0 (ints s)).2.1 = _; rw [v5]; simp
  rw [e, e2]
  exact ⟨by rw [Int.toNat_natCast]; exact v6, rfl⟩
theorem oneZ_take {s : ByteArray} {k : Int} (h : (oneZ s k).2.2.2 = 0) : ckZ ⟨k, (oneZ s k).1, (oneZ s k).2.1⟩ = 0 ∧ putL ⟨k, (oneZ s k).1, (oneZ s k).2.1⟩ = (ints s).take (oneZ s k).2.2.1.toNat ∧ ((putL ⟨k, (oneZ s k).1, (oneZ s k).2.1⟩).length : Int) = (oneZ s k).2.2.1 := by
  have hw := widthZ_bd k
  have hil := ints_len s
  have hwk : ∀ k : Int, widthZ k = 0 ↔ k < 1 ∨ 4 < k := fun k => by unfold widthZ; (repeat' split) <;> omega
  unfold oneZ at h ⊢
  by_cases q : 0 < widthZ k
  · have n5 : k ≠ 5 := fun e => by rw [e] at q; have : widthZ 5 = 0 := rfl; omega
    have n6 : k ≠ 6 := fun e => by rw [e] at q; have : widthZ 6 = 0 := rfl; omega
    rw [if_pos q] at h ⊢
    simp only at h ⊢
    by_cases l : (s.size : Int) < widthZ k
    · rw [if_pos l] at h; cases h
    · rw [if_neg l]
      have hlen : ((ints s).take (widthZ k).toNat).length = (widthZ k).toNat := by rw [List.length_take]; omega
      have hin := inB_take (inB_ints s) (widthZ k).toNat
      have ef : fixV s (widthZ k) = bigZ 0 ((ints s).take (widthZ k).toNat) := by unfold fixV; rw [if_neg l]
      have ep : putL ⟨k, fixV s (widthZ k), .empty⟩ = (ints s).take (widthZ k).toNat := by
        unfold putL
        rw [if_neg n5, if_neg n6, ef]
        exact hi_bigZ _ _ hin hlen
      refine ⟨?_, ep, by rw [ep, hlen]; omega⟩
      have hbd := bigZ_bd _ 0 hin (Int.le_refl _)
      rw [hlen] at hbd
      unfold ckZ
      simp only
      rw [if_neg (by omega), if_neg (by rw [show ByteArray.empty.size = 0 from rfl]; omega), if_neg, if_neg (by rw [show ByteArray.empty.size = 0 from rfl]; omega)]
      rintro ⟨_, g⟩
      apply g
      rw [ef, Int.natCast_pow, show ((2 : Nat) : Int) = 2 from rfl, pow_2_8]
      omega
  · rw [if_neg q] at h ⊢
    have hw0 : widthZ k = 0 := by omega
    by_cases q5 : k = 5
    · rw [if_pos q5] at h ⊢
      subst q5
      obtain ⟨n1, n2⟩ := numZ_take h
      have ep : putL ⟨5, (numZ s).1, .empty⟩ = varL 9 (numZ s).1 := rfl
      refine ⟨?_, by rw [ep]; exact n1, by rw [ep]; exact n2⟩
      unfold ckZ
      simp only
      rw [if_neg (by omega), if_neg (by rw [show ByteArray.empty.size = 0 from rfl]; omega), if_neg (by omega), if_neg (by rw [show ByteArray.empty.size = 0 from rfl]; omega)]
    · rw [if_neg q5] at h ⊢
      by_cases q6 : k = 6
      · rw [if_pos q6] at h ⊢
        subst q6
        simp only at h ⊢
        obtain ⟨b1, b2, b3, b4, b5, b6⟩ := txtZ_ok h
        obtain ⟨n1, n2⟩ := numZ_take b1
        rw [b6]
        simp only
        have hsz : (s.extract (numZ s).2.1.toNat ((numZ s).2.1 + (numZ s).1).toNat).size = (numZ s).1.toNat := by rw [ByteArray.size_extract]; omega
        have ep : putL ⟨6, 0, s.extract (numZ s).2.1.toNat ((numZ s).2.1 + (numZ s).1).toNat⟩ = (ints s).take ((numZ s).2.1 + (numZ s).1).toNat := by
          show varL 9 ((s.extract (numZ s).2.1.toNat ((numZ s).2.1 + (numZ s).1).toNat).size : Int) ++ ints (s.extract (numZ s).2.1.toNat ((numZ s).2.1 + (numZ s).1).toNat) = _
          rw [hsz, show (((numZ s).1.toNat : Nat) : Int) = (numZ s).1 by omega, n1, ints_extract]
          have ea : ((numZ s).2.1 + (numZ s).1).toNat = (numZ s).2.1.toNat + (((numZ s).2.1 + (numZ s).1).toNat - (numZ s).2.1.toNat) := by omega
          conv => rhs; rw [ea, List.take_add]
        refine ⟨?_, ep, by rw [ep, List.length_take, hil]; omega⟩
        unfold ckZ
        simp only
        rw [if_neg (by decide), if_neg (by simp), if_neg (by rw [hw0]; omega), if_neg (by rw [hsz]; omega)]
      · rw [if_neg q6] at h; cases h
/-- What is taken is put as it stood. -/
theorem take_only {s : ByteArray} {K : Nat → Int} : ∀ {n : Nat}, errT s K n = 0 → badZ (fldT s K) n = 0 ∧ putAll (fldT s K) n = (ints s).take (atN s K n)
  | 0, _ => ⟨rfl, rfl⟩
  | n + 1, h => by
    obtain ⟨h1, h2⟩ := errT_low h n (Nat.lt_succ_self n)
    obtain ⟨b1, b2⟩ := take_only h1
    obtain ⟨o1, o2, o3⟩ := oneZ_take h2
    have ha := atN_le h1
    refine ⟨by rw [badZ, if_pos b1]; exact o1, ?_⟩
    rw [putAll, atN, b2]
    show _ ++ putL ⟨K n, (oneZ (fromZ s (atN s K n)) (K n)).1, (oneZ (fromZ s (atN s K n)) (K n)).2.1⟩ = _
    rw [o2, fromZ_ints, List.take_add]
theorem fldT_wf (s : ByteArray) (K : Nat → Int) (i : Nat) : (fldT s K i).wf := by
  have := oneZ_n (fromZ s (atN s K i)) (K i)
  exact ⟨this.1, by show (oneZ (fromZ s (atN s K i)) (K i)).1 < _; omega⟩
end Go.Proofs.Ytecgigeahkijaaa

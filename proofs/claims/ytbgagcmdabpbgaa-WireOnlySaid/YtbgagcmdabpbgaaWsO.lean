/- wire: what is put is taken as it was; cut off it is too short: plain laws. No condition. -/
import Derived.Test.YtbgagcmdabpbgaaWsN
namespace Go.Proofs.Ytbgagcmdabpbgaa
set_option linter.unusedVariables false
set_option linter.unusedSimpArgs false
open Go.RowKit E

theorem numL_put : ∀ (f i : Nat) (x v : Int) (T : List Int), i + f = 9 → 0 ≤ v → v < 2 * 128 ^ f → (0 < i → 0 < v) →
    numL i x (varL f v ++ T) = (x + v * 128 ^ i, (i : Int) + (varL f v).length, 0)
  | 0, i, x, v, T, hi, h0, h1, hp => by
    have : i = 9 := by omega
    subst this
    show numL 9 x (v :: T) = _
    rw [numL, if_neg (by omega), if_pos (by omega)]
    rfl
  | f + 1, i, x, v, T, hi, h0, h1, hp => by
    rw [Int.pow_succ] at h1
    by_cases q : 128 ≤ v
    · rw [varL_go q]
      show numL i x ((v % 128 + 128) :: (varL f (v / 128) ++ T)) = _
      rw [numL, if_neg (by omega), if_neg (by omega), numL_put f (i + 1) _ (v / 128) T (by omega) (by omega) (by omega) (fun _ => by omega)]
      have e : x + (v % 128 + 128 - 128) * 128 ^ i + v / 128 * 128 ^ (i + 1) = x + v * 128 ^ i := by
        have hv : v = v % 128 + 128 * (v / 128) := by omega
        have : v * 128 ^ i = (v % 128) * 128 ^ i + (v / 128) * 128 ^ (i + 1) := by
          rw [Int.pow_succ, Int.mul_comm (128 ^ i) 128, ← Int.mul_assoc, ← Int.add_mul]
          congr 1; omega
        rw [this, show v % 128 + 128 - 128 = v % 128 by omega]
        omega
      rw [e, List.length_cons]
      refine Prod.ext rfl (Prod.ext ?_ rfl)
      show ((i + 1 : Nat) : Int) + ((varL f (v / 128)).length : Int) = (i : Int) + (((varL f (v / 128)).length + 1 : Nat) : Int)
      omega
    · rw [varL_end q]
      show numL i x (v :: T) = _
      rw [numL, if_neg (by omega), if_pos (by omega)]
      rfl
theorem numL_cut : ∀ (f i : Nat) (x v : Int) (p q : List Int), i + f = 9 → 0 ≤ v → v < 2 * 128 ^ f → p ++ q = varL f v → q ≠ [] → numL i x p = (0, 0, 2)
  | 0, i, x, v, p, q, hi, h0, h1, e, hq => by
    rw [varL] at e
    cases p with
    | nil => rfl
    | cons a p => simp at e; exact absurd e.2.2 hq
  | f + 1, i, x, v, p, q, hi, h0, h1, e, hq => by
    rw [Int.pow_succ] at h1
    cases p with
    | nil => rfl
    | cons a p =>
      by_cases g : 128 ≤ v
      · rw [varL_go g] at e
        obtain ⟨ea, e'⟩ := List.cons.inj e
        subst ea
        rw [numL, if_neg (by omega), if_neg (by omega)]
        exact numL_cut f (i + 1) _ (v / 128) p q (by omega) (by omega) (by omega) e' hq
      · rw [varL_end g] at e
        simp at e; exact absurd e.2.2 hq
theorem bigZ_hi : ∀ (w : Nat) (n : Int), 0 ≤ n → bigZ 0 (hiL w n) = n % 256 ^ w
  | 0, n, h => by show (0 : Int) = n % 256 ^ 0; rw [Int.pow_zero, Int.emod_one]
  | w + 1, n, h => by
    show bigZ 0 (hiL w (n / 256) ++ [n % 256]) = _
    rw [bigZ_snoc, bigZ_hi w (n / 256) (by omega)]
    have hp : (0 : Int) < 256 ^ w := Int.pow_pos (by omega)
    have e : n / 256 % 256 ^ w = n / 256 - 256 ^ w * (n / 256 / 256 ^ w) := by have := Int.emod_def (n / 256) (256 ^ w); omega
    have e2 : n % 256 ^ (w + 1) = n - 256 ^ (w + 1) * (n / 256 ^ (w + 1)) := Int.emod_def _ _
    have e3 : n / 256 ^ (w + 1) = n / 256 / 256 ^ w := by rw [Int.pow_succ, Int.mul_comm, ← Int.ediv_ediv_of_nonneg (by omega)]
    rw [e, e2, e3, Int.pow_succ, Int.sub_mul, Int.mul_assoc, Int.mul_assoc, Int.mul_comm (n / 256 / 256 ^ w) 256]
    omega
theorem ints_extract (s : ByteArray) (a b : Nat) : ints (s.extract a b) = ((ints s).drop a).take (b - a) := by
  unfold ints
  rw [ext_toList, List.map_take, List.map_drop]
theorem ints_size {s : ByteArray} {l : List Int} (h : ints s = l) : s.size = l.length := by rw [← h, ints_len]
theorem oneZ_put {s : ByteArray} {f : Fl} {T : List Int} (h : ints s = putL f ++ T) (hc : ckZ f = 0) (hf : f.wf) : oneZ s f.k = (f.n, f.s, ((putL f).length : Int), 0) := by
  obtain ⟨k1, k2, k3, k4, k5⟩ := ckZ_ok hc
  have hw := widthZ_bd f.k
  have hs := ints_size h
  rw [List.length_append] at hs
  have hwk : ∀ k : Int, widthZ k = 0 ↔ k < 1 ∨ 4 < k := fun k => by unfold widthZ; (repeat' split) <;> omega
  unfold oneZ
  by_cases q : 0 < widthZ f.k
  · have n5 : f.k ≠ 5 := fun e => by rw [e] at q; have : widthZ 5 = 0 := rfl; omega
    have n6 : f.k ≠ 6 := fun e => by rw [e] at q; have : widthZ 6 = 0 := rfl; omega
    have e : putL f = hiL (widthZ f.k).toNat f.n := by unfold putL; rw [if_neg n5, if_neg n6]
    rw [e] at h hs ⊢
    rw [hiL_len] at hs ⊢
    rw [if_pos q, if_neg (by omega), if_neg (by omega)]
    have ev : fixV s (widthZ f.k) = f.n := by
      unfold fixV
      rw [if_neg (by omega), h, List.take_left' (hiL_len _ _), bigZ_hi _ _ hf.1]
      have := k5 q
      rw [Int.natCast_pow, show ((2 : Nat) : Int) = 2 from rfl, pow_2_8] at this
      exact Int.emod_eq_of_lt hf.1 this
    rw [ev, show f.s = .empty from (str_empty _).2 (k3 n6)]
    refine Prod.ext rfl (Prod.ext rfl (Prod.ext ?_ rfl))
    show widthZ f.k = ((widthZ f.k).toNat : Int); omega
  · rw [if_neg q]
    have hk : f.k = 5 ∨ f.k = 6 := by omega
    rcases hk with e5 | e6
    · have e : putL f = varL 9 f.n := by unfold putL; rw [if_pos e5]
      rw [e] at h ⊢
      have hn : numZ s = (f.n, ((varL 9 f.n).length : Int), 0) := by
        unfold numZ; rw [h, numL_put 9 0 0 f.n T rfl hf.1 (by have := hf.2; omega) (fun q => absurd q (by omega))]
        simp
      rw [if_pos e5, hn, show f.s = .empty from (str_empty _).2 (k3 (by omega))]
    · have e : putL f = varL 9 f.s.size ++ ints f.s := by unfold putL; rw [if_neg (by omega), if_pos e6]
      rw [e] at h hs ⊢
      rw [List.append_assoc] at h
      rw [List.length_append, ints_len] at hs ⊢
      have hn : numZ s = ((f.s.size : Int), ((varL 9 (f.s.size : Int)).length : Int), 0) := by
        unfold numZ; rw [h, numL_put 9 0 0 f.s.size _ rfl (by omega) (by omega) (fun q => absurd q (by omega))]
        simp
      rw [if_neg (by omega), if_pos e6]
      have ht : txtZ s = (f.s, (((varL 9 (f.s.size : Int)).length + f.s.size : Nat) : Int), 0) := by
        unfold txtZ
        rw [hn]
        simp only
        rw [if_neg (by omega), if_neg (by omega), if_neg (by omega)]
        refine Prod.ext ?_ (Prod.ext (by show _ = _; simp) rfl)
        apply ints_ext
        show ints (s.extract _ _) = _
        rw [ints_extract, h, Int.toNat_natCast, List.drop_left' rfl]
        rw [show (((varL 9 (f.s.size : Int)).length : Int) + (f.s.size : Int)).toNat - (varL 9 (f.s.size : Int)).length = f.s.size by omega]
        rw [List.take_left' (ints_len _)]
      rw [ht, k4 e6]
theorem oneZ_cut {s : ByteArray} {f : Fl} {p q : List Int} (h : ints s = p) (e : p ++ q = putL f) (hq : q ≠ []) (hc : ckZ f = 0) (hf : f.wf) : (oneZ s f.k).2.2.2 = 2 := by
  obtain ⟨k1, k2, k3, k4, k5⟩ := ckZ_ok hc
  have hw := widthZ_bd f.k
  have hs := ints_size h
  have hql : 0 < q.length := List.length_pos_iff.2 hq
  have hl := congrArg List.length e
  rw [List.length_append] at hl
  unfold oneZ
  by_cases g : 0 < widthZ f.k
  · have n5 : f.k ≠ 5 := fun e => by rw [e] at g; have : widthZ 5 = 0 := rfl; omega
    have n6 : f.k ≠ 6 := fun e => by rw [e] at g; have : widthZ 6 = 0 := rfl; omega
    have e2 : putL f = hiL (widthZ f.k).toNat f.n := by unfold putL; rw [if_neg n5, if_neg n6]
    rw [e2, hiL_len] at hl
    rw [if_pos g]
    show (if (s.size : Int) < widthZ f.k then (2 : Int) else 0) = 2
    rw [if_pos (by omega)]
  · rw [if_neg g]
    have hk : f.k = 5 ∨ f.k = 6 := by omega
    rcases hk with e5 | e6
    · have e2 : putL f = varL 9 f.n := by unfold putL; rw [if_pos e5]
      rw [e2] at e
      have hn : numZ s = (0, 0, 2) := by
        unfold numZ; rw [h, numL_cut 9 0 0 f.n p q rfl hf.1 (by have := hf.2; omega) e hq]
      rw [if_pos e5, hn]
    · have e2 : putL f = varL 9 f.s.size ++ ints f.s := by unfold putL; rw [if_neg (by omega), if_pos e6]
      rw [if_neg (by omega), if_pos e6]
      show (txtZ s).2.2 = 2
      rw [e2] at e
      by_cases c : p.length < (varL 9 (f.s.size : Int)).length
      · have e3 : p ++ (varL 9 (f.s.size : Int)).drop p.length = varL 9 (f.s.size : Int) := by
          have h1 := congrArg (List.take p.length) e
          rw [List.take_left' rfl, List.take_append_of_le_length (by omega)] at h1
          have h2 := List.take_append_drop p.length (varL 9 (f.s.size : Int))
          rw [← h1] at h2
          exact h2
        have hn : numZ s = (0, 0, 2) := by
          unfold numZ; rw [h, numL_cut 9 0 0 f.s.size p _ rfl (by omega) (by omega) e3 (fun q => by have := congrArg List.length q; simp at this; omega)]
        unfold txtZ; rw [hn]; rfl
      · have e3 : p = varL 9 (f.s.size : Int) ++ p.drop (varL 9 (f.s.size : Int)).length := by
          have h1 := congrArg (List.take (varL 9 (f.s.size : Int)).length) e
          rw [List.take_left' rfl, List.take_append_of_le_length (by omega)] at h1
          have h2 := List.take_append_drop (varL 9 (f.s.size : Int)).length p
          rw [h1] at h2
          exact h2.symm
        have hn : numZ s = ((f.s.size : Int), ((varL 9 (f.s.size : Int)).length : Int), 0) := by
          unfold numZ; rw [h, e3, numL_put 9 0 0 f.s.size _ rfl (by omega) (by omega) (fun q => absurd q (by omega))]
          simp
        rw [e2, List.length_append, ints_len] at hl
        unfold txtZ; rw [hn]; simp only
        rw [if_neg (by omega), if_neg (by omega), if_pos (by omega)]
theorem putAll_split {L : Nat → Fl} {i : Nat} : ∀ {n : Nat}, i < n → ∃ R, putAll L n = putAll L i ++ (putL (L i) ++ R)
  | 0, h => absurd h (Nat.not_lt_zero i)
  | n + 1, h => by
    by_cases e : i = n
    · subst e; exact ⟨[], by rw [putAll]; simp⟩
    · obtain ⟨R, hR⟩ := putAll_split (L := L) (i := i) (n := n) (by omega)
      exact ⟨R ++ putL (L n), by rw [putAll, hR]; simp⟩
theorem fld_ext {f : Fl} {k n : Int} {s : ByteArray} (h1 : k = f.k) (h2 : n = f.n) (h3 : s = f.s) : (⟨k, n, s⟩ : Fl) = f := by subst h1; subst h2; subst h3; rfl
theorem take_put {L : Nat → Fl} {K : Nat → Int} {s : ByteArray} {n : Nat} {T : List Int} (h : ints s = putAll L n ++ T) (hb : badZ L n = 0) (hw : ∀ i, i < n → (L i).wf) (hK : ∀ i, i < n → K i = (L i).k) :
    ∀ i, i ≤ n → errT s K i = 0 ∧ atN s K i = (putAll L i).length ∧ ∀ j, j < i → fldT s K j = L j
  | 0, _ => ⟨rfl, rfl, fun j hj => absurd hj (Nat.not_lt_zero j)⟩
  | i + 1, hi => by
    obtain ⟨h1, h2, h3⟩ := take_put h hb hw hK i (by omega)
    obtain ⟨b1, b2⟩ := badZ_low hb i (by omega)
    obtain ⟨R, hR⟩ := putAll_split (L := L) (i := i) (n := n) (by omega)
    have ho : oneZ (fromZ s (atN s K i)) (K i) = ((L i).n, (L i).s, ((putL (L i)).length : Int), 0) := by
      rw [hK i (by omega)]
      refine oneZ_put (T := R ++ T) ?_ b2 (hw i (by omega))
      rw [fromZ_ints, h, hR, h2, List.append_assoc, List.drop_left' rfl, List.append_assoc]
    refine ⟨by rw [errT, if_pos h1, ho], by rw [atN, ho, h2, putAll, List.length_append]; simp, fun j hj => ?_⟩
    by_cases e : j = i
    · subst e
      unfold fldT
      rw [ho]
      exact fld_ext (hK j (by omega)) rfl rfl
    · exact h3 j (by omega)
theorem errT_stay {s : ByteArray} {K : Nat → Int} {p : Nat} (h : errT s K p ≠ 0) : ∀ {n : Nat}, p ≤ n → errT s K n = errT s K p
  | 0, hn => by have : p = 0 := by omega
                subst this; rfl
  | n + 1, hn => by
    by_cases e : p = n + 1
    · subst e; rfl
    · have := errT_stay h (n := n) (by omega)
      rw [errT, if_neg (by rw [this]; exact h), this]
theorem putAll_at {L : Nat → Fl} {c : Nat} : ∀ {n : Nat}, c < (putAll L n).length → ∃ p, p < n ∧ (putAll L p).length ≤ c ∧ c < (putAll L (p + 1)).length
  | 0, h => absurd h (Nat.not_lt_zero c)
  | n + 1, h => by
    by_cases e : c < (putAll L n).length
    · obtain ⟨p, h1, h2⟩ := putAll_at e
      exact ⟨p, by omega, h2⟩
    · exact ⟨n, by omega, by omega, h⟩
/-- Cut off ahead of its end it is too short. -/
theorem take_cut {L : Nat → Fl} {K : Nat → Int} {s : ByteArray} {n c : Nat} (hc : c < (putAll L n).length) (h : ints s = (putAll L n).take c) (hb : badZ L n = 0) (hw : ∀ i, i < n → (L i).wf) (hK : ∀ i, i < n → K i = (L i).k) : errT s K n = 2 := by
  obtain ⟨p, h1, h2, h3⟩ := putAll_at hc
  obtain ⟨b1, b2⟩ := badZ_low hb p h1
  obtain ⟨R, hR⟩ := putAll_split (L := L) (i := p) (n := n) h1
  rw [putAll, List.length_append] at h3
  have e1 : ints s = putAll L p ++ (putL (L p)).take (c - (putAll L p).length) := by
    rw [h, hR, List.take_append, List.take_of_length_le (by omega), List.take_append_of_le_length (by omega)]
  obtain ⟨t1, t2, _⟩ := take_put e1 b1 (fun i hi => hw i (by omega)) (fun i hi => hK i (by omega)) p (Nat.le_refl _)
  have ho : (oneZ (fromZ s (atN s K p)) (K p)).2.2.2 = 2 := by
    rw [hK p h1]
    refine oneZ_cut (p := (putL (L p)).take (c - (putAll L p).length)) (q := (putL (L p)).drop (c - (putAll L p).length)) ?_ (List.take_append_drop _ _) ?_ b2 (hw p h1)
    · rw [fromZ_ints, e1, t2, List.drop_left' rfl]
    · intro q; have := congrArg List.length q; simp at this; omega
  have e2 : errT s K (p + 1) = 2 := by rw [errT, if_pos t1]; exact ho
  rw [errT_stay (p := p + 1) (by rw [e2]; decide) (by omega), e2]
end Go.Proofs.Ytbgagcmdabpbgaa

import Derived.Test.YtccehnjckfploaaSumL
import Derived.Test.YtccehnjckfploaaB1
namespace Go.Proofs.Ytccehnjckfploaa
set_option linter.unusedVariables false
set_option linter.unusedSimpArgs false
open Go.RowKit

theorem loL_app (a b : List UInt8) : ∀ l : Int, loL l (a ++ b) = loL (loL l a) b := by
  induction a with
  | nil => intro l; rfl
  | cons x a ih => intro l; exact ih _
theorem hiL_app (a b : List UInt8) : ∀ l h : Int, hiL l h (a ++ b) = hiL (loL l a) (hiL l h a) b := by
  induction a with
  | nil => intro l h; rfl
  | cons x a ih => intro l h; exact ih _ _

theorem moreL_app (n : Int) (hn : 0 ≤ n) (a b : List UInt8) : moreL n (a ++ b) = moreL (moreL n a) b := by
  have h1 := loL_bd a (n % 65536 % 65521) (by omega)
  have h2 := hiL_bd a (n % 65536 % 65521) (n / 65536 % 65521) (by omega)
  have e1 : moreL n a % 65536 % 65521 = loL (n % 65536 % 65521) a := by unfold moreL; omega
  have e2 : moreL n a / 65536 % 65521 = hiL (n % 65536 % 65521) (n / 65536 % 65521) a := by unfold moreL; omega
  rw [moreL, loL_app, hiL_app, moreL, e1, e2]

/-- Parts, one behind the other. -/
def catB : List ByteArray → ByteArray := List.foldl (· ++ ·) ⟨#[]⟩
theorem catB_snoc (l : List ByteArray) (s : ByteArray) : catB (l ++ [s]) = catB l ++ s := by simp [catB, List.foldl_append]

theorem ofL_snoc (l : List ByteArray) (s : ByteArray) : ∀ n, ofL n (l ++ [s]) = moreL (ofL n l) s.data.toList := by
  induction l with
  | nil => intro n; rfl
  | cons x l ih => intro n; exact ih _

theorem moreL_one_nil : moreL 1 [] = 1 := by decide

theorem of_cat_from (l : List ByteArray) : ∀ acc : ByteArray, ofL (moreL 1 acc.data.toList) l = moreL 1 (l.foldl (· ++ ·) acc).data.toList := by
  induction l with
  | nil => intro acc; rfl
  | cons x l ih => intro acc; rw [ofL, ← moreL_app 1 (by omega), ← app_toList, ih]; rfl
theorem of_cat (l : List ByteArray) : ofL 1 l = moreL 1 (catB l).data.toList := by
  have := of_cat_from l ⟨#[]⟩
  rwa [show (⟨#[]⟩ : ByteArray).data.toList = [] from rfl, moreL_one_nil] at this

theorem loL_sum (l : List UInt8) : ∀ n : Int, 0 ≤ n ∧ n ≤ 65520 → loL n l = (n + (l.map (fun x => (x.toNat : Int))).sum) % 65521 := by
  induction l with
  | nil => intro n h; simp [loL]; omega
  | cons x l ih => intro n h; simp only [loL, List.map_cons, List.sum_cons]; rw [ih _ (by omega)]; omega

theorem sum_set (l : List UInt8) : ∀ (k : Nat) (c : UInt8) (h : k < l.length), ((l.set k c).map (fun x => (x.toNat : Int))).sum = (l.map (fun x => (x.toNat : Int))).sum - (l[k].toNat : Int) + (c.toNat : Int) := by
  induction l with
  | nil => intro k c h; simp at h
  | cons x l ih =>
    intro k c h
    cases k with
    | zero => simp; omega
    | succ k =>
      simp at h
      simp only [List.set_cons_succ, List.map_cons, List.sum_cons, List.getElem_cons_succ, ih k c h]; omega

/-- P5.6: another byte, another sum. -/
theorem more_differs (s : ByteArray) (k : Nat) (c : Int) (hk : k < s.size) (hc : 0 ≤ c ∧ c ≤ 255) (hne : withB s k c ≠ s) :
    moreL 1 (withB s k c).data.toList ≠ moreL 1 s.data.toList := by
  have e := withB_toList s k c hk
  have hl : k < s.data.toList.length := by simpa using hk
  have hd : (UInt8.ofNat c.toNat) ≠ s.data.toList[k] := by
    intro h
    apply hne
    apply bytes_ext
    rw [e, h, List.set_getElem_self]
  have hd' : (UInt8.ofNat c.toNat).toNat ≠ (s.data.toList[k]).toNat := fun h => hd (UInt8.toNat_inj.1 h)
  have b1 := bytes_bd (UInt8.ofNat c.toNat)
  have b2 := bytes_bd s.data.toList[k]
  intro h
  have h1 := loL_bd (withB s k c).data.toList 1 (by omega)
  have h2 := loL_bd s.data.toList 1 (by omega)
  have h3 := hiL_bd (withB s k c).data.toList 1 0 (by omega)
  have h4 := hiL_bd s.data.toList 1 0 (by omega)
  have hlo : loL 1 (withB s k c).data.toList = loL 1 s.data.toList := by
    unfold moreL at h
    simp only [show (1 : Int) % 65536 % 65521 = 1 from rfl, show (1 : Int) / 65536 % 65521 = 0 from rfl] at h
    omega
  rw [loL_sum _ 1 (by omega), loL_sum _ 1 (by omega), e, sum_set _ _ _ hl] at hlo
  omega

theorem four_inj (a b : Int) (ha : 0 ≤ a ∧ a ≤ 4294967295) (hb : 0 ≤ b ∧ b ≤ 4294967295) (h : strOf (four a) = strOf (four b)) : a = b := by
  have h1 : (strOf (four a)).data.toList = (strOf (four b)).data.toList := by rw [h]
  rw [strOf_toList, strOf_toList] at h1
  simp only [four, List.map_cons, List.map_nil, List.cons.injEq, and_true] at h1
  obtain ⟨e1, e2, e3, e4⟩ := h1
  have g (x y : Int) (hx : 0 ≤ x ∧ x ≤ 255) (hy : 0 ≤ y ∧ y ≤ 255) (hxy : UInt8.ofNat x.toNat = UInt8.ofNat y.toNat) : x = y := by
    rw [← ofNat_toNat x hx, ← ofNat_toNat y hy, hxy]
  have := g _ _ (by omega) (by omega) e1
  have := g _ _ (by omega) (by omega) e2
  have := g _ _ (by omega) (by omega) e3
  have := g _ _ (by omega) (by omega) e4
  omega

theorem seal_tail (s : ByteArray) : (sealB s).extract ((sealB s).size - 4) (sealB s).size = strOf (four (moreL 1 s.data.toList)) := by
  apply bytes_ext
  rw [ext_toList, sealB_size]
  unfold sealB
  rw [app_toList]
  simp [strOf_toList, four]

theorem not_opened (s t : ByteArray) (h : moreL 1 t.data.toList ≠ moreL 1 s.data.toList) (u : ByteArray) (hu : u = t ++ strOf (four (moreL 1 s.data.toList))) :
    4 ≤ u.size ∧ sealB (u.extract 0 (u.size - 4)) ≠ u := by
  have hz : u.size = t.size + 4 := by rw [hu, ByteArray.size_append, strOf_size]; rfl
  refine ⟨by omega, fun he => h ?_⟩
  have e1 : u.extract 0 (u.size - 4) = t := by
    apply bytes_ext
    rw [ext_toList, hz, hu, app_toList]
    simp
  rw [e1, hu] at he
  have h1 : (sealB t).data.toList = (t ++ strOf (four (moreL 1 s.data.toList))).data.toList := by rw [he]
  unfold sealB at h1
  rw [app_toList, app_toList] at h1
  have h2 := List.append_cancel_left h1
  exact four_inj _ _ (moreL_bd _ (by omega) _) (moreL_bd _ (by omega) _) (bytes_ext h2)

theorem place1 (at_ : Int) (n : Nat) (h : 1 ≤ n) (hn : n ≤ 10000) : ∃ p : Nat, (IntKind.u64.wrap at_).tmod (n : Int) = p ∧ p < n := by
  have h1 : 0 ≤ IntKind.u64.wrap at_ := by simp [IntKind.wrap, IntKind.bits, IntKind.signed]; omega
  rw [Int.tmod_eq_emod_of_nonneg h1]
  have h2 := Int.emod_nonneg (IntKind.u64.wrap at_) (show (n : Int) ≠ 0 by omega)
  have h3 := Int.emod_lt_of_pos (IntKind.u64.wrap at_) (show 0 < (n : Int) by omega)
  exact ⟨(IntKind.u64.wrap at_ % (n : Int)).toNat, by omega, by omega⟩

set_option maxHeartbeats 1000000 in
theorem finds_any (b off cap : Nat) (xs : List ByteArray) (at_ c : Int) (w : World) (hl : xs.length ≤ 9223372036854775807) (hc : 0 ≤ c ∧ c ≤ 255) (hz : ∀ s ∈ xs, s.size ≤ maxLen)
    (hcell : ∀ i (h : i < xs.length), w.cell? ⟨b, off + i, none⟩ = some (.string xs[i])) :
    Calls Try.prog 4 #[.slice (some ⟨b, off, none⟩) xs.length cap, .int .i64 at_, .int .u8 c] w fun e w' => e = .returned (.bool true) ∧ Ext w w' := by
  have HC := hid hcell
  have HZ := hid hz
  clear hcell hz
  go_enter Try.func4, Try.ntmps4
  go_wp2
  go_loop [7, 17] (fun v i => ∃ (k : Nat) (S : ByteArray), k ≤ xs.length ∧ i = .int .i64 k ∧ v = .string S ∧ S.size ≤ 6000 ∧ S = catB (xs.take k) ∧ (∀ x ∈ xs.take k, x.size ≤ 1000)) (fun _ i => xs.length - (intOf i).toNat)
  case atStart => exact ⟨0, ⟨#[]⟩, Nat.zero_le _, rfl, rfl, by decide, rfl, by simp⟩
  case round =>
    obtain ⟨k, S, hk, rfl, rfl, hS, hq, hall⟩ := hrel
    have HQ := hid hq
    have HA := hid hall
    clear hq hall
    by_cases hlt : k < xs.length
    · have hx := HC.out k hlt
      have hzx := HZ.out xs[k] (List.getElem_mem hlt)
      unfold maxLen at hzx
      generalize hg : xs[k] = x at hx hzx
      have HG := hid hg
      clear hg
      by_cases h1 : 1000 < x.size
      · have d1 : decide (1000 < (x.size : Int)) = true := by simp; omega
        go_wp2_with (go_at_call 7; refine (lives_any _).mono ?_; rintro e w7 ⟨rfl, hb7⟩)
        go_ret
        exact ⟨rfl, by assumption⟩
      · have d1 : decide (1000 < (x.size : Int)) = false := by simp; omega
        by_cases h2 : 5000 < S.size
        · have d2 : decide (5000 < (S.size : Int)) = true := by simp; omega
          go_wp2_with (go_at_call 7; refine (lives_any _).mono ?_; rintro e w7 ⟨rfl, hb7⟩)
          go_ret
          exact ⟨rfl, by assumption⟩
        · have d2 : decide (5000 < (S.size : Int)) = false := by simp; omega
          go_wp2
          go_round
          case rel =>
            refine ⟨k + 1, S ++ x, by omega, by go_num, rfl, by rw [ByteArray.size_append]; omega, ?_, ?_⟩
            · rw [List.take_succ_eq_append_getElem hlt, catB_snoc, HQ.out, HG.out]
            · intro y hy
              rw [List.take_succ_eq_append_getElem hlt, List.mem_append] at hy
              rcases hy with hy | hy
              · exact HA.out y hy
              · simp at hy; rw [hy, HG.out]; omega
          case measure => simp [intOf]; omega
    · obtain rfl : k = xs.length := by omega
      have hSx : ofL 1 xs = moreL 1 S.data.toList := by rw [of_cat, HQ.out, List.take_length]
      have hsz : ∀ x ∈ xs, x.size ≤ 1000000 := fun x hx => by have := HA.out x (by rw [List.take_length]; exact hx); omega
      have K1 := sealB_size S
      generalize hU : moreL 1 S.data.toList = U at hSx
      have HO1 := hid (calls_eq (of_any b off cap xs w hsz hl HC.out) (val_int hSx))
      have HO2 := hid (fun b w hc => calls_eq (of_one b 0 1 S w (by omega) hc) (val_int hU))
      generalize hZ : sealB S = Z at K1
      have HS := hid (fun w => calls_eq (v' := .string Z) (seal_any S w (by omega)) (val_string hZ))
      have z1 : 4 ≤ Z.size ∧ Z.size ≤ 6004 := by omega
      have HZS := hid K1
      clear HC HZ HQ HA hSx hsz K1
      have d1 : decide ((Z.size : Int) < 4) = false := by simp; omega
      by_cases h0 : S.size = 0
      · have d2 : ((S.size : Int) == 0) = true := beq_iff_eq.2 (by omega)
        have d3 : ((Z.size : Int) == 4) = true := beq_iff_eq.2 (by have := HZS.out; omega)
        have H0 := hid h0
        clear h0
        go_wp2_with (first
          | (go_at_call 10; ((with_reducible refine (HO1.out).mono ?_); rintro e w1 ⟨rfl, rfl⟩))
          | (go_at_call 10; ((with_reducible refine (HO2.out _ _ ?_).mono ?_); (focus (simp; done)); rintro e w1 ⟨rfl, rfl⟩))
          | (go_at_call 11; ((with_reducible refine (HS.out _).mono ?_); rintro e w1 ⟨rfl, hb1⟩))
          | (go_at_call 7; refine (lives_any _).mono ?_; rintro e w7 ⟨rfl, hb7⟩))
        go_ret
        exact ⟨rfl, (((Ext.refl w).alloc _).trans hb1).trans hb7⟩
      · have d2 : ((S.size : Int) == 0) = false := beq_eq_false_iff_ne.2 (by omega)
        obtain ⟨p, hp, hpl⟩ := place1 at_ S.size (by omega) (by omega)
        have q1 : ((p : Int)).toNat = p := by omega
        have z2 := withB_size S p c hpl
        have LD := more_differs S p c hpl hc
        generalize ht : withB S p c = t at z2 LD
        have HW := hid (fun w => calls_eq (v' := .string t) (with_any S (p : Int) c w (by omega) (by omega) hc) (val_string (by rw [q1]; exact ht)))
        have z3 : t.size ≤ 6000 := by omega
        clear z2 q1
        by_cases hts : t = S
        · subst hts
          go_wp2_with (first
            | (go_at_call 10; ((with_reducible refine (HO1.out).mono ?_); rintro e w1 ⟨rfl, rfl⟩))
            | (go_at_call 10; ((with_reducible refine (HO2.out _ _ ?_).mono ?_); (focus (simp; done)); rintro e w1 ⟨rfl, rfl⟩))
            | (go_at_call 11; ((with_reducible refine (HS.out _).mono ?_); rintro e w1 ⟨rfl, hb1⟩))
            | (go_at_call 8; ((with_reducible refine (HW.out _).mono ?_); rintro e w2 ⟨rfl, hb2⟩))
            | (go_at_call 7; refine (lives_any _).mono ?_; rintro e w7 ⟨rfl, hb7⟩))
          go_ret
          exact ⟨rfl, ((((Ext.refl w).alloc _).trans hb1).trans hb2).trans hb7⟩
        · have LD' := LD hts
          have hq := toList_ne hts
          have tl := seal_tail S
          rw [hZ] at tl
          generalize hV : moreL 1 t.data.toList = V at LD'
          have LD2 : moreL 1 t.data.toList ≠ moreL 1 S.data.toList := by rw [hV]; exact LD'
          obtain ⟨n1, n2⟩ := not_opened S t LD2 (t ++ Z.extract (Z.size - 4) Z.size) (by rw [tl])
          rw [hU] at LD'
          have hvn : (V != U) = true := by simpa using LD'
          have hvm : ¬ V = U := LD'
          have HV := hid (fun b w hc => calls_eq (of_one b 0 1 t w (by omega) hc) (val_int hV))
          have hzu : (t ++ Z.extract (Z.size - 4) Z.size).size ≤ 1000000 := by rw [tl, ByteArray.size_append, strOf_size]; simp [four]; omega
          have HN := hid (fun w => open_no (t ++ Z.extract (Z.size - 4) Z.size) w hzu n1 n2)
          clear LD LD' LD2 n1 n2 hzu tl hts ht hZ hU hV
          go_wp2_with (first
            | (go_at_call 10; ((with_reducible refine (HO1.out).mono ?_); rintro e w1 ⟨rfl, rfl⟩))
            | (go_at_call 10; ((with_reducible refine (HO2.out _ _ ?_).mono ?_); (focus (simp; done)); rintro e w1 ⟨rfl, rfl⟩))
            | (go_at_call 11; ((with_reducible refine (HS.out _).mono ?_); rintro e w1 ⟨rfl, hb1⟩))
            | (go_at_call 8; ((with_reducible refine (HW.out _).mono ?_); rintro e w2 ⟨rfl, hb2⟩))
            | (go_at_call 12; ((with_reducible refine (HN.out _).mono ?_); rintro e w3 ⟨rfl, hb3⟩))
            | (go_at_call 10; ((with_reducible refine (HV.out _ _ ?_).mono ?_); (focus (simp; done)); rintro e w1 ⟨rfl, rfl⟩))
            | (go_at_call 7; refine (lives_any _).mono ?_; rintro e w7 ⟨rfl, hb7⟩))
          go_ret
          exact ⟨rfl, (((((((Ext.refl w).alloc _).trans hb1).trans hb2).trans hb3).alloc _).alloc _).trans hb7⟩

set_option maxHeartbeats 400000 in
theorem finds_none (ao : Option Addr) (cap : Nat) (at_ c : Int) (w : World) :
    Calls Try.prog 4 #[.slice ao 0 cap, .int .i64 at_, .int .u8 c] w fun e w' => e = .returned (.bool true) ∧ Ext w w' := by
  have hU := moreL_one_nil
  have HO2 := hid (fun b w hc => calls_eq (of_one b 0 1 ⟨#[]⟩ w (by decide) hc) (val_int (b := 1) hU))
  have K1 := sealB_size ⟨#[]⟩
  generalize hZ : sealB ⟨#[]⟩ = Z at K1
  have HS := hid (fun w => calls_eq (v' := .string Z) (seal_any ⟨#[]⟩ w (by decide)) (val_string hZ))
  have z1 : Z.size ≤ 4 ∧ 4 ≤ Z.size := by rw [K1]; decide
  have d1 : decide ((Z.size : Int) < 4) = false := by simp; omega
  have d3 : ((Z.size : Int) == 4) = true := beq_iff_eq.2 (by omega)
  clear hU K1 hZ
  go_enter Try.func4, Try.ntmps4
  go_wp2
  refine wp_loop_rounds 1 ?_
  rw [rounds_succ]
  go_wp2_with (first
    | (go_at_call 10; ((with_reducible refine (of_none _ _ _).mono ?_); rintro e w1 ⟨rfl, rfl⟩))
    | (go_at_call 10; ((with_reducible refine (HO2.out _ _ ?_).mono ?_); (focus (simp; done)); rintro e w1 ⟨rfl, rfl⟩))
    | (go_at_call 11; ((with_reducible refine (HS.out _).mono ?_); rintro e w1 ⟨rfl, hb1⟩))
    | (go_at_call 7; refine (lives_any _).mono ?_; rintro e w7 ⟨rfl, hb7⟩))
  go_ret
  exact ⟨rfl, (((Ext.refl w).alloc _).trans hb1).trans hb7⟩

theorem finds_walk (ao : Option Addr) (len cap : Nat) (at_ c : Int) (w : World) (hr : Reads w (.slice 1 .str) [.slice ao len cap]) (ha : (Lit.int .i64 at_).wf = true) (hc : (Lit.int .u8 c).wf = true) :
    Calls Try.prog 4 #[.slice ao len cap, .int .i64 at_, .int .u8 c] w fun e w' => e = .returned (.bool true) ∧ Ext w w' := by
  obtain ⟨ao', len', cap', es, he, hlen, h1, h2, _, hel⟩ := hr
  obtain ⟨rfl, rfl, rfl⟩ : ao' = ao ∧ len' = len ∧ cap' = cap := by simpa using he.symm
  by_cases h0 : len' = 0
  · subst h0; exact finds_none ao' cap' at_ c w
  · have each : ∀ i, i < len' → ∃ s : ByteArray, es[i]? = some [.string s] ∧ s.size ≤ maxLen ∧ ∃ a, ao' = some a ∧ w.cell? (a.add i) = some (.string s) := by
      intro i hi
      have hi' : i < es.length := by omega
      obtain ⟨hw, ⟨s, hs, hz⟩, a, haa, hcl⟩ := hel i es[i] (List.getElem?_eq_getElem hi')
      refine ⟨s, by rw [List.getElem?_eq_getElem hi', hs], hz, a, haa, ?_⟩
      have := hcl 0 (.string s) (by rw [hs]; rfl)
      rw [Nat.mul_one] at this
      exact this
    obtain ⟨xs, hxl, hx⟩ : ∃ xs : List ByteArray, xs.length = len' ∧ ∀ i (h : i < xs.length), es[i]? = some [.string xs[i]] := by
      refine ⟨es.map (fun e => match e with | [.string s] => s | _ => ⟨#[]⟩), by simpa using hlen, fun i h => ?_⟩
      have hi : i < len' := by simp at h; omega
      obtain ⟨s, hs, _⟩ := each i hi
      have hi' : i < es.length := by omega
      have : es[i] = [.string s] := by rw [List.getElem?_eq_getElem hi'] at hs; exact Option.some.inj hs
      simp [List.getElem?_eq_getElem hi', this]
    obtain ⟨_, _, _, a, rfl, _⟩ := each 0 (by omega)
    have hz : ∀ i (h : i < xs.length), xs[i].size ≤ maxLen ∧ w.cell? (a.add i) = some (.string xs[i]) := by
      intro i h
      obtain ⟨s, hs, hz, a', haa, hcl⟩ := each i (by omega)
      have e1 := hx i h
      rw [hs] at e1
      have e2 : s = xs[i] := by simpa using e1
      rw [← e2]
      have e3 : a' = a := (Option.some.inj haa).symm
      rw [← e3]
      exact ⟨hz, hcl⟩
    obtain ⟨b, off, rfl, hcell⟩ := row_of_cells (w := w) (a := a) (n := xs.length) (fun i => .string (xs.getD i ⟨#[]⟩)) (by omega) (fun i hi => by
      have := (hz i hi).2
      rw [this]; simp [List.getD_eq_getElem?_getD, hi])
    have := finds_any b off cap' xs at_ c w (by unfold maxLen at h2; omega) (wf_u8 hc) (fun s hs => by
      obtain ⟨i, hi, rfl⟩ := List.mem_iff_getElem.1 hs
      exact (hz i hi).1) (fun i hi => by have := hcell i hi; simpa [List.getD_eq_getElem?_getD, hi] using this)
    rw [hxl] at this
    exact this
end Go.Proofs.Ytccehnjckfploaa

import Derived.Test.YtccehnjckfploaaSumU
import Derived.Test.YtccehnjckfploaaB1
import Derived.Deep.RegionHeld3
import Derived.Deep.DeepCutAuto
namespace Go.Proofs.Ytccehnjckfploaa
set_option linter.unusedVariables false
set_option linter.unusedSimpArgs false
open Go.RowKit

theorem open_ok (s : ByteArray) (w : World) (hs : s.size ≤ 1000000) (h : 4 ≤ s.size) (he : sealB (s.extract 0 (s.size - 4)) = s) :
    Calls Try.prog 12 #[.string s] w fun e w' => e = .returned (.tuple #[.string (s.extract 0 (s.size - 4)), .bool true]) ∧ Ext w w' := by
  have := open_yes (s.extract 0 (s.size - 4)) w (by simp; omega)
  rw [he] at this
  exact this

theorem keepT {w w1 w2 : World} {B : Nat} {a b c : Int} (k : Ext w1 w2) (h : Ext w w1 ∧ w1.cell? ⟨B, 0, none⟩ = some (.int .u16 a) ∧ w1.cell? ⟨B, 1, none⟩ = some (.int .u16 b) ∧ w1.cell? ⟨B, 2, none⟩ = some (.int .u16 c)) :
    Ext w w2 ∧ w2.cell? ⟨B, 0, none⟩ = some (.int .u16 a) ∧ w2.cell? ⟨B, 1, none⟩ = some (.int .u16 b) ∧ w2.cell? ⟨B, 2, none⟩ = some (.int .u16 c) :=
  ⟨h.1.trans k, k.cell h.2.1, k.cell h.2.2.1, k.cell h.2.2.2⟩

/-- Is a text one with its sum behind it? -/
def okB (s : ByteArray) : Bool := decide (4 ≤ s.size ∧ sealB (s.extract 0 (s.size - 4)) = s)
def bareB (s : ByteArray) : ByteArray := if okB s then s.extract 0 (s.size - 4) else ⟨#[]⟩

theorem open_any (s : ByteArray) (w : World) (hs : s.size ≤ 1000000) :
    Calls Try.prog 12 #[.string s] w fun e w' => e = .returned (.tuple #[.string (bareB s), .bool (okB s)]) ∧ Ext w w' := by
  by_cases h : 4 ≤ s.size
  · by_cases he : sealB (s.extract 0 (s.size - 4)) = s
    · have e : okB s = true := decide_eq_true ⟨h, he⟩
      exact calls_eq (open_ok s w hs h he) (val_pair (val_string (by rw [bareB, if_pos e])) (val_bool e.symm))
    · have e : okB s = false := decide_eq_false (fun k => he k.2)
      exact calls_eq (open_no s w hs h he) (val_pair (val_string (by rw [bareB, e]; rfl)) (val_bool e.symm))
  · have e : okB s = false := decide_eq_false (fun k => h k.1)
    exact calls_eq (open_short s w (by omega)) (val_pair (val_string (by rw [bareB, e]; rfl)) (val_bool e.symm))

/-- The fourth statement: what 'is' says. -/
theorem rseal_eq (s : ByteArray) (h : 4 ≤ s.size) : ((sealB (s.extract 0 (s.size - 4))).toList == s.toList) = okB s := by
  by_cases he : sealB (s.extract 0 (s.size - 4)) = s
  · rw [show okB s = true from decide_eq_true ⟨h, he⟩, he, toList_same]
  · rw [show okB s = false from decide_eq_false (fun k => he k.2), toList_ne he]

set_option maxRecDepth 100000 in
set_option maxHeartbeats 2000000 in
theorem tells_in (s : ByteArray) (n a b c : Int) (w : World) (h2 : s.size ≤ 5000) (hn : 0 ≤ n ∧ n ≤ 4294967295) (ha : 0 ≤ a ∧ a ≤ 65535) (hb : 0 ≤ b ∧ b ≤ 65535) (hc : 0 ≤ c ∧ c ≤ 65535) :
    Calls Try.prog 5 #[.string s, .int .u32 n, .agg #[.int .u16 a, .int .u16 b, .int .u16 c]] w fun e w' => e = .returned (.bool true) ∧ Ext w w' := by
  have d1 : decide (5000 < (s.size : Int)) = false := by simp; omega
  obtain ⟨t, ht⟩ : ∃ t, bareB s = t := ⟨_, rfl⟩
  obtain ⟨ok, hok⟩ : ∃ ok, okB s = ok := ⟨_, rfl⟩
  have H1 := hid (fun w => calls_eq (open_any s w (by omega)) (val_pair (val_string ht) (val_bool hok)))
  obtain ⟨m, hm, bm⟩ : ∃ m, 65535 - inetL 0 s.data.toList = m ∧ (0 ≤ m ∧ m ≤ 65535) := ⟨_, rfl, by have := inetL_bd s.data.toList 0 (by omega); omega⟩
  obtain ⟨q, hq, bq⟩ : ∃ q, 65535 - ringI (ringI (65535 - a) (65535 - b)) c = q ∧ (0 ≤ q ∧ q ≤ 65535) := ⟨_, rfl, by
    have h1 := ringI_bd (65535 - a) (65535 - b) (by omega) (by omega)
    have h2 := ringI_bd _ c h1 hc
    omega⟩
  obtain ⟨r, hr⟩ : ∃ r, moreL n s.data.toList = r := ⟨_, rfl⟩
  obtain ⟨u, hu⟩ : ∃ u, moreL 1 s.data.toList = u := ⟨_, rfl⟩
  have H3 := hid (fun w => calls_eq (inet_any s w (by omega)) (val_int hm))
  have H4 := hid (fun w => calls_eq (rinet_any s w (by omega)) (val_int hm))
  have H5 := hid (fun w => calls_eq (update_any a b c w ha hb hc) (val_int hq))
  have H6 := hid (fun w => calls_eq (rupdate_any a b c w ha hb hc) (val_int hq))
  have H7 := hid (fun w => calls_eq (more_any n s w hn (by omega)) (val_int hr))
  have H8 := hid (fun w => calls_eq (rmore_any n s w hn (by omega)) (val_int hr))
  have H9 := hid (fun w => seal_any s w (by omega))
  have H10 := hid (fun w => rseal_any s w (by omega))
  have H11 := hid (fun w => calls_eq (rof_any s w (by omega)) (val_int hu))
  have H12 := hid (fun b w hc => calls_eq (of_one b 0 1 s w (by omega) hc) (val_int hu))
  have w1 : IntKind.i64.wrap m = m := IntWalk.i64_in _ (by omega)
  have w2 : IntKind.i64.wrap q = q := IntWalk.i64_in _ (by omega)
  have w3 : IntKind.i64.wrap a = a := IntWalk.i64_in _ (by omega)
  have w4 : IntKind.i64.wrap b = b := IntWalk.i64_in _ (by omega)
  have w5 : IntKind.i64.wrap c = c := IntWalk.i64_in _ (by omega)
  have HT := hid ht
  have HK := hid hok
  clear ht hok hm hq hr hu
  have X0 : Hid (Ext (w.alloc (Obj.cells #[Value.int IntKind.u16 a, Value.int IntKind.u16 b, Value.int IntKind.u16 c] 36)) (w.alloc (Obj.cells #[Value.int IntKind.u16 a, Value.int IntKind.u16 b, Value.int IntKind.u16 c] 36))) := Ext.refl _
  go_enter Try.func5, Try.ntmps5
  go_upto_region 3 with fail
  go_cut [7, 8] (fun s7 s8 wx => s7 = .string t ∧ s8 = .bool ok ∧ Ext (w.alloc (Obj.cells #[Value.int IntKind.u16 a, Value.int IntKind.u16 b, Value.int IntKind.u16 c] 36)) wx)
  case first =>
    go_wp2_with (first
      | (go_at_call 12; ((with_reducible refine (H1.out _).mono ?_); rintro e w1 ⟨rfl, hb1⟩)))
    go_meet
    exact ⟨rfl, rfl, hb1⟩
  case rest =>
    obtain ⟨rfl, rfl, hx1⟩ := hcut
    go_upto_region 4 with fail
    go_cut [9] (fun s9 wx => s9 = .bool ok ∧ Ext (w.alloc (Obj.cells #[Value.int IntKind.u16 a, Value.int IntKind.u16 b, Value.int IntKind.u16 c] 36)) wx)
    case first =>
      by_cases h4 : 4 ≤ s.size
      · have d2 : decide (4 ≤ (s.size : Int)) = true := by simp; omega
        have hz : (s.extract 0 (s.size - 4)).size ≤ 1000000 := by simp; omega
        have hq := rseal_eq s h4
        rw [HK.out] at hq
        have H2 := hid (fun w => rseal_any (s.extract 0 (s.size - 4)) w hz)
        go_wp2_with (first
          | (go_at_call 13; ((with_reducible refine (H2.out _).mono ?_); rintro e w2 ⟨rfl, hb2⟩)))
        go_meet
        exact ⟨rfl, hx1.trans hb2⟩
      · have d2 : decide (4 ≤ (s.size : Int)) = false := by simp; omega
        have hq : ok = false := by rw [← HK.out]; exact decide_eq_false (fun k => h4 k.1)
        go_wp2
        go_meet
        exact ⟨congrArg _ hq.symm, hx1⟩
    case rest =>
      obtain ⟨rfl, hx2⟩ := hcut
      go_upto_region 5 with fail
      go_cut [7, 54] (fun _ s54 wx => s54 = .bool false ∧ Ext (w.alloc (Obj.cells #[Value.int IntKind.u16 a, Value.int IntKind.u16 b, Value.int IntKind.u16 c] 36)) wx)
      case first =>
        have hT := HT.out
        cases ok with
        | true =>
          have h4 : 4 ≤ s.size := by have := of_decide_eq_true HK.out; exact this.1
          have e1 : t = s.extract 0 (s.size - 4) := by rw [← hT, bareB, if_pos HK.out]
          clear hT HT
          subst e1
          go_wp2
          go_meet
          exact ⟨rfl, hx2⟩
        | false =>
          have e1 : t = ⟨#[]⟩ := by rw [← hT, bareB, HK.out]; rfl
          clear hT HT
          subst e1
          go_wp2
          go_meet
          exact ⟨rfl, hx2⟩
      case rest =>
        obtain ⟨rfl, hx3⟩ := hcut
        have c0 := hx3.cell (p := ⟨w.heap.size, 0, none⟩) (v := .int .u16 a) (by simp)
        have c1 := hx3.cell (p := ⟨w.heap.size, 1, none⟩) (v := .int .u16 b) (by simp)
        have c2 := hx3.cell (p := ⟨w.heap.size, 2, none⟩) (v := .int .u16 c) (by simp)
        have hx4 : Ext w wc := ((Ext.refl w).alloc _).trans hx3
        clear H1 HT HK X0 hx1 hx2 hx3
        go_upto_region 7 with fail
        go_region_held3 (fun w' => Ext w w' ∧ w'.cell? ⟨w.heap.size, 0, none⟩ = some (.int .u16 a) ∧ w'.cell? ⟨w.heap.size, 1, none⟩ = some (.int .u16 b) ∧ w'.cell? ⟨w.heap.size, 2, none⟩ = some (.int .u16 c))
            (first
              | exact keepT (by assumption) (by assumption)
              | exact keepT ((Ext.refl _).alloc _) (by assumption)
              | exact keepT ((Ext.refl _).drew) ⟨hx4, c0, c1, c2⟩
              | assumption)
            (first
              | (go_at_call 9; ((with_reducible refine (H3.out _).mono ?_); rintro e w3 ⟨rfl, rfl⟩))
              | (go_at_call 14; ((with_reducible refine (H4.out _).mono ?_); rintro e w3 ⟨rfl, rfl⟩))
              | (go_at_call 15; ((with_reducible refine (H5.out _).mono ?_); rintro e w3 ⟨rfl, rfl⟩))
              | (go_at_call 16; ((with_reducible refine (H6.out _).mono ?_); rintro e w3 ⟨rfl, rfl⟩))
              | (go_at_call 17; ((with_reducible refine (H7.out _).mono ?_); rintro e w3 ⟨rfl, rfl⟩))
              | (go_at_call 18; ((with_reducible refine (H8.out _).mono ?_); rintro e w3 ⟨rfl, rfl⟩))
              | (go_at_call 10; ((with_reducible refine (H12.out _ _ (by simp)).mono ?_); rintro e w3 ⟨rfl, rfl⟩))
              | (go_at_call 19; ((with_reducible refine (H11.out _).mono ?_); rintro e w3 ⟨rfl, rfl⟩))
              | (go_at_call 11; ((with_reducible refine (H9.out _).mono ?_); rintro e w3 ⟨rfl, hb3⟩))
              | (go_at_call 13; ((with_reducible refine (H10.out _).mono ?_); rintro e w3 ⟨rfl, hb3⟩))
              | (go_at_call 7; ((with_reducible refine (lives_any _).mono ?_); rintro e w3 ⟨rfl, hb3⟩)))
        all_goals go_wp2
        all_goals go_ret
        all_goals exact ⟨rfl, by
          rename_i hh
          exact hh.1⟩

set_option maxRecDepth 100000 in
set_option maxHeartbeats 400000 in
theorem tells_out (s : ByteArray) (n a b c : Int) (w : World) (h : 5000 < s.size) :
    Calls Try.prog 5 #[.string s, .int .u32 n, .agg #[.int .u16 a, .int .u16 b, .int .u16 c]] w fun e w' => e = .returned (.bool true) ∧ Ext w w' := by
  have d1 : decide (5000 < (s.size : Int)) = true := by simp; omega
  go_enter Try.func5, Try.ntmps5
  go_wp2_with (go_at_call 7; refine (lives_any _).mono ?_; rintro e w7 ⟨rfl, hb7⟩)
  go_ret
  exact ⟨rfl, ((Ext.refl w).alloc _).trans (by assumption)⟩

theorem tells_walk (s : ByteArray) (n : Int) (cs : Array Value) (w : World) (hs : s.size ≤ maxLen) (hn : (Lit.int .u32 n).wf = true)
    (hr : Reads w (.agg 3 (.cons 0 1 (.int .u16) (.cons 1 1 (.int .u16) (.cons 2 1 (.int .u16) .nil)))) cs.toList) :
    Calls Try.prog 5 #[.string s, .int .u32 n, .agg cs] w fun e w' => e = .returned (.bool true) ∧ Ext w w' := by
  obtain ⟨hl, ⟨a, ha, wa⟩, ⟨b, hb, wb⟩, ⟨c, hc, wc⟩, _⟩ := hr
  obtain ⟨l⟩ := cs
  obtain ⟨x, y, z, rfl⟩ := list3 hl
  simp at ha hb hc
  subst ha; subst hb; subst hc
  by_cases h : 5000 < s.size
  · exact tells_out s n a b c w h
  · exact tells_in s n a b c w (by omega) (wf_u32 hn) (wf_u16 wa) (wf_u16 wb) (wf_u16 wc)
end Go.Proofs.Ytccehnjckfploaa

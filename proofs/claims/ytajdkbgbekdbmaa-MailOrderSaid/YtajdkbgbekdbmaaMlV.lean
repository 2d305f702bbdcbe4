/- MailOrder: the walk. No condition. -/
import Derived.Test.YtajdkbgbekdbmaaMlW
import Derived.Test.YtajdkbgbekdbmaaEB
namespace Go.Proofs.Ytajdkbgbekdbmaa
set_option linter.unusedVariables false
set_option linter.unusedSimpArgs false
open Go.RowKit E
theorem lT_snoc {L : List Int} {x : Int} (j : Nat) (hj : j < L.length + 1) : (if j = L.length then x else lT L j) = lT (L ++ [x]) j := by
  obtain ⟨t1, t2⟩ := lT_app (L := L) (x := x)
  split
  · rename_i e; rw [e, t1]
  · exact t2 j (by omega)
theorem morder_take (len tn i : Nat) (X K : Nat → Int) (rn : Nat) (hi : i < len) (hl : len ≤ 300) (htl : tn ≤ 300) (L1 L Se1 Go : List Int) (hSe : Se1 = Go ++ L1) (hn : Se1.length ≤ i + 1) (pre : E.St)
    (y1 : ∀ (k : Int) (bufP : List Value) (gP : Nat) (TgP : Nat → Int), i < tn → IntKind.wrap .i64 (Int.tmod (K i) 3) = k → (L1.drop (smK k L1)).map vI = bufP → Go.length + smK k L1 = gP → (∀ j, j < Go.length + smK k L1 → appN Go.length (smK k L1) (lT Go) (lT (L1.take (smK k L1))) j = TgP j) → CodeOk Try.prog 2 (loopOf Try.f5 0) pre .normal (mkSt 77 [(2, .nv (.one (.own 1))), (7, .nv (.one (.ptr 2 0))), (9, .nv (.one (.own 4))), (10, .nv (.one (.own 5))), (31, .nv (.one (.own 0))), (32, iA len), (33, iA (i + 1 : Nat))] [.ro 1 len (gN X), .ro 1 tn (fun k => [.val (.int .u8 (K k))]), .box 56 [.chn 3, .val (.bool false)], .chan rn bufP false, .row 3 1 Se1.length (gN (lT Se1)), .row 3 1 gP (gN TgP)]))
    (y0 : ¬ i < tn → CodeOk Try.prog 2 (loopOf Try.f5 0) pre .normal (mkSt 77 [(2, .nv (.one (.own 1))), (7, .nv (.one (.ptr 2 0))), (9, .nv (.one (.own 4))), (10, .nv (.one (.own 5))), (31, .nv (.one (.own 0))), (32, iA len), (33, iA (i + 1 : Nat))] [.ro 1 len (gN X), .ro 1 tn (fun k => [.val (.int .u8 (K k))]), .box 56 [.chn 3, .val (.bool false)], .chan rn (L1.map vI) false, .row 3 1 Se1.length (gN (lT Se1)), .row 3 1 Go.length (gN (lT Go))])) :
    ∃ L' Go', Se1 = Go' ++ L' ∧ CodeOk Try.prog 2 (loopOf Try.f5 0) pre .normal (mkSt 77 [(2, .nv (.one (.own 1))), (7, .nv (.one (.ptr 2 0))), (9, .nv (.one (.own 4))), (10, .nv (.one (.own 5))), (31, .nv (.one (.own 0))), (32, iA len), (33, iA (i + 1 : Nat))] [.ro 1 len (gN X), .ro 1 tn (fun k => [.val (.int .u8 (K k))]), .box 56 [.chn 3, .val (.bool false)], .chan rn (L'.map vI) false, .row 3 1 Se1.length (gN (lT Se1)), .row 3 1 Go'.length (gN (lT Go'))]) := by
  by_cases h : i < tn
  · have hb : smK (IntKind.wrap .i64 (Int.tmod (K i) 3)) L1 ≤ L1.length := Nat.min_le_right _ _
    have em : (L1.take (smK (IntKind.wrap .i64 (Int.tmod (K i) 3)) L1)).length = smK (IntKind.wrap .i64 (Int.tmod (K i) 3)) L1 := by rw [List.length_take]; omega
    refine ⟨L1.drop (smK (IntKind.wrap .i64 (Int.tmod (K i) 3)) L1), Go ++ L1.take (smK (IntKind.wrap .i64 (Int.tmod (K i) 3)) L1), by rw [hSe, List.append_assoc, List.take_append_drop], ?_⟩
    refine y1 _ _ _ _ h rfl rfl (by rw [List.length_append, em]) ?_
    intro j hj
    have := appN_lists Go (L1.take (smK (IntKind.wrap .i64 (Int.tmod (K i) 3)) L1)) j (by rw [em]; exact hj)
    rwa [em] at this
  · exact ⟨L1, Go, hSe, y0 h⟩
theorem morder_round (len tn i : Nat) (X K : Nat → Int) (rn : Nat) (hi : i < len) (hl : len ≤ 300) (htl : tn ≤ 300) (L Se Go : List Int) (hSe : Se = Go ++ L) (hn : Se.length ≤ i) :
    ∃ L' Se' Go', Se' = Go' ++ L' ∧ Se'.length ≤ i + 1 ∧ CodeOk Try.prog 2 (loopOf Try.f5 0) (mkSt 77 [(2, .nv (.one (.own 1))), (7, .nv (.one (.ptr 2 0))), (9, .nv (.one (.own 4))), (10, .nv (.one (.own 5))), (31, .nv (.one (.own 0))), (32, iA len), (33, iA i)] [.ro 1 len (gN X), .ro 1 tn (fun k => [.val (.int .u8 (K k))]), .box 56 [.chn 3, .val (.bool false)], .chan rn (L.map vI) false, .row 3 1 Se.length (gN (lT Se)), .row 3 1 Go.length (gN (lT Go))]) .normal (mkSt 77 [(2, .nv (.one (.own 1))), (7, .nv (.one (.ptr 2 0))), (9, .nv (.one (.own 4))), (10, .nv (.one (.own 5))), (31, .nv (.one (.own 0))), (32, iA len), (33, iA (i + 1 : Nat))] [.ro 1 len (gN X), .ro 1 tn (fun k => [.val (.int .u8 (K k))]), .box 56 [.chn 3, .val (.bool false)], .chan rn (L'.map vI) false, .row 3 1 Se'.length (gN (lT Se')), .row 3 1 Go'.length (gN (lT Go'))]) := by
  have hl2 : Se.length = Go.length + L.length := by rw [hSe, List.length_append]
  cases hr : sndR false rn (L.map vI)
  · have eb : sndB false rn (L.map vI) (.int .i64 (X i)) = L.map vI := by unfold sndB; rw [hr]; rfl
    have eu : unL (sndB false rn (L.map vI) (.int .i64 (X i))) = L := by rw [eb]; exact unL_map L
    obtain ⟨L', Go', h1, h2⟩ := morder_take len tn i X K rn hi hl htl L L Se Go hSe (by omega) _
      (fun k bufP gP TgP h hk hb hg hT => mo_n1 rn len tn i X K hi hl htl (L.map vI) Se.length Go.length (lT Se) (lT Go) (by omega) (by omega) bufP _ gP _ TgP hr (by omega) h k hk (by rw [eu]; omega) (by rw [eu]; exact eb) (by rw [eu]; have : smK k L ≤ L.length := Nat.min_le_right _ _; omega) (by rw [eu]; exact hb) rfl (fun _ _ => rfl) (by rw [eu]; exact hg) (by rw [eu]; exact hT))
      (fun h => mo_n0 rn len tn i X K hi hl htl (L.map vI) Se.length Go.length (lT Se) (lT Go) (by omega) (by omega) _ _ _ _ _ hr (by omega) eb rfl (fun _ _ => rfl) rfl (fun _ _ => rfl))
    exact ⟨L', Se, Go', h1, by omega, h2⟩
  · have eb : sndB false rn (L.map vI) (.int .i64 (X i)) = (L ++ [X i]).map vI := by unfold sndB; rw [hr, if_pos rfl]; simp [snocV]
    have eu : unL (sndB false rn (L.map vI) (.int .i64 (X i))) = L ++ [X i] := by rw [eb]; exact unL_map _
    have el : (L ++ [X i]).length = L.length + 1 := by simp
    have es : (Se ++ [X i]).length = Se.length + 1 := by simp
    obtain ⟨L', Go', h1, h2⟩ := morder_take len tn i X K rn hi hl htl (L ++ [X i]) (L ++ [X i]) (Se ++ [X i]) Go (by rw [hSe, List.append_assoc]) (by omega) _
      (fun k bufP gP TgP h hk hb hg hT => mo_y1 rn len tn i X K hi hl htl (L.map vI) Se.length Go.length (lT Se) (lT Go) (by omega) (by omega) bufP _ gP _ TgP hr (by omega) h k hk (by rw [eu]; omega) (by rw [eu]; exact eb) (by rw [eu]; have : smK k (L ++ [X i]) ≤ (L ++ [X i]).length := Nat.min_le_right _ _; omega) (by rw [eu]; exact hb) es.symm lT_snoc (by rw [eu]; exact hg) (by rw [eu]; exact hT))
      (fun h => mo_y0 rn len tn i X K hi hl htl (L.map vI) Se.length Go.length (lT Se) (lT Go) (by omega) (by omega) _ _ _ _ _ hr (by omega) eb es.symm lT_snoc rfl (fun _ _ => rfl))
    exact ⟨L', Se ++ [X i], Go', h1, by omega, h2⟩
theorem morder_loop (len tn : Nat) (X K : Nat → Int) (rn : Nat) (hl : len ≤ 300) (htl : tn ≤ 300) : ∀ (f i : Nat) (L Se Go : List Int), i + f = len → Se = Go ++ L → Se.length ≤ i →
    ∃ L' Se' Go', Se' = Go' ++ L' ∧ Se'.length ≤ len ∧ LoopOk Try.prog 2 (loopOf Try.f5 0) (mkSt 77 [(2, .nv (.one (.own 1))), (7, .nv (.one (.ptr 2 0))), (9, .nv (.one (.own 4))), (10, .nv (.one (.own 5))), (31, .nv (.one (.own 0))), (32, iA len), (33, iA i)] [.ro 1 len (gN X), .ro 1 tn (fun k => [.val (.int .u8 (K k))]), .box 56 [.chn 3, .val (.bool false)], .chan rn (L.map vI) false, .row 3 1 Se.length (gN (lT Se)), .row 3 1 Go.length (gN (lT Go))]) (.exit 0) (mkSt 77 [(7, .nv (.one (.ptr 2 0))), (9, .nv (.one (.own 4))), (10, .nv (.one (.own 5)))] [.ro 1 len (gN X), .ro 1 tn (fun k => [.val (.int .u8 (K k))]), .box 56 [.chn 3, .val (.bool false)], .chan rn (L'.map vI) false, .row 3 1 Se'.length (gN (lT Se')), .row 3 1 Go'.length (gN (lT Go'))])
  | 0, i, L, Se, Go, h1, h2, h3 => by
    have e : i = len := by omega
    subst e
    exact ⟨L, Se, Go, h2, h3, .last (by simp) (mo_e rn i tn X K hl htl (L.map vI) Se.length Go.length (lT Se) (lT Go))⟩
  | f + 1, i, L, Se, Go, h1, h2, h3 => by
    obtain ⟨L', Se', Go', k1, k2, k3⟩ := morder_round len tn i X K rn (by omega) hl htl L Se Go h2 h3
    obtain ⟨L'', Se'', Go'', j1, j2, j3⟩ := morder_loop len tn X K rn hl htl f (i + 1) L' Se' Go' (by omega) k1 k2
    exact ⟨L'', Se'', Go'', j1, j2, .step k3 j3⟩
theorem morder_law (rm : Int) (len tn : Nat) (X K : Nat → Int) (r0 : 0 ≤ rm) (r1 : rm ≤ 255) : LawOk Try.prog 5 [.nv (.one (.val (.int .u8 rm))), .nv (.one (.own 0)), .nv (.one (.own 1))] [.ro 1 len (gN X), .ro 1 tn (fun k => [.val (.int .u8 (K k))])] (bA true) := by
  by_cases hl : 300 < len
  · exact mo_l rm len tn X K hl
  by_cases htl : 300 < tn
  · exact mo_m rm len tn X K (by omega) htl
  obtain ⟨L, Se, Go, h1, h2, h3⟩ := morder_loop len tn X K (rm + 1).toNat (by omega) (by omega) len 0 [] [] [] (by omega) rfl (Nat.le_refl _)
  have hl2 : Se.length = Go.length + L.length := by rw [h1, List.length_append]
  have eu : unL (L.map vI) = L := unL_map L
  have hk : smK 1000 L = L.length := by unfold smK; omega
  refine mo_f rm len tn X K (by omega) (by omega) (rm + 1).toNat ?_ (by omega) (by omega) (L.map vI) Se.length Go.length (lT Se) (lT Go) (by omega) (by omega) (by rw [eu]; omega) (by rw [eu]) (by rw [eu, hk]; omega) (by rw [eu, hk]; omega) ?_ (by rw [eu, hk]; simp) h3.code
  · rw [w64 (a := rm) rfl (by omega), w64 (a := rm + 1) rfl (by omega)]
    omega
  · rw [eu, hk, List.take_length]
    intro j hj
    rw [appN_lists Go L j (by omega), h1]
theorem morder_walk (rm : Int) (a1 : Option Addr) (len cap1 : Nat) (a2 : Option Addr) (tn cap2 : Nat) (w : World) (wk : (Lit.int .u8 rm).wf = true) (r1 : Reads w (.slice 1 (.int .i64)) (Value.slice a1 len cap1).cells.toList) (r2 : Reads w (.slice 1 (.int .u8)) (Value.slice a2 tn cap2).cells.toList) :
    Calls Try.prog 5 #[.int .u8 rm, .slice a1 len cap1, .slice a2 tn cap2] w fun e w' => e = .returned (.bool true) ∧ Ext w w' := by
  obtain ⟨es, b1, s1⟩ := vals_seg (h := 0) (s := .int .i64) (env2_0 (.slice a1 len cap1) (.slice a2 tn cap2)) rfl r1
  obtain ⟨fs, b2, s2⟩ := vals_seg (h := 1) (s := .int .u8) (env2_1 (.slice a1 len cap1) (.slice a2 tn cap2)) rfl r2
  have hk : 0 ≤ rm ∧ rm ≤ 255 := by
    have := wf_bd wk
    simpa [IntKind.min, IntKind.max, IntKind.signed, IntKind.bits] using this
  refine (morder_law rm len tn (fun k => cI (es k) 0) (fun k => cI (fs k) 0) hk.1 hk.2 _ [.int .u8 rm, .slice a1 len cap1, .slice a2 tn cap2] w ⟨rfl, ⟨env2_0 _ _, _, _, _, rfl⟩, ⟨env2_1 _ _, _, _, _, rfl⟩, trivial⟩ (two_ro s1 s2)).mono ?_
  rintro e w' ⟨u, rfl, hu, hx⟩
  exact ⟨by rw [show u = .bool true from hu], hx⟩
end Go.Proofs.Ytajdkbgbekdbmaa

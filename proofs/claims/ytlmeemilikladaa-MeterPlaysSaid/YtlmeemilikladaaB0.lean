import Derived.Test.YtlmeemilikladaaRows
import Derived.WalkKit
import Derived.WalkSpells
import Derived.WalkLawsBesides
namespace Go.Proofs.Ytlmeemilikladaa
set_option linter.unusedVariables false
set_option linter.unusedSimpArgs false
open Go.RowKit

theorem hid {p : Prop} (h : p) : Hid p := h

theorem ret_int {k : IntKind} {a b : Int} (h : a = b) : Ending.returned (.int k a) = .returned (.int k b) := by rw [h]
theorem calls_eq {P : Program} {f : FuncId} {args : Array Value} {w : World} {v v' : Value} {Q : World → Prop} (h : Calls P f args w fun e w' => e = .returned v ∧ Q w') (hv : v = v') :
    Calls P f args w fun e w' => e = .returned v' ∧ Q w' := hv ▸ h
theorem ret_bool {a b : Bool} (h : a = b) : Ending.returned (.bool a) = .returned (.bool b) := by rw [h]
theorem ret_string {a b : ByteArray} (h : a = b) : Ending.returned (.string a) = .returned (.string b) := by rw [h]

theorem ret2 {a b c d : Value} (h1 : a = c) (h2 : b = d) : Ending.returned (.tuple #[a, b]) = .returned (.tuple #[c, d]) := by rw [h1, h2]
theorem ret3 {a b c d e f : Value} (h1 : a = d) (h2 : b = e) (h3 : c = f) : Ending.returned (.tuple #[a, b, c]) = .returned (.tuple #[d, e, f]) := by rw [h1, h2, h3]
theorem val_int {k : IntKind} {a b : Int} (h : a = b) : Value.int k a = .int k b := by rw [h]
theorem val_string {a b : ByteArray} (h : a = b) : Value.string a = .string b := by rw [h]
theorem val_pair {a b c d : Value} (h1 : a = c) (h2 : b = d) : Value.tuple #[a, b] = .tuple #[c, d] := by rw [h1, h2]
theorem val_triple {a b c d e f : Value} (h1 : a = d) (h2 : b = e) (h3 : c = f) : Value.tuple #[a, b, c] = .tuple #[d, e, f] := by rw [h1, h2, h3]
theorem val_bool {a b : Bool} (h : a = b) : Value.bool a = .bool b := by rw [h]

theorem byte_bd (a : UInt8) : 0 ≤ (a.toNat : Int) ∧ (a.toNat : Int) ≤ 255 := by
  have := a.toNat_lt; omega

theorem drop_cons (s : ByteArray) (k : Nat) (h : k < s.size) : s.data.toList.drop k = s[k] :: s.data.toList.drop (k + 1) := by
  rw [List.drop_eq_getElem_cons (by simpa using h)]; rfl
theorem drop_end (s : ByteArray) (k : Nat) (h : s.size ≤ k) : s.data.toList.drop k = [] := List.drop_eq_nil_of_le (by simpa using h)
theorem size_toList (s : ByteArray) : s.data.toList.length = s.size := by simp

theorem and_ones (k x : Nat) : x &&& (2 ^ k - 1) = x % 2 ^ k := Nat.and_two_pow_sub_one_eq_mod x k

theorem u32_and65535 (x : Int) (h0 : 0 ≤ x) (h1 : x < 4294967296) : bits .and .u32 x 65535 = x % 65536 := by
  rw [u32_and x 65535 h0 (by omega) (by omega) (by omega)]
  have : (65535 : Int).toNat = 2 ^ 16 - 1 := rfl
  rw [this, and_ones]
  omega

theorem xor_ones (k n : Nat) (h : n < 2 ^ k) : (2 ^ k - 1) ^^^ n = 2 ^ k - 1 - n := by
  apply Nat.eq_of_testBit_eq
  intro i
  have e : 2 ^ k - 1 - n = 2 ^ k - (n + 1) := by omega
  rw [e, Nat.testBit_xor, Nat.testBit_two_pow_sub_one, Nat.testBit_two_pow_sub_succ h]
  by_cases hi : i < k
  · simp [hi]
  · have : n.testBit i = false := Nat.testBit_lt_two_pow (Nat.lt_of_lt_of_le h (Nat.pow_le_pow_right (by omega) (by omega)))
    simp [hi, this]

theorem u16_not (a : Int) (h : 0 ≤ a ∧ a ≤ 65535) : bits .xor .u16 IntKind.u16.max a = 65535 - a := by
  have e : IntKind.u16.max = 65535 := rfl
  rw [e, u16_xor 65535 a (by omega) (by omega) (by omega) (by omega)]
  have := xor_ones 16 a.toNat (by omega)
  have e2 : (65535 : Int).toNat = 2 ^ 16 - 1 := rfl
  rw [e2, this]
  omega

theorem bytes_ext {s t : ByteArray} (h : s.data.toList = t.data.toList) : s = t := by
  cases s; cases t; congr; exact Array.ext' h
theorem toList_ne {s t : ByteArray} (h : s ≠ t) : (s.toList == t.toList) = false := by
  rw [ByteArray.toList_eq, ByteArray.toList_eq]
  exact beq_eq_false_iff_ne.2 fun e => h (bytes_ext e)
theorem toList_same (s : ByteArray) : (s.toList == s.toList) = true := by simp
theorem ext_toList (s : ByteArray) (a b : Nat) : (s.extract a b).data.toList = (s.data.toList.drop a).take (b - a) := by
  obtain ⟨⟨l⟩⟩ := s
  rw [ByteArray.extract_mk]
theorem app_toList (a b : ByteArray) : (a ++ b).data.toList = a.data.toList ++ b.data.toList := by
  simp

theorem add_eq (b off j : Nat) : (⟨b, off, none⟩ : Addr).add j = ⟨b, off + j, none⟩ := by
  unfold Addr.add
  split
  · rename_i h; subst h; rfl
  · rfl

theorem row_of_cells {w : World} {a : Addr} {n : Nat} (f : Nat → Value) (hn : 0 < n) (h : ∀ i, i < n → w.cell? (a.add i) = some (f i)) :
    ∃ b off, a = ⟨b, off, none⟩ ∧ ∀ i, i < n → w.cell? ⟨b, off + i, none⟩ = some (f i) := by
  obtain ⟨b, off, spot⟩ := a
  have hc := h 0 hn
  have hspot : spot = none := by simpa [Addr.add] using World.cell?_spot hc
  subst hspot
  exact ⟨b, off, rfl, fun i hi => by rw [← add_eq]; exact h i hi⟩

/-- What a world was is there still: new blocks, and draws, alone. -/
def Ext (w w' : World) : Prop := Below w.heap.size w w'
theorem Ext.refl (w : World) : Ext w w := Below.refl _ _
theorem Ext.trans {a b c : World} (h : Ext a b) (k : Ext b c) : Ext a c := Below.trans h (Below.mono k h.size)
theorem Ext.alloc {a b : World} (h : Ext a b) (o : Obj) : Ext a (b.alloc o) := Below.alloc h h.size o
theorem Ext.drew {a b : World} (h : Ext a b) : Ext a b.drew := Below.drew h
theorem Ext.cell {a b : World} (h : Ext a b) {p : Addr} {v : Value} (hc : a.cell? p = some v) : b.cell? p = some v := (Below.cell h (World.block_lt_of_cell? a p hc)).trans hc

theorem Ext.bcell {W w1 : World} (h : Ext W w1) : (∀ b o, b < W.heap.size → w1.cell? ⟨b, o, none⟩ = W.cell? ⟨b, o, none⟩) ∧ (∀ b o, b < W.heap.size → w1.frozen? ⟨b, o, none⟩ = W.frozen? ⟨b, o, none⟩) :=
  ⟨fun b o hb => Below.cell (p := ⟨b, o, none⟩) h hb, fun b o hb => Below.frozen (p := ⟨b, o, none⟩) h hb⟩
theorem Ext.setCell {a b : World} (h : Ext a b) {p : Addr} (hp : a.heap.size ≤ p.block) (u : Value) : Ext a (b.setCell p u) := Below.setCell h hp u
theorem Ext.size {a b : World} (h : Ext a b) : a.heap.size ≤ b.heap.size := Below.size h

theorem cell_set_same (w : World) (b o : Nat) (v : Value) : (w.setCell ⟨b, o, none⟩ v).cell? ⟨b, o, none⟩ = (w.cell? ⟨b, o, none⟩).map (fun _ => v) := by
  unfold World.cell? World.setCell
  simp only [Array.getElem?_modify, if_true]
  cases h : w.heap[b]? with
  | none => simp
  | some x =>
    cases x <;> simp [Array.getElem?_setIfInBounds]
    split
    · rename_i hlt; rw [Array.getElem?_eq_getElem hlt]; rfl
    · rename_i hge; rw [Array.getElem?_eq_none (by omega)]; rfl

/-- The text of some numbers, taken as bytes. -/
def strOf (l : List Int) : ByteArray := ⟨(l.map (fun n => UInt8.ofNat n.toNat)).toArray⟩
theorem strOf_toList (l : List Int) : (strOf l).data.toList = l.map (fun n => UInt8.ofNat n.toNat) := by simp [strOf]
theorem strOf_size (l : List Int) : (strOf l).size = l.length := by show (strOf l).data.size = _; simp [strOf]

theorem foldl_push_ints : ∀ (l : List Int) (r : ByteArray), l.foldl (fun r n => r.push (UInt8.ofNat n.toNat)) r = ⟨r.data ++ (l.map (fun n => UInt8.ofNat n.toNat)).toArray⟩
  | [], r => by simp
  | b :: l, r => by
    simp only [List.foldl_cons]
    rw [foldl_push_ints l]
    simp [ByteArray.push]

theorem run_str {P : Program} (src dst e : TypeId) (hs : P.underlying src = some (.slice e)) (he : P.underlying e = some (.int .u8)) (hd : P.underlying dst = some .string)
    (w : World) (a : Addr) (cap : Nat) (l : List Int) (hc : ∀ j (hj : j < l.length), w.cell? (a.add j) = some (.int .u8 l[j])) :
    (convert src dst (.slice (some a) l.length cap)).run P w = .ok (.string (strOf l)) w := by
  rw [run_convert_bytes_string w src dst e (some a) l.length cap hs he hd]
  have hl := run_loadCells_list (P := P) w a (l.map (Value.int .u8)) (fun j v hj => by
    have hj' : j < l.length := by
      have := (List.getElem?_eq_some_iff.1 hj).1
      simpa using this
    rw [hc j hj']
    simp [List.getElem?_eq_getElem hj'] at hj
    rw [← hj])
  simp only [List.length_map] at hl
  rw [run_bytesToString w a l.length cap _ hl, foldl_push_ints]
  have he0 : ByteArray.empty.data = #[] := rfl
  rw [he0]
  simp [strOf]

theorem run_str_nil {P : Program} (src dst e : TypeId) (hs : P.underlying src = some (.slice e)) (he : P.underlying e = some (.int .u8)) (hd : P.underlying dst = some .string)
    (w : World) (ao : Option Addr) (cap : Nat) : (convert src dst (.slice ao 0 cap)).run P w = .ok (.string (strOf [])) w := by
  cases ao with
  | none => rw [run_convert_bytes_string w src dst e none 0 cap hs he hd]; rfl
  | some a => exact run_str src dst e hs he hd w a cap [] (fun j hj => absurd hj (by simp))

/-- A new row of numbers, taken as a text; draws may stand behind it. -/
theorem run_str_new {P : Program} (src dst e : TypeId) (hs : P.underlying src = some (.slice e)) (he : P.underlying e = some (.int .u8)) (hd : P.underlying dst = some .string)
    (w W : World) (B cap n : Nat) (l : List Int) (hn : l.length = n) (hB : w.heap.size = B) (C Z : Array Value) (hC : C = (l.map (Value.int .u8)).toArray ++ Z) (hW : W.heap = (w.alloc (.cells C e)).heap) :
    (convert src dst (.slice (some ⟨B, 0, none⟩) n cap)).run P W = .ok (.string (strOf l)) W := by
  subst hn; subst hB; subst hC
  refine run_str src dst e hs he hd _ ⟨w.heap.size, 0, none⟩ cap l (fun j hj => ?_)
  have h1 := World.cell?_alloc_mark w ((l.map (Value.int .u8)).toArray ++ Z) e (0, 0) j
  have h2 : W.cell? ⟨w.heap.size, j, none⟩ = (w.alloc (.cells ((l.map (Value.int .u8)).toArray ++ Z) e)).cell? ⟨w.heap.size, j, none⟩ := by
    unfold World.cell?; rw [hW]
  rw [add_eq, Nat.zero_add, h2, h1]
  rw [Array.getElem?_append_left (by simpa using hj)]
  simp [hj]
section
variable {P : Program} (src dst e : TypeId) (hs : P.underlying src = some (.slice e)) (he : P.underlying e = some (.int .u8)) (hd : P.underlying dst = some .string)
  (w : World) (B cap : Nat) (x0 x1 x2 x3 : Int) (hB : w.heap.size = B)
include hs he hd hB
theorem run_str1 : (convert src dst (.slice (some ⟨B, 0, none⟩) 1 cap)).run P (w.alloc (.cells #[.int .u8 x0] e)) = .ok (.string (strOf [x0])) (w.alloc (.cells #[.int .u8 x0] e)) :=
  run_str_new src dst e hs he hd w _ B cap 1 [x0] rfl hB _ #[] rfl rfl
theorem run_str1d : (convert src dst (.slice (some ⟨B, 0, none⟩) 1 cap)).run P (w.alloc (.cells #[.int .u8 x0] e)).drew = .ok (.string (strOf [x0])) (w.alloc (.cells #[.int .u8 x0] e)).drew :=
  run_str_new src dst e hs he hd w _ B cap 1 [x0] rfl hB _ #[] rfl rfl
theorem run_str4 : (convert src dst (.slice (some ⟨B, 0, none⟩) 4 cap)).run P (w.alloc (.cells #[.int .u8 x0, .int .u8 x1, .int .u8 x2, .int .u8 x3] e)) =
      .ok (.string (strOf [x0, x1, x2, x3])) (w.alloc (.cells #[.int .u8 x0, .int .u8 x1, .int .u8 x2, .int .u8 x3] e)) :=
  run_str_new src dst e hs he hd w _ B cap 4 [x0, x1, x2, x3] rfl hB _ #[] rfl rfl
theorem run_str4a (Z : Array Value) : (convert src dst (.slice (some ⟨B, 0, none⟩) 4 cap)).run P (w.alloc (.cells (#[.int .u8 x0, .int .u8 x1, .int .u8 x2, .int .u8 x3] ++ Z) e)).drew =
      .ok (.string (strOf [x0, x1, x2, x3])) (w.alloc (.cells (#[.int .u8 x0, .int .u8 x1, .int .u8 x2, .int .u8 x3] ++ Z) e)).drew :=
  run_str_new src dst e hs he hd w _ B cap 4 [x0, x1, x2, x3] rfl hB _ Z rfl rfl
end

end Go.Proofs.Ytlmeemilikladaa

/- Lemmas on runs of Go code. No condition. -/
import Derived.Test.YtajdkbgbekdbmaaRows
import Derived.WalkKit
import Derived.WalkSpells
import Derived.WalkLawsBesides
import Derived.ProofKit
import Derived.Maps.AppendAt
import Derived.Laws.MakeOwn
import Derived.Great.BuildSlice
namespace Go.Proofs.Ytajdkbgbekdbmaa
set_option linter.unusedVariables false
set_option linter.unusedSimpArgs false
open Go.RowKit

theorem hid {p : Prop} (h : p) : Hid p := h

theorem ret_int {k : IntKind} {a b : Int} (h : a = b) : Ending.returned (.int k a) = .returned (.int k b) := by rw [h]
theorem calls_eq {P : Program} {f : FuncId} {args : Array Value} {w : World} {v v' : Value} {Q : World → Prop} (h : Calls P f args w fun e w' => e = .returned v ∧ Q w') (hv : v = v') :
    Calls P f args w fun e w' => e = .returned v' ∧ Q w' := hv ▸ h
theorem ret_bool {a b : Bool} (h : a = b) : Ending.returned (.bool a) = .returned (.bool b) := by rw [h]
theorem ret_string {a b : ByteArray} (h : a = b) : Ending.returned (.string a) = .returned (.string b) := by rw [h]

theorem ret2 {a b c d : Value} (h1 : a = c) (h2 : b = d) : Ending.returned (.tuple #[a, b]) = .returned (.tuple #[c, d]) := by rw [h1, h2]
theorem ret3 {a b c d e f : Value} (h1 : a = d) (h2 : b = e) (h3 : c = f) : Ending.returned (.tuple #[a, b, c]) = .returned (.tuple #[d, e, f]) := by rw [h1, h2, h3]
theorem val_int {k : IntKind} {a b : Int} (h : a = b) : Value.int k a = .int k b := by rw [h]
theorem val_string {a b : ByteArray} (h : a = b) : Value.string a = .string b := by rw [h]
theorem val_pair {a b c d : Value} (h1 : a = c) (h2 : b = d) : Value.tuple #[a, b] = .tuple #[c, d] := by rw [h1, h2]
theorem val_triple {a b c d e f : Value} (h1 : a = d) (h2 : b = e) (h3 : c = f) : Value.tuple #[a, b, c] = .tuple #[d, e, f] := by rw [h1, h2, h3]
theorem val_bool {a b : Bool} (h : a = b) : Value.bool a = .bool b := by rw [h]

theorem byte_bd (a : UInt8) : 0 ≤ (a.toNat : Int) ∧ (a.toNat : Int) ≤ 255 := by
  have := a.toNat_lt; omega

theorem drop_cons (s : ByteArray) (k : Nat) (h : k < s.size) : s.data.toList.drop k = s[k] :: s.data.toList.drop (k + 1) := by
  rw [List.drop_eq_getElem_cons (by simpa using h)]; rfl
theorem drop_end (s : ByteArray) (k : Nat) (h : s.size ≤ k) : s.data.toList.drop k = [] := List.drop_eq_nil_of_le (by simpa using h)
theorem size_toList (s : ByteArray) : s.data.toList.length = s.size := by simp

theorem and_ones (k x : Nat) : x &&& (2 ^ k - 1) = x % 2 ^ k := Nat.and_two_pow_sub_one_eq_mod x k

theorem u32_and65535 (x : Int) (h0 : 0 ≤ x) (h1 : x < 4294967296) : bits .and .u32 x 65535 = x % 65536 := by
  rw [u32_and x 65535 h0 (by omega) (by omega) (by omega)]
  have : (65535 : Int).toNat = 2 ^ 16 - 1 := rfl
  rw [this, and_ones]
  omega

theorem xor_ones (k n : Nat) (h : n < 2 ^ k) : (2 ^ k - 1) ^^^ n = 2 ^ k - 1 - n := by
  apply Nat.eq_of_testBit_eq
  intro i
  have e : 2 ^ k - 1 - n = 2 ^ k - (n + 1) := by omega
  rw [e, Nat.testBit_xor, Nat.testBit_two_pow_sub_one, Nat.testBit_two_pow_sub_succ h]
  by_cases hi : i < k
  · simp [hi]
  · have : n.testBit i = false := Nat.testBit_lt_two_pow (Nat.lt_of_lt_of_le h (Nat.pow_le_pow_right (by omega) (by omega)))
    simp [hi, this]

theorem u16_not (a : Int) (h : 0 ≤ a ∧ a ≤ 65535) : bits .xor .u16 IntKind.u16.max a = 65535 - a := by
  have e : IntKind.u16.max = 65535 := rfl
  rw [e, u16_xor 65535 a (by omega) (by omega) (by omega) (by omega)]
  have := xor_ones 16 a.toNat (by omega)
  have e2 : (65535 : Int).toNat = 2 ^ 16 - 1 := rfl
  rw [e2, this]
  omega

theorem bytes_ext {s t : ByteArray} (h : s.data.toList = t.data.toList) : s = t := by
  cases s; cases t; congr; exact Array.ext' h
theorem toList_ne {s t : ByteArray} (h : s ≠ t) : (s.toList == t.toList) = false := by
  rw [ByteArray.toList_eq, ByteArray.toList_eq]
  exact beq_eq_false_iff_ne.2 fun e => h (bytes_ext e)
theorem toList_same (s : ByteArray) : (s.toList == s.toList) = true := by simp
theorem ext_toList (s : ByteArray) (a b : Nat) : (s.extract a b).data.toList = (s.data.toList.drop a).take (b - a) := by
  obtain ⟨⟨l⟩⟩ := s
  rw [ByteArray.extract_mk]
theorem app_toList (a b : ByteArray) : (a ++ b).data.toList = a.data.toList ++ b.data.toList := by
  simp

theorem add_eq (b off j : Nat) : (⟨b, off, none⟩ : Addr).add j = ⟨b, off + j, none⟩ := by
  unfold Addr.add
  split
  · rename_i h; subst h; rfl
  · rfl

theorem row_of_cells {w : World} {a : Addr} {n : Nat} (f : Nat → Value) (hn : 0 < n) (h : ∀ i, i < n → w.cell? (a.add i) = some (f i)) :
    ∃ b off, a = ⟨b, off, none⟩ ∧ ∀ i, i < n → w.cell? ⟨b, off + i, none⟩ = some (f i) := by
  obtain ⟨b, off, spot⟩ := a
  have hc := h 0 hn
  have hspot : spot = none := by simpa [Addr.add] using World.cell?_spot hc
  subst hspot
  exact ⟨b, off, rfl, fun i hi => by rw [← add_eq]; exact h i hi⟩

/-- What a world was is there still: new blocks, and draws, alone. -/
def Ext (w w' : World) : Prop := Below w.heap.size w w'
theorem Ext.refl (w : World) : Ext w w := Below.refl _ _
theorem Ext.trans {a b c : World} (h : Ext a b) (k : Ext b c) : Ext a c := Below.trans h (Below.mono k h.size)
theorem Ext.alloc {a b : World} (h : Ext a b) (o : Obj) : Ext a (b.alloc o) := Below.alloc h h.size o
theorem Ext.drew {a b : World} (h : Ext a b) : Ext a b.drew := Below.drew h
theorem Ext.cell {a b : World} (h : Ext a b) {p : Addr} {v : Value} (hc : a.cell? p = some v) : b.cell? p = some v := (Below.cell h (World.block_lt_of_cell? a p hc)).trans hc

theorem Ext.bcell {W w1 : World} (h : Ext W w1) : (∀ b o, b < W.heap.size → w1.cell? ⟨b, o, none⟩ = W.cell? ⟨b, o, none⟩) ∧ (∀ b o, b < W.heap.size → w1.frozen? ⟨b, o, none⟩ = W.frozen? ⟨b, o, none⟩) :=
  ⟨fun b o hb => Below.cell (p := ⟨b, o, none⟩) h hb, fun b o hb => Below.frozen (p := ⟨b, o, none⟩) h hb⟩
theorem Ext.setCell {a b : World} (h : Ext a b) {p : Addr} (hp : a.heap.size ≤ p.block) (u : Value) : Ext a (b.setCell p u) := Below.setCell h hp u
theorem Ext.size {a b : World} (h : Ext a b) : a.heap.size ≤ b.heap.size := Below.size h

theorem cell_set_same (w : World) (b o : Nat) (v : Value) : (w.setCell ⟨b, o, none⟩ v).cell? ⟨b, o, none⟩ = (w.cell? ⟨b, o, none⟩).map (fun _ => v) := by
  unfold World.cell? World.setCell
  simp only [Array.getElem?_modify, if_true]
  cases h : w.heap[b]? with
  | none => simp
  | some x =>
    cases x <;> simp [Array.getElem?_setIfInBounds]
    split
    · rename_i hlt; rw [Array.getElem?_eq_getElem hlt]; rfl
    · rename_i hge; rw [Array.getElem?_eq_none (by omega)]; rfl

/-- The text of some numbers, taken as bytes. -/
def strOf (l : List Int) : ByteArray := ⟨(l.map (fun n => UInt8.ofNat n.toNat)).toArray⟩
theorem strOf_toList (l : List Int) : (strOf l).data.toList = l.map (fun n => UInt8.ofNat n.toNat) := by simp [strOf]
theorem strOf_size (l : List Int) : (strOf l).size = l.length := by show (strOf l).data.size = _; simp [strOf]

theorem foldl_push_ints : ∀ (l : List Int) (r : ByteArray), l.foldl (fun r n => r.push (UInt8.ofNat n.toNat)) r = ⟨r.data ++ (l.map (fun n => UInt8.ofNat n.toNat)).toArray⟩
  | [], r => by simp
  | b :: l, r => by
    simp only [List.foldl_cons]
    rw [foldl_push_ints l]
    simp [ByteArray.push]

theorem run_str {P : Program} (src dst e : TypeId) (hs : P.underlying src = some (.slice e)) (he : P.underlying e = some (.int .u8)) (hd : P.underlying dst = some .string)
    (w : World) (a : Addr) (cap : Nat) (l : List Int) (hc : ∀ j (hj : j < l.length), w.cell? (a.add j) = some (.int .u8 l[j])) :
    (convert src dst (.slice (some a) l.length cap)).run P w = .ok (.string (strOf l)) w := by
  rw [run_convert_bytes_string w src dst e (some a) l.length cap hs he hd]
  have hl := run_loadCells_list (P := P) w a (l.map (Value.int .u8)) (fun j v hj => by
    have hj' : j < l.length := by
      have := (List.getElem?_eq_some_iff.1 hj).1
      simpa using this
    rw [hc j hj']
    simp [List.getElem?_eq_getElem hj'] at hj
    rw [← hj])
  simp only [List.length_map] at hl
  rw [run_bytesToString w a l.length cap _ hl, foldl_push_ints]
  have he0 : ByteArray.empty.data = #[] := rfl
  rw [he0]
  simp [strOf]

theorem run_str_nil {P : Program} (src dst e : TypeId) (hs : P.underlying src = some (.slice e)) (he : P.underlying e = some (.int .u8)) (hd : P.underlying dst = some .string)
    (w : World) (ao : Option Addr) (cap : Nat) : (convert src dst (.slice ao 0 cap)).run P w = .ok (.string (strOf [])) w := by
  cases ao with
  | none => rw [run_convert_bytes_string w src dst e none 0 cap hs he hd]; rfl
  | some a => exact run_str src dst e hs he hd w a cap [] (fun j hj => absurd hj (by simp))

/-- A new row of numbers, taken as a text; draws may stand behind it. -/
theorem run_str_new {P : Program} (src dst e : TypeId) (hs : P.underlying src = some (.slice e)) (he : P.underlying e = some (.int .u8)) (hd : P.underlying dst = some .string)
    (w W : World) (B cap n : Nat) (l : List Int) (hn : l.length = n) (hB : w.heap.size = B) (C Z : Array Value) (hC : C = (l.map (Value.int .u8)).toArray ++ Z) (hW : W.heap = (w.alloc (.cells C e)).heap) :
    (convert src dst (.slice (some ⟨B, 0, none⟩) n cap)).run P W = .ok (.string (strOf l)) W := by
  subst hn; subst hB; subst hC
  refine run_str src dst e hs he hd _ ⟨w.heap.size, 0, none⟩ cap l (fun j hj => ?_)
  have h1 := World.cell?_alloc_mark w ((l.map (Value.int .u8)).toArray ++ Z) e (0, 0) j
  have h2 : W.cell? ⟨w.heap.size, j, none⟩ = (w.alloc (.cells ((l.map (Value.int .u8)).toArray ++ Z) e)).cell? ⟨w.heap.size, j, none⟩ := by
    unfold World.cell?; rw [hW]
  rw [add_eq, Nat.zero_add, h2, h1]
  rw [Array.getElem?_append_left (by simpa using hj)]
  simp [hj]
section
variable {P : Program} (src dst e : TypeId) (hs : P.underlying src = some (.slice e)) (he : P.underlying e = some (.int .u8)) (hd : P.underlying dst = some .string)
  (w : World) (B cap : Nat) (x0 x1 x2 x3 : Int) (hB : w.heap.size = B)
include hs he hd hB
theorem run_str1 : (convert src dst (.slice (some ⟨B, 0, none⟩) 1 cap)).run P (w.alloc (.cells #[.int .u8 x0] e)) = .ok (.string (strOf [x0])) (w.alloc (.cells #[.int .u8 x0] e)) :=
  run_str_new src dst e hs he hd w _ B cap 1 [x0] rfl hB _ #[] rfl rfl
theorem run_str1d : (convert src dst (.slice (some ⟨B, 0, none⟩) 1 cap)).run P (w.alloc (.cells #[.int .u8 x0] e)).drew = .ok (.string (strOf [x0])) (w.alloc (.cells #[.int .u8 x0] e)).drew :=
  run_str_new src dst e hs he hd w _ B cap 1 [x0] rfl hB _ #[] rfl rfl
theorem run_str4 : (convert src dst (.slice (some ⟨B, 0, none⟩) 4 cap)).run P (w.alloc (.cells #[.int .u8 x0, .int .u8 x1, .int .u8 x2, .int .u8 x3] e)) =
      .ok (.string (strOf [x0, x1, x2, x3])) (w.alloc (.cells #[.int .u8 x0, .int .u8 x1, .int .u8 x2, .int .u8 x3] e)) :=
  run_str_new src dst e hs he hd w _ B cap 4 [x0, x1, x2, x3] rfl hB _ #[] rfl rfl
theorem run_str4a (Z : Array Value) : (convert src dst (.slice (some ⟨B, 0, none⟩) 4 cap)).run P (w.alloc (.cells (#[.int .u8 x0, .int .u8 x1, .int .u8 x2, .int .u8 x3] ++ Z) e)).drew =
      .ok (.string (strOf [x0, x1, x2, x3])) (w.alloc (.cells (#[.int .u8 x0, .int .u8 x1, .int .u8 x2, .int .u8 x3] ++ Z) e)).drew :=
  run_str_new src dst e hs he hd w _ B cap 4 [x0, x1, x2, x3] rfl hB _ Z rfl rfl
end

end Go.Proofs.Ytajdkbgbekdbmaa

/- A symbolic run of Go code: what the parts of a state say of a frame and of a world. No condition. -/
namespace Go.Proofs.Ytajdkbgbekdbmaa
set_option linter.unusedVariables false
set_option linter.unusedSimpArgs false
namespace E
open Go.RowKit

/-- One cell's content: a plain value; an address in a block (h: the block's handle); an address in a row of elements; a slice that a handle names; anything. -/
inductive A0 where
  | val (v : Value)
  | ptr (h j : Nat)
  | own (h : Nat)
/-- sub: a part of a row (of n elements, from off on); clo: a function with what it has captured; optr: nothing, or the address of a block; root: one of the addresses that a thing of many parts is told by (nn: it is not nil). -/
inductive At where
  | val (v : Value)
  | ptr (h j : Nat)
  | eptr (h wd i j : Nat)
  | own (h : Nat)
  | sub (h wd off n : Nat)
  | clo (f : FuncId) (caps : List A0)
  | bit (b : Bool)
  | optr (h : Nat)
  | chn (h : Nat)
  | root (h k : Nat) (nn : Bool)
  | any
inductive NV where
  | one (a : At)
  | agg (l : List At)
inductive SV where
  | nv (x : NV)
  | tup (l : List NV)
  | any

abbrev Env := Nat → Option Value
def Env.le (e e' : Env) : Prop := ∀ h v, e h = some v → e' h = some v
def Env.put (e : Env) (h : Nat) (v : Value) : Env := fun k => if k = h then some v else e k

def baseOf : Value → Option Addr
  | .pointer a => a
  | .slice a _ _ => a
  | _ => none
/-- The blocks of what a handle stands for: one, or, of a thing of many parts, those of its parts' addresses. -/
def blksOf : Value → List Nat
  | .tuple vs => vs.toList.filterMap fun u => (baseOf u).map (·.block)
  | v => ((baseOf v).map (·.block)).toList
def blk (env : Env) (h b : Nat) : Prop := match env h with
  | some v => b ∈ blksOf v
  | none => False
theorem base_mem {v : Value} {a : Addr} (h : baseOf v = some a) : a.block ∈ blksOf v := by
  cases v <;> simp_all [baseOf, blksOf]
theorem blk_congr {env env' : Env} {h k : Nat} (e : env h = env' k) : blk env h = blk env' k := by funext b; simp only [blk, e]

def A0.rel (env : Env) : A0 → Value → Prop
  | .val v, x => x = v
  | .ptr h j, x => ∃ v a, env h = some v ∧ baseOf v = some a ∧ x = .pointer (some (a.add j))
  | .own h, x => env h = some x ∧ ∃ ao n c, x = .slice ao n c
def A0s.rel (env : Env) : List A0 → List Value → Prop
  | [], [] => True
  | a :: l, v :: vs => a.rel env v ∧ A0s.rel env l vs
  | _, _ => False
def At.rel (env : Env) : At → Value → Prop
  | .val v, x => x = v
  | .ptr h j, x => ∃ v a, env h = some v ∧ baseOf v = some a ∧ x = .pointer (some (a.add j))
  | .eptr h wd i j, x => ∃ v a, env h = some v ∧ baseOf v = some a ∧ x = .pointer (some (a.add (i * wd + j)))
  | .own h, x => env h = some x ∧ ∃ ao n c, x = .slice ao n c
  | .sub h wd off n, x => ∃ ao len cap bo c, env h = some (.slice ao len cap) ∧ x = .slice bo n c ∧ n ≤ c ∧ (off = 0 → bo = ao ∧ c = cap) ∧ (0 < n → bo = ao.map (·.add (off * wd)))
  | .clo f caps, x => ∃ cs : Array Value, x = .func (.func f) #[] cs ∧ A0s.rel env caps cs.toList
  | .bit b, x => x = .bool b
  | .optr h, x => x = .pointer none ∨ ∃ v a, env h = some v ∧ baseOf v = some a ∧ x = .pointer (some (a.add 0))
  | .chn h, x => ∃ b, env h = some (.pointer (some ⟨b, 0, none⟩)) ∧ x = .chan (some b)
  | .root h k nn, x => ∃ (vs : Array Value) (ao : Option Addr), env h = some (.tuple vs) ∧ vs[k]? = some x ∧ x = .pointer ao ∧ (nn = true → ao ≠ none)
  | .any, _ => True

def AllRel (env : Env) : List At → List Value → Prop
  | [], [] => True
  | a :: l, v :: vs => a.rel env v ∧ AllRel env l vs
  | _, _ => False

def NV.rel (env : Env) : NV → Value → Prop
  | .one a, x => a.rel env x
  | .agg l, x => ∃ cs : Array Value, x = .agg cs ∧ AllRel env l cs.toList

def AllNV (env : Env) : List NV → List Value → Prop
  | [], [] => True
  | a :: l, v :: vs => a.rel env v ∧ AllNV env l vs
  | _, _ => False

def SV.rel (env : Env) : SV → Value → Prop
  | .nv x, v => x.rel env v
  | .tup l, v => ∃ vs : Array Value, v = .tuple vs ∧ AllNV env l vs.toList
  | .any, _ => True

def AllSV (env : Env) : List SV → List Value → Prop
  | [], [] => True
  | a :: l, v :: vs => a.rel env v ∧ AllSV env l vs
  | _, _ => False

def AllT : List Prop → Prop
  | [] => True
  | p :: l => p ∧ AllT l
theorem AllT.append {l m : List Prop} : AllT (l ++ m) ↔ AllT l ∧ AllT m := by
  induction l with
  | nil => simp [AllT]
  | cons p l ih => simp [AllT, ih, and_assoc]

section rel
variable {env env' : Env}

theorem A0.rel_le (h : env.le env') {a : A0} {v : Value} (k : a.rel env v) : a.rel env' v := by
  cases a with
  | val u => exact k
  | ptr m j => obtain ⟨u, a, h1, h2, h3⟩ := k; exact ⟨u, a, h _ _ h1, h2, h3⟩
  | own m => exact ⟨h _ _ k.1, k.2⟩
theorem A0s.rel_le (h : env.le env') : ∀ {l : List A0} {vs : List Value}, A0s.rel env l vs → A0s.rel env' l vs
  | [], [], _ => trivial
  | a :: l, v :: vs, k => ⟨A0.rel_le h k.1, A0s.rel_le h k.2⟩
theorem At.rel_le (h : env.le env') {a : At} {v : Value} (k : a.rel env v) : a.rel env' v := by
  cases a with
  | val u => exact k
  | ptr m j => obtain ⟨u, a, h1, h2, h3⟩ := k; exact ⟨u, a, h _ _ h1, h2, h3⟩
  | eptr m wd i j => obtain ⟨u, a, h1, h2, h3⟩ := k; exact ⟨u, a, h _ _ h1, h2, h3⟩
  | own m => exact ⟨h _ _ k.1, k.2⟩
  | sub m wd off n => obtain ⟨ao, len, cap, bo, c, h1, h2⟩ := k; exact ⟨ao, len, cap, bo, c, h _ _ h1, h2⟩
  | clo f caps => obtain ⟨cs, h1, h2⟩ := k; exact ⟨cs, h1, A0s.rel_le h h2⟩
  | bit b => exact k
  | optr m =>
    rcases k with k | ⟨u, a, h1, h2, h3⟩
    · exact .inl k
    · exact .inr ⟨u, a, h _ _ h1, h2, h3⟩
  | chn m => obtain ⟨b, h1, h2⟩ := k; exact ⟨b, h _ _ h1, h2⟩
  | root m k nn => obtain ⟨vs, a, h1, h2⟩ := k; exact ⟨vs, a, h _ _ h1, h2⟩
  | any => trivial
theorem AllRel.le (h : env.le env') : ∀ {l : List At} {vs : List Value}, AllRel env l vs → AllRel env' l vs
  | [], [], _ => trivial
  | a :: l, v :: vs, k => ⟨At.rel_le h k.1, AllRel.le h k.2⟩
theorem NV.rel_le (h : env.le env') {x : NV} {v : Value} (k : x.rel env v) : x.rel env' v := by
  cases x with
  | one a => exact At.rel_le h k
  | agg l => obtain ⟨cs, h1, h2⟩ := k; exact ⟨cs, h1, h2.le h⟩
theorem AllNV.le (h : env.le env') : ∀ {l : List NV} {vs : List Value}, AllNV env l vs → AllNV env' l vs
  | [], [], _ => trivial
  | a :: l, v :: vs, k => ⟨NV.rel_le h k.1, AllNV.le h k.2⟩
theorem SV.rel_le (h : env.le env') {x : SV} {v : Value} (k : x.rel env v) : x.rel env' v := by
  cases x with
  | nv x => exact NV.rel_le h k
  | tup l => obtain ⟨cs, h1, h2⟩ := k; exact ⟨cs, h1, h2.le h⟩
  | any => trivial
theorem Env.le_refl (e : Env) : e.le e := fun _ _ h => h
theorem Env.le_trans {a b c : Env} (h : a.le b) (k : b.le c) : a.le c := fun x v hx => k x v (h x v hx)
theorem Env.le_put {h : Nat} {v : Value} (hn : env h = none) : env.le (env.put h v) := by
  intro k u hk
  unfold Env.put
  split
  · subst_vars; rw [hn] at hk; cases hk
  · exact hk
theorem Env.put_same (h : Nat) (v : Value) : env.put h v h = some v := by simp [Env.put]
theorem Env.put_other {h k : Nat} (v : Value) (hk : k ≠ h) : env.put h v k = env k := by simp [Env.put, hk]

theorem AllRel.length : ∀ {l : List At} {vs : List Value}, AllRel env l vs → l.length = vs.length
  | [], [], _ => rfl
  | a :: l, v :: vs, k => by simp [AllRel.length k.2]
theorem AllRel.get : ∀ {l : List At} {vs : List Value} {i : Nat} {a : At}, AllRel env l vs → l[i]? = some a → ∃ v, vs[i]? = some v ∧ a.rel env v
  | a :: l, v :: vs, 0, b, k, h => by
    simp at h; subst h; exact ⟨v, by simp, k.1⟩
  | a :: l, v :: vs, i + 1, b, k, h => by
    simp at h; obtain ⟨u, h1, h2⟩ := AllRel.get k.2 h; exact ⟨u, by simpa using h1, h2⟩
theorem AllRel.drop : ∀ {l : List At} {vs : List Value} (n : Nat), AllRel env l vs → AllRel env (l.drop n) (vs.drop n)
  | l, vs, 0, k => by simpa using k
  | [], [], n + 1, k => by simp [AllRel]
  | a :: l, v :: vs, n + 1, k => by simpa using AllRel.drop n k.2
theorem AllRel.take : ∀ {l : List At} {vs : List Value} (n : Nat), AllRel env l vs → AllRel env (l.take n) (vs.take n)
  | l, vs, 0, k => by simp [AllRel]
  | [], [], n + 1, k => by simp [AllRel]
  | a :: l, v :: vs, n + 1, k => by simpa [AllRel] using ⟨k.1, AllRel.take n k.2⟩
theorem AllRel.append : ∀ {l m : List At} {vs us : List Value}, AllRel env l vs → AllRel env m us → AllRel env (l ++ m) (vs ++ us)
  | [], m, [], us, h, k => by simpa using k
  | a :: l, m, v :: vs, us, h, k => by exact ⟨h.1, AllRel.append h.2 k⟩
theorem AllRel.vals : ∀ (vs : List Value), AllRel env (vs.map .val) vs
  | [] => trivial
  | v :: vs => ⟨rfl, AllRel.vals vs⟩
theorem AllSV.length : ∀ {l : List SV} {vs : List Value}, AllSV env l vs → l.length = vs.length
  | [], [], _ => rfl
  | a :: l, v :: vs, k => by simp [AllSV.length k.2]
theorem AllSV.get : ∀ {l : List SV} {vs : List Value} {i : Nat} {a : SV}, AllSV env l vs → l[i]? = some a → ∃ v, vs[i]? = some v ∧ a.rel env v
  | a :: l, v :: vs, 0, b, k, h => by
    simp at h; subst h; exact ⟨v, by simp, k.1⟩
  | a :: l, v :: vs, i + 1, b, k, h => by
    simp at h; obtain ⟨u, h1, h2⟩ := AllSV.get k.2 h; exact ⟨u, by simpa using h1, h2⟩
theorem AllSV.set : ∀ {l : List SV} {vs : List Value} (i : Nat) {a : SV} {v : Value}, AllSV env l vs → a.rel env v → AllSV env (l.set i a) (vs.set i v)
  | [], [], i, _, _, k, h => by simp [AllSV]
  | b :: l, u :: vs, 0, _, _, k, h => ⟨h, k.2⟩
  | b :: l, u :: vs, i + 1, _, _, k, h => ⟨k.1, AllSV.set i k.2 h⟩
theorem AllSV.le (h : env.le env') : ∀ {l : List SV} {vs : List Value}, AllSV env l vs → AllSV env' l vs
  | [], [], _ => trivial
  | a :: l, v :: vs, k => ⟨SV.rel_le h k.1, AllSV.le h k.2⟩
theorem AllSV.append : ∀ {l m : List SV} {vs us : List Value}, AllSV env l vs → AllSV env m us → AllSV env (l ++ m) (vs ++ us)
  | [], m, [], us, h, k => by simpa using k
  | a :: l, m, v :: vs, us, h, k => by exact ⟨h.1, AllSV.append h.2 k⟩
theorem AllSV.anys : ∀ (vs : List Value), AllSV env (List.replicate vs.length .any) vs
  | [] => trivial
  | v :: vs => ⟨trivial, AllSV.anys vs⟩
end rel

/-- What is known of a thing of many parts: it hangs on its own blocks alone. -/
structure Abs where
  R : Array Value → World → Prop
  loc : ∀ vs w w', R vs w → (∀ b, b ∈ blksOf (.tuple vs) → w'.heap[b]? = w.heap[b]?) → R vs w'
  lt : ∀ vs w, R vs w → ∀ b, b ∈ blksOf (.tuple vs) → b < w.heap.size
  len : Nat := 0
  dat : Nat → List At := fun _ => []
/-- What is known of a handle's memory. -/
inductive Seg where
  | box (t : TypeId) (cells : List At)
  | robox (t : TypeId) (cells : List At)
  | ro (wd len : Nat) (g : Nat → List At)
  | row (e : TypeId) (wd n : Nat) (g : Nat → List At)
  | chan (cap : Nat) (buf : List Value) (closed : Bool)
  | abs (A : Abs)
  | roabs (A : Abs)
  | gone

def Seg.excl : Seg → Bool
  | .box .. | .row .. | .chan .. | .abs _ => true
  | _ => false
def Seg.live : Seg → Prop
  | .box .. | .robox .. | .row .. | .chan .. | .abs _ | .roabs _ => True
  | .ro wd len _ => 0 < len * wd
  | .gone => False

/-- n elements' cells stand, one behind the other, in a list. -/
def Elems (env : Env) (wd n : Nat) (g : Nat → List At) (cs : List Value) : Prop :=
  cs.length = n * wd ∧ (∀ i, i < n → AllRel env (g i) ((cs.drop (i * wd)).take wd)) ∧ ∀ v ∈ cs, v.oneCell' = true

def SegOk (env : Env) (w : World) (h : Nat) : Seg → Prop
  | .box t cells => ∃ b cs, env h = some (.pointer (some ⟨b, 0, none⟩)) ∧ w.heap[b]? = some (.cells cs t (0, 0)) ∧ AllRel env cells cs.toList
  | .robox t cells => ∃ b cs, env h = some (.pointer (some ⟨b, 0, none⟩)) ∧ w.heap[b]? = some (.cells cs t (0, 0)) ∧ AllRel env cells cs.toList
  | .ro wd len g => ∃ ao cap cs, env h = some (.slice ao len cap) ∧ len ≤ cap ∧ cap ≤ maxLen ∧ (ao = none → len = 0 ∧ cap = 0) ∧ Elems env wd len g cs ∧
      ∀ i v, cs[i]? = some v → ∃ a, ao = some a ∧ w.cell? (a.add i) = some v
  | .row e wd n g => ∃ v cs, env h = some v ∧ w.ownsRow 0 e wd v n cs ∧ Elems env wd n g cs
  | .chan cap buf cl => ∃ b s r, env h = some (.pointer (some ⟨b, 0, none⟩)) ∧ w.heap[b]? = some (.chan cap buf.toArray cl s r false)
  | .abs A => ∃ vs, env h = some (.tuple vs) ∧ A.R vs w
  | .roabs A => ∃ vs, env h = some (.tuple vs) ∧ A.R vs w
  | .gone => True

theorem Elems.le {env env' : Env} (h : env.le env') {wd n : Nat} {g : Nat → List At} {cs : List Value} (k : Elems env wd n g cs) : Elems env' wd n g cs :=
  ⟨k.1, fun i hi => (k.2.1 i hi).le h, k.2.2⟩
theorem SegOk.le {env env' : Env} (h : env.le env') {w : World} {m : Nat} {s : Seg} (k : SegOk env w m s) : SegOk env' w m s := by
  cases s with
  | box t cells => obtain ⟨b, cs, h1, h2, h3⟩ := k; exact ⟨b, cs, h _ _ h1, h2, h3.le h⟩
  | robox t cells => obtain ⟨b, cs, h1, h2, h3⟩ := k; exact ⟨b, cs, h _ _ h1, h2, h3.le h⟩
  | ro wd len g => obtain ⟨ao, cap, cs, h1, h2, h3, h4, h5, h6⟩ := k; exact ⟨ao, cap, cs, h _ _ h1, h2, h3, h4, h5.le h, h6⟩
  | row e wd n g => obtain ⟨v, cs, h1, h2, h3⟩ := k; exact ⟨v, cs, h _ _ h1, h2, h3.le h⟩
  | chan cap buf cl => obtain ⟨b, s, r, h1, h2⟩ := k; exact ⟨b, s, r, h _ _ h1, h2⟩
  | abs A => obtain ⟨vs, h1, h2⟩ := k; exact ⟨vs, h _ _ h1, h2⟩
  | roabs A => obtain ⟨vs, h1, h2⟩ := k; exact ⟨vs, h _ _ h1, h2⟩
  | gone => trivial

theorem ownsRow_heap {w w' : World} {B : Nat} {e : TypeId} {wd n : Nat} {v : Value} {cs : List Value} (h : w.ownsRow B e wd v n cs)
    (hh : ∀ g, v.ownBlock = some g → g < w.heap.size → w'.heap[g]? = w.heap[g]?) : w'.ownsRow B e wd v n cs := by
  refine ⟨h.1, ?_⟩
  rcases h.2 with k | ⟨g, cap, cur, rfl, h1, h2, h3⟩
  · exact .inl k
  · exact .inr ⟨g, cap, cur, rfl, h1, by rw [hh g rfl (Array.getElem?_eq_some_iff.1 h2).1]; exact h2, h3⟩

/-- A handle's memory hangs on its own block alone. -/
theorem SegOk.heap {env : Env} {w w' : World} {m : Nat} {s : Seg} (k : SegOk env w m s)
    (hh : ∀ b, blk env m b → s.live → b < w.heap.size → w'.heap[b]? = w.heap[b]?) : SegOk env w' m s := by
  cases s with
  | box t cells =>
    obtain ⟨b, cs, h1, h2, h3⟩ := k
    exact ⟨b, cs, h1, by rw [hh b (by simp [blk, h1, blksOf, baseOf]) trivial (Array.getElem?_eq_some_iff.1 h2).1]; exact h2, h3⟩
  | robox t cells =>
    obtain ⟨b, cs, h1, h2, h3⟩ := k
    exact ⟨b, cs, h1, by rw [hh b (by simp [blk, h1, blksOf, baseOf]) trivial (Array.getElem?_eq_some_iff.1 h2).1]; exact h2, h3⟩
  | ro wd len g =>
    obtain ⟨ao, cap, cs, h1, h2, h3, h4, h5, h6⟩ := k
    refine ⟨ao, cap, cs, h1, h2, h3, h4, h5, fun i v hv => ?_⟩
    obtain ⟨a, rfl, hc⟩ := h6 i v hv
    refine ⟨a, rfl, ?_⟩
    have hlt := World.block_lt_of_cell? w _ hc
    have hb : (a.add i).block = a.block := by unfold Addr.add; split <;> rfl
    rw [hb] at hlt
    have := hh a.block (by simp [blk, h1, blksOf, baseOf]) (by
      show 0 < len * wd
      have := (List.getElem?_eq_some_iff.1 hv).1
      have := h5.1
      omega) hlt
    rw [World.cell?_of_block (w := w) (by rw [hb]; exact this)]
    exact hc
  | row e wd n g =>
    obtain ⟨v, cs, h1, h2, h3⟩ := k
    exact ⟨v, cs, h1, ownsRow_heap h2 (fun b hb hlt => hh b (by
      cases v <;> simp_all [Value.ownBlock, blk, blksOf, baseOf]
      rename_i ao _ _
      cases ao <;> simp_all [Value.ownBlock]) trivial hlt), h3⟩
  | chan cap buf cl =>
    obtain ⟨b, s, r, h1, h2⟩ := k
    exact ⟨b, s, r, h1, by rw [hh b (by simp [blk, h1, blksOf, baseOf]) trivial (Array.getElem?_eq_some_iff.1 h2).1]; exact h2⟩
  | abs A =>
    obtain ⟨vs, h1, h2⟩ := k
    exact ⟨vs, h1, A.loc vs w w' h2 (fun b hb => hh b (by simpa only [blk, h1] using hb) trivial (A.lt vs w h2 b hb))⟩
  | roabs A =>
    obtain ⟨vs, h1, h2⟩ := k
    exact ⟨vs, h1, A.loc vs w w' h2 (fun b hb => hh b (by simpa only [blk, h1] using hb) trivial (A.lt vs w h2 b hb))⟩
  | gone => trivial

structure MemOk (env : Env) (mem : List Seg) (w0 w : World) (S : Nat → Prop) : Prop where
  ok : ∀ h s, mem[h]? = some s → SegOk env w h s
  top : ∀ h, mem.length ≤ h → env h = none
  sep : ∀ h k s t b, mem[h]? = some s → mem[k]? = some t → h ≠ k → s.excl = true → t.live → blk env h b → ¬ blk env k b
  own : ∀ h s b, mem[h]? = some s → s.excl = true → blk env h b → w0.heap.size ≤ b ∨ S b
  os : w.os = w0.os
  tape : w.tape = w0.tape
  output : w.output = w0.output
  grow : w0.heap.size ≤ w.heap.size
  frame : ∀ b, b < w0.heap.size → ¬ S b → w.heap[b]? = w0.heap[b]?

def NoS : Nat → Prop := fun _ => False

theorem MemOk.ext {env : Env} {mem : List Seg} {w0 w : World} (h : MemOk env mem w0 w NoS) : Ext w0 w :=
  ⟨h.os, h.tape, h.output, h.grow, fun b hb => h.frame b hb (fun k => k)⟩

theorem own_base {w : World} {B : Nat} {e : TypeId} {wd n b : Nat} {v : Value} {cs : List Value} (h : w.ownsRow B e wd v n cs) (hb : b ∈ blksOf v) : v.ownBlock = some b := by
  rcases h.2 with ⟨rfl, _⟩ | ⟨g, cap, cur, rfl, _⟩
  · simp [blksOf, baseOf] at hb
  · simp [blksOf, baseOf] at hb; simp [Value.ownBlock, hb]

/-- A live handle's block is there. -/
theorem SegOk.lt {env : Env} {w : World} {m b : Nat} {s : Seg} (k : SegOk env w m s) (hl : s.live) (hb : blk env m b) : b < w.heap.size := by
  cases s with
  | box t cells =>
    obtain ⟨b', cs, h1, h2, h3⟩ := k
    simp [blk, h1, blksOf, baseOf] at hb
    subst hb
    exact (Array.getElem?_eq_some_iff.1 h2).1
  | robox t cells =>
    obtain ⟨b', cs, h1, h2, h3⟩ := k
    simp [blk, h1, blksOf, baseOf] at hb
    subst hb
    exact (Array.getElem?_eq_some_iff.1 h2).1
  | ro wd len g =>
    obtain ⟨ao, cap, cs, h1, h2, h3, h4, h5, h6⟩ := k
    have hl : 0 < len * wd := hl
    obtain ⟨a, rfl, hc⟩ := h6 0 (cs[0]'(by rw [h5.1]; exact hl)) (by simp)
    have hlt := World.block_lt_of_cell? w _ hc
    simp [blk, h1, blksOf, baseOf] at hb
    subst hb
    simpa [Addr.add] using hlt
  | row e wd n g =>
    obtain ⟨v, cs, h1, h2, h3⟩ := k
    refine (h2.lt b ?_).2
    simp only [blk, h1] at hb
    exact own_base h2 hb
  | chan cap buf cl =>
    obtain ⟨b', s, r, h1, h2⟩ := k
    simp [blk, h1, blksOf, baseOf] at hb
    subst hb
    exact (Array.getElem?_eq_some_iff.1 h2).1
  | abs A =>
    obtain ⟨vs, h1, h2⟩ := k
    exact A.lt vs w h2 b (by simpa only [blk, h1] using hb)
  | roabs A =>
    obtain ⟨vs, h1, h2⟩ := k
    exact A.lt vs w h2 b (by simpa only [blk, h1] using hb)
  | gone => exact hl.elim

theorem excl_live {s : Seg} (h : s.excl = true) : s.live := by
  cases s <;> simp_all [Seg.excl, Seg.live]

/-- What a callee leaves, that writes to no old block. -/
theorem MemOk.trans {env : Env} {mem : List Seg} {w0 w w' : World} {S : Nat → Prop} (h : MemOk env mem w0 w S) (k : Ext w w') : MemOk env mem w0 w' S where
  ok := fun m s hm => (h.ok m s hm).heap (fun b _ _ hlt => k.block b hlt)
  top := h.top
  sep := h.sep
  own := h.own
  os := k.os.trans h.os
  tape := k.tape.trans h.tape
  output := k.output.trans h.output
  grow := Nat.le_trans h.grow k.size
  frame := fun b hb hS => (k.block b (Nat.lt_of_lt_of_le hb h.grow)).trans (h.frame b hb hS)

theorem blk_put_same (env : Env) (h : Nat) (v : Value) (b : Nat) : blk (env.put h v) h b = (b ∈ blksOf v) := by simp [blk, Env.put]
theorem blk_put_other (env : Env) {h k : Nat} (v : Value) (hk : k ≠ h) (b : Nat) : blk (env.put h v) k b = blk env k b := by simp [blk, Env.put, hk]

/-- A new block with a handle of its own. -/
theorem MemOk.push {env : Env} {mem : List Seg} {w0 w : World} {S : Nat → Prop} (h : MemOk env mem w0 w S) (o : Obj) (v : Value) (s : Seg)
    (hv : blksOf v = [w.heap.size]) (hs : SegOk (env.put mem.length v) (w.alloc o) mem.length s) :
    MemOk (env.put mem.length v) (mem ++ [s]) w0 (w.alloc o) S := by
  have hnone := h.top mem.length (Nat.le_refl _)
  have hle : env.le (env.put mem.length v) := Env.le_put hnone
  have hk : Ext w (w.alloc o) := (Ext.refl w).alloc o
  have old : ∀ m t, mem[m]? = some t → m ≠ mem.length := fun m t hm e => by
    have := (List.getElem?_eq_some_iff.1 hm).1; omega
  have get : ∀ m t, (mem ++ [s])[m]? = some t → mem[m]? = some t ∨ (m = mem.length ∧ t = s) := by
    intro m t hm
    by_cases hlt : m < mem.length
    · rw [List.getElem?_append_left hlt] at hm; exact .inl hm
    · have : m < (mem ++ [s]).length := (List.getElem?_eq_some_iff.1 hm).1
      simp at this
      have e : m = mem.length := by omega
      subst e
      simp at hm
      exact .inr ⟨rfl, hm.symm⟩
  refine ⟨?_, ?_, ?_, ?_, h.os, h.tape, h.output, Nat.le_trans h.grow (by simp), ?_⟩
  · intro m t hm
    rcases get m t hm with hm | ⟨rfl, rfl⟩
    · exact ((h.ok m t hm).heap (fun b _ _ hlt => hk.block b hlt)).le hle
    · exact hs
  · intro m hm
    simp at hm
    rw [Env.put_other _ (by omega)]
    exact h.top m (by omega)
  · intro m k a t b hm0 hk0 hne hx hl hb
    rcases get m a hm0 with hm | ⟨em, ea⟩ <;> rcases get k t hk0 with hk' | ⟨ek, et⟩
    · rw [blk_put_other _ _ (old m a hm)] at hb
      rw [blk_put_other _ _ (old k t hk')]
      exact h.sep m k a t b hm hk' hne hx hl hb
    · subst ek
      rw [blk_put_other _ _ (old m a hm)] at hb
      rw [blk_put_same, hv]
      have := (h.ok m a hm).lt (excl_live hx) hb
      intro e; simp at e; omega
    · subst em
      rw [blk_put_same, hv] at hb
      rw [blk_put_other _ _ (old k t hk')]
      intro e
      have := (h.ok k t hk').lt hl e
      simp at hb; omega
    · exact absurd (em.trans ek.symm) hne
  · intro m a b hm hx hb
    rcases get m a hm with hm | ⟨rfl, rfl⟩
    · rw [blk_put_other _ _ (old m a hm)] at hb
      exact h.own m a b hm hx hb
    · rw [blk_put_same, hv] at hb
      simp at hb
      have := h.grow
      exact .inl (by omega)
  · intro b hb hS
    rw [hk.block b (Nat.lt_of_lt_of_le hb h.grow)]
    exact h.frame b hb hS

theorem MemOk.pad {env : Env} {mem : List Seg} {w0 w : World} {S : Nat → Prop} (h : MemOk env mem w0 w S) : MemOk env (mem ++ [.gone]) w0 w S := by
  have get : ∀ (m : Nat) (t : Seg), (mem ++ [Seg.gone])[m]? = some t → mem[m]? = some t ∨ t = Seg.gone := by
    intro m t hm
    by_cases hlt : m < mem.length
    · rw [List.getElem?_append_left hlt] at hm; exact .inl hm
    · have : m < (mem ++ [Seg.gone]).length := (List.getElem?_eq_some_iff.1 hm).1
      simp at this
      have e : m = mem.length := by omega
      subst e
      simp at hm
      exact .inr hm.symm
  refine ⟨?_, ?_, ?_, ?_, h.os, h.tape, h.output, h.grow, h.frame⟩
  · intro m t hm
    rcases get m t hm with hm | rfl
    · exact h.ok m t hm
    · trivial
  · intro m hm; simp at hm; exact h.top m (by omega)
  · intro m k a t b hm0 hk0 hne hx hl hb
    rcases get m a hm0 with hm | rfl
    · rcases get k t hk0 with hk | rfl
      · exact h.sep m k a t b hm hk hne hx hl hb
      · exact hl.elim
    · cases hx
  · intro m a b hm hx hb
    rcases get m a hm with hm | rfl
    · exact h.own m a b hm hx hb
    · cases hx

/-- A handle that had nothing has a new block, or one that nobody else has (b0). -/
theorem MemOk.fill2 {env : Env} {mem : List Seg} {w0 w w' : World} {S : Nat → Prop} (h : MemOk env mem w0 w S) (nh : Nat) (v : Value) (s : Seg) (hg : mem[nh]? = some .gone) (hn : env nh = none) (b0 : Option Nat)
    (hos : w'.os = w.os) (htape : w'.tape = w.tape) (hout : w'.output = w.output) (hsize : w.heap.size ≤ w'.heap.size) (hold : ∀ k, k < w.heap.size → some k ≠ b0 → w'.heap[k]? = w.heap[k]?)
    (hfree : ∀ k t b, b0 = some b → mem[k]? = some t → t.live → ¬ blk env k b) (hown : ∀ b, b0 = some b → w0.heap.size ≤ b ∨ S b)
    (hv : ∀ b, b ∈ blksOf v → b0 = some b ∨ w.heap.size ≤ b) (hs : SegOk (env.put nh v) w' nh s) :
    MemOk (env.put nh v) (mem.set nh s) w0 w' S := by
  have hle : env.le (env.put nh v) := Env.le_put hn
  have hlt : nh < mem.length := (List.getElem?_eq_some_iff.1 hg).1
  have get : ∀ k t, (mem.set nh s)[k]? = some t → (k = nh ∧ t = s) ∨ (k ≠ nh ∧ mem[k]? = some t) := by
    intro k t hk
    by_cases e : k = nh
    · subst e
      rw [List.getElem?_set_self hlt] at hk
      exact .inl ⟨rfl, (Option.some.inj hk).symm⟩
    · rw [List.getElem?_set_ne (Ne.symm e)] at hk
      exact .inr ⟨e, hk⟩
  refine ⟨?_, ?_, ?_, ?_, hos.trans h.os, htape.trans h.tape, hout.trans h.output, Nat.le_trans h.grow hsize, ?_⟩
  · intro m t hm
    rcases get m t hm with ⟨rfl, rfl⟩ | ⟨hne, hm⟩
    · exact hs
    · exact ((h.ok m t hm).heap (fun b hb hl hbl => hold b hbl (fun e => hfree m t b e.symm hm hl hb))).le hle
  · intro m hm
    simp at hm
    rw [Env.put_other _ (by omega)]
    exact h.top m hm
  · intro m k a t b hm0 hk0 hne hx hl hb
    rcases get m a hm0 with ⟨em, ea⟩ | ⟨hmn, hm⟩ <;> rcases get k t hk0 with ⟨ek, et⟩ | ⟨hkn, hk'⟩
    · exact absurd (em.trans ek.symm) hne
    · subst em
      rw [blk_put_same] at hb
      rw [blk_put_other _ _ hkn]
      intro e
      rcases hv b hb with h0 | h0
      · exact hfree k t b h0 hk' hl e
      · have := (h.ok k t hk').lt hl e
        omega
    · subst ek
      rw [blk_put_other _ _ hmn] at hb
      rw [blk_put_same]
      intro e
      rcases hv b e with h0 | h0
      · exact hfree m a b h0 hm (excl_live hx) hb
      · have := (h.ok m a hm).lt (excl_live hx) hb
        omega
    · rw [blk_put_other _ _ hmn] at hb
      rw [blk_put_other _ _ hkn]
      exact h.sep m k a t b hm hk' hne hx hl hb
  · intro m a b hm hx hb
    rcases get m a hm with ⟨rfl, rfl⟩ | ⟨hne, hm⟩
    · rw [blk_put_same] at hb
      rcases hv b hb with h0 | h0
      · exact hown b h0
      · have := h.grow
        exact .inl (by omega)
    · rw [blk_put_other _ _ hne] at hb
      exact h.own m a b hm hx hb
  · intro b hb hS
    rw [hold b (Nat.lt_of_lt_of_le hb h.grow) (fun e => by
      rcases hown b e.symm with k | k
      · omega
      · exact hS k)]
    exact h.frame b hb hS

/-- A new block under a handle that had nothing. -/
theorem MemOk.fill {env : Env} {mem : List Seg} {w0 w w' : World} {S : Nat → Prop} (h : MemOk env mem w0 w S) (nh : Nat) (v : Value) (s : Seg) (hg : mem[nh]? = some .gone) (hn : env nh = none)
    (hk : Ext w w') (hv : ∀ b, b ∈ blksOf v → w.heap.size ≤ b) (hs : SegOk (env.put nh v) w' nh s) :
    MemOk (env.put nh v) (mem.set nh s) w0 w' S :=
  h.fill2 nh v s hg hn none hk.os hk.tape hk.output hk.size (fun k hl _ => hk.block k hl) (fun _ _ _ e => by cases e) (fun _ e => by cases e) (fun b hb => .inr (hv b hb)) hs

/-- Of a handle nothing is known any more. -/
theorem MemOk.drop {env : Env} {mem : List Seg} {w0 w : World} {S : Nat → Prop} (h : MemOk env mem w0 w S) (m : Nat) : MemOk env (mem.set m .gone) w0 w S := by
  have get : ∀ (k : Nat) (t : Seg), (mem.set m .gone)[k]? = some t → t = Seg.gone ∨ (k ≠ m ∧ mem[k]? = some t) := by
    intro k t hk
    by_cases e : k = m
    · subst e
      by_cases hlt : k < mem.length
      · rw [List.getElem?_set_self hlt] at hk; exact .inl (Option.some.inj hk).symm
      · rw [List.getElem?_eq_none (by simp; omega)] at hk; cases hk
    · rw [List.getElem?_set_ne (Ne.symm e)] at hk
      exact .inr ⟨e, hk⟩
  refine ⟨?_, ?_, ?_, ?_, h.os, h.tape, h.output, h.grow, h.frame⟩
  · intro k t hk
    rcases get k t hk with rfl | ⟨_, hk⟩
    · trivial
    · exact h.ok k t hk
  · intro k hk; simp at hk; exact h.top k hk
  · intro k l a t b hk0 hl0 hne hx hl hb
    rcases get k a hk0 with rfl | ⟨_, hk⟩
    · cases hx
    · rcases get l t hl0 with rfl | ⟨_, hl'⟩
      · exact hl.elim
      · exact h.sep k l a t b hk hl' hne hx hl hb
  · intro k a b hk hx hb
    rcases get k a hk with rfl | ⟨_, hk⟩
    · cases hx
    · exact h.own k a b hk hx hb

/-- A handle's memory is another; the other blocks are as they were. -/
theorem MemOk.write {env : Env} {mem : List Seg} {w0 w w' : World} {S : Nat → Prop} (h : MemOk env mem w0 w S) (m : Nat) (s s' : Seg) (b : Nat) (hm : mem[m]? = some s) (hb : blk env m b) (hx : s.excl = true)
    (hos : w'.os = w.os) (htape : w'.tape = w.tape) (hout : w'.output = w.output) (hsize : w.heap.size ≤ w'.heap.size)
    (hold : ∀ k, k < w.heap.size → k ≠ b → w'.heap[k]? = w.heap[k]?) (hs : SegOk env w' m s') : MemOk env (mem.set m s') w0 w' S := by
  have get : ∀ k t, (mem.set m s')[k]? = some t → (k = m ∧ t = s') ∨ (k ≠ m ∧ mem[k]? = some t) := by
    intro k t hk
    by_cases e : k = m
    · subst e
      rw [List.getElem?_set_self (List.getElem?_eq_some_iff.1 hm).1] at hk
      exact .inl ⟨rfl, (Option.some.inj hk).symm⟩
    · rw [List.getElem?_set_ne (Ne.symm e)] at hk
      exact .inr ⟨e, hk⟩
  refine ⟨?_, ?_, ?_, ?_, hos.trans h.os, htape.trans h.tape, hout.trans h.output, Nat.le_trans h.grow hsize, ?_⟩
  · intro k t hk
    rcases get k t hk with ⟨rfl, rfl⟩ | ⟨hne, hk⟩
    · exact hs
    · refine (h.ok k t hk).heap (fun c hc hl hlt => hold c hlt ?_)
      intro e; subst e
      exact h.sep m k s t c hm hk (Ne.symm hne) hx hl hb hc
  · intro k hk; simp at hk; exact h.top k hk
  · intro k l a t c hk0 hl0 hne hxa hlt hc
    rcases get k a hk0 with ⟨ek, ea⟩ | ⟨hnk, hk⟩ <;> rcases get l t hl0 with ⟨el, et⟩ | ⟨hnl, hl⟩
    · exact absurd (ek.trans el.symm) hne
    · subst ek; exact h.sep k l s t c hm hl hne hx hlt hc
    · subst el; exact h.sep k l a s c hk hm hne hxa (excl_live hx) hc
    · exact h.sep k l a t c hk hl hne hxa hlt hc
  · intro k a c hk hxa hc
    rcases get k a hk with ⟨rfl, rfl⟩ | ⟨hnk, hk⟩
    · exact h.own k s c hm hx hc
    · exact h.own k a c hk hxa hc
  · intro c hc hS
    rw [hold c (Nat.lt_of_lt_of_le hc h.grow) (by
      intro e; subst e
      rcases h.own m s c hm hx hb with k | k
      · omega
      · exact hS k)]
    exact h.frame c hc hS
end E
end Go.Proofs.Ytajdkbgbekdbmaa

/- A symbolic run of Go code: the operations that touch no memory. No condition. -/
namespace Go.Proofs.Ytajdkbgbekdbmaa
set_option linter.unusedVariables false
set_option linter.unusedSimpArgs false
namespace E
open Go.RowKit

def ofConst : Value → SV
  | .agg cs => .nv (.agg (cs.toList.map .val))
  | .tuple _ => .any
  | v => .nv (.one (.val v))

def get (tm : List SV) : Operand → SV
  | .tmp t => tm.getD t .any
  | .const v => ofConst v
  | .func f => .nv (.one (.val (.func (.func f) #[] #[])))
  | .global g => .nv (.one (.val (.pointer (some ⟨g, 0, none⟩))))

theorem ofConst_rel (env : Env) (v : Value) : (ofConst v).rel env v := by
  unfold ofConst
  split
  · exact ⟨_, rfl, AllRel.vals _⟩
  · trivial
  · rfl

theorem get_rel {env : Env} {tm : List SV} {a : Act} (h : AllSV env tm a.tmps.toList) (x : Operand) : (get tm x).rel env (a.eval x) := by
  cases x with
  | tmp t =>
    show (tm.getD t .any).rel env (a.tmps.getD t undef)
    by_cases ht : t < tm.length
    · obtain ⟨v, h1, h2⟩ := h.get (List.getElem?_eq_getElem ht)
      have : a.tmps.getD t undef = v := by
        have h1' : a.tmps[t]? = some v := by simpa using h1
        rw [Array.getD_eq_getD_getElem?, h1']; rfl
      rw [this, List.getD_eq_getElem?_getD, List.getElem?_eq_getElem ht]
      exact h2
    · rw [List.getD_eq_getElem?_getD, List.getElem?_eq_none (Nat.le_of_not_lt ht)]
      trivial
  | const v => exact ofConst_rel env v
  | func f => rfl
  | global g => rfl

/-! plain values -/

def evInt (op : BinOp) (k : IntKind) (a b : Int) : Option (Value × List Prop) :=
  match op with
  | .add => some (.int k (k.wrap (a + b)), [])
  | .sub => some (.int k (k.wrap (a - b)), [])
  | .mul => some (.int k (k.wrap (a * b)), [])
  | .quo => some (.int k (k.wrap (a.tdiv b)), [b ≠ 0])
  | .rem => some (.int k (a.tmod b), [b ≠ 0])
  | .and => some (.int k (bits .and k a b), [])
  | .or => some (.int k (bits .or k a b), [])
  | .xor => some (.int k (bits .xor k a b), [])
  | .andNot => some (.int k (bits .andNot k a b), [])
  | .eql => some (.bool (a == b), [])
  | .neq => some (.bool (a != b), [])
  | .lss => some (.bool (decide (a < b)), [])
  | .leq => some (.bool (decide (a ≤ b)), [])
  | .gtr => some (.bool (decide (a > b)), [])
  | .geq => some (.bool (decide (a ≥ b)), [])
  | _ => none

def evBin (P : Program) (op : BinOp) (t : TypeId) : Value → Value → Option (Value × List Prop)
  | .int k a, .int k' b =>
    match op with
    | .shl => some (.int k (k.wrap (a * 2 ^ min b.toNat k.bits)), [0 ≤ b])
    | .shr => some (.int k (a.fdiv (2 ^ min b.toNat k.bits)), [0 ≤ b])
    | op => if k = k' then evInt op k a b else none
  | .bool a, .bool b =>
    match P.underlying t, op with
    | some .bool, .eql => some (.bool (a == b), [])
    | some .bool, .neq => some (.bool (!(a == b)), [])
    | _, _ => none
  | .string a, .string b =>
    match op with
    | .add => some (.string (a ++ b), [((a.size + b.size : Nat) : Int) ≤ IntKind.i64.max])
    | .eql => some (.bool (a.toList == b.toList), [])
    | .neq => some (.bool (!(a.toList == b.toList)), [])
    | .lss => some (.bool (Op.bytesLess a.toList b.toList), [])
    | _ => none
  | .pointer none, .pointer none =>
    match P.underlying t, op with
    | some (.pointer _), .eql => some (.bool true, [])
    | some (.pointer _), .neq => some (.bool false, [])
    | _, _ => none
  | .slice none _ _, .slice none _ _ =>
    match P.underlying t, op with
    | some (.slice _), .eql => some (.bool true, [])
    | some (.slice _), .neq => some (.bool false, [])
    | _, _ => none
  | _, _ => none

theorem run_eql_nil {P : Program} {t e : TypeId} (hu : P.underlying t = some (.pointer e)) (w : World) : (Op.equal t (.pointer none) (.pointer none)).run P w = .ok true w := by
  show (Op.equalIn (9999 + 1) t _ _).run P w = _
  unfold Op.equalIn
  simp only [Sem.run_bind, run_underlying hu, Result.andThen_ok]
  rfl
theorem run_eql_nils {P : Program} {t e : TypeId} (hu : P.underlying t = some (.slice e)) (a b c d : Nat) (w : World) : (Op.equal t (.slice none a b) (.slice none c d)).run P w = .ok true w := by
  show (Op.equalIn (9999 + 1) t _ _).run P w = _
  unfold Op.equalIn
  simp only [Sem.run_bind, run_underlying hu, Result.andThen_ok]
  rfl
theorem run_eql_bool {P : Program} {t : TypeId} (hu : P.underlying t = some .bool) (a b : Bool) (w : World) : (Op.equal t (.bool a) (.bool b)).run P w = .ok (a == b) w :=
  run_equalIn_bool' w 9999 t a b hu

theorem run_evInt {P : Program} {op : BinOp} {k : IntKind} {a b : Int} {t : TypeId} {v : Value} {obl : List Prop} (h : evInt op k a b = some (v, obl)) (ho : AllT obl) (w : World) :
    (binOp op t (.int k a) (.int k b)).run P w = .ok v w := by
  cases op <;> simp only [evInt, reduceCtorEq, Option.some.injEq, Prod.mk.injEq] at h
  all_goals obtain ⟨rfl, rfl⟩ := h
  all_goals simp only [binOp, Op.intArith, Op.intDiv, Op.intBits, Op.intCmp, bits, ne_eq, not_true_eq_false, if_false, Sem.run_pure]
  all_goals first | rfl | (simp only [AllT, ne_eq, and_true] at ho; rw [if_neg ho]; rfl)

theorem run_evBin {P : Program} {op : BinOp} {t : TypeId} {x y v : Value} {obl : List Prop} (h : evBin P op t x y = some (v, obl)) (ho : AllT obl) (X Y : Operand) (w : World) :
    (do eqGuard op t X Y x y; binOp op t x y : Sem Value).run P w = .ok v w := by
  have hg : (eqGuard op t X Y x y).run P w = .ok () w := by
    unfold evBin at h
    unfold eqGuard
    split at h <;> first
      | (split <;> simp; done)
      | cases h
  rw [Sem.run_bind, hg, Result.andThen_ok]
  unfold evBin at h
  split at h
  · rename_i k a k' b
    split at h
    · simp only [Option.some.injEq, Prod.mk.injEq] at h
      obtain ⟨rfl, rfl⟩ := h
      simp only [AllT, and_true] at ho
      simp only [binOp, Op.shift]
      rw [if_neg (by omega)]; rfl
    · simp only [Option.some.injEq, Prod.mk.injEq] at h
      obtain ⟨rfl, rfl⟩ := h
      simp only [AllT, and_true] at ho
      simp only [binOp, Op.shift]
      rw [if_neg (by omega)]; rfl
    · split at h
      · rename_i e; subst e; exact run_evInt h ho w
      · cases h
  · split at h
    · rename_i hu
      simp only [Option.some.injEq, Prod.mk.injEq] at h
      obtain ⟨rfl, rfl⟩ := h
      simp only [binOp, Sem.run_bind, run_eql_bool hu, Result.andThen_ok, Sem.run_pure]
    · rename_i hu
      simp only [Option.some.injEq, Prod.mk.injEq] at h
      obtain ⟨rfl, rfl⟩ := h
      simp only [binOp, Sem.run_bind, run_eql_bool hu, Result.andThen_ok, Sem.run_pure]
    · cases h
  · split at h
    · simp only [Option.some.injEq, Prod.mk.injEq] at h
      obtain ⟨rfl, rfl⟩ := h
      simp only [AllT, and_true] at ho
      simp only [binOp, Op.stringOp]
      rw [if_neg (by omega)]; rfl
    all_goals first
      | (simp only [Option.some.injEq, Prod.mk.injEq] at h
         obtain ⟨rfl, rfl⟩ := h
         simp [binOp, Op.stringOp]; done)
      | cases h
  · split at h
    · rename_i hu
      simp only [Option.some.injEq, Prod.mk.injEq] at h
      obtain ⟨rfl, rfl⟩ := h
      simp only [binOp, Sem.run_bind, run_eql_nil hu, Result.andThen_ok, Sem.run_pure]
    · rename_i hu
      simp only [Option.some.injEq, Prod.mk.injEq] at h
      obtain ⟨rfl, rfl⟩ := h
      simp only [binOp, Sem.run_bind, run_eql_nil hu, Result.andThen_ok, Sem.run_pure]; rfl
    · cases h
  · split at h
    · rename_i hu
      simp only [Option.some.injEq, Prod.mk.injEq] at h
      obtain ⟨rfl, rfl⟩ := h
      simp only [binOp, Sem.run_bind, run_eql_nils hu, Result.andThen_ok, Sem.run_pure]
    · rename_i hu
      simp only [Option.some.injEq, Prod.mk.injEq] at h
      obtain ⟨rfl, rfl⟩ := h
      simp only [binOp, Sem.run_bind, run_eql_nils hu, Result.andThen_ok, Sem.run_pure]; rfl
    · cases h
  · cases h

def evUn (op : UnOp) : Value → Option Value
  | .int k n =>
    match op with
    | .neg => some (.int k (k.wrap (0 - n)))
    | .xor => some (.int k (bits .xor k (if k.signed then -1 else k.max) n))
    | _ => none
  | .bool b =>
    match op with
    | .not => some (.bool !b)
    | _ => none
  | _ => none
theorem run_evUn {P : Program} {op : UnOp} {x v : Value} (h : evUn op x = some v) (w : World) : (Op.unary op x).run P w = .ok v w := by
  unfold evUn at h
  split at h
  · split at h <;> first | (simp only [Option.some.injEq] at h; subst h; rfl) | cases h
  · split at h <;> first | (simp only [Option.some.injEq] at h; subst h; rfl) | cases h
  · cases h

def evConv (P : Program) (src dst : TypeId) : Value → Option Value
  | .int k n => if (P.underlying src).isSome then match P.underlying dst with | some (.int k') => some (.int k' (k'.wrap n)) | _ => none else none
  | .string s => if (P.underlying src).isSome then match P.underlying dst with | some .string => some (.string s) | _ => none else none
  | _ => none
theorem run_evConv {P : Program} {src dst : TypeId} {x v : Value} (h : evConv P src dst x = some v) (w : World) : (convert src dst x).run P w = .ok v w := by
  unfold evConv at h
  split at h
  · split at h
    · rename_i hs
      split at h
      · rename_i k' hd
        simp only [Option.some.injEq] at h; subst h
        obtain ⟨d, hs⟩ := Option.isSome_iff_exists.1 hs
        unfold convert
        simp only [Sem.run_bind, run_underlying hs, Result.andThen_ok, run_underlying hd]
        rfl
      · cases h
    · cases h
  · split at h
    · rename_i hs
      split at h
      · rename_i hd
        simp only [Option.some.injEq] at h; subst h
        obtain ⟨d, hs⟩ := Option.isSome_iff_exists.1 hs
        unfold convert
        simp only [Sem.run_bind, run_underlying hs, Result.andThen_ok, run_underlying hd]
        rfl
      · cases h
    · cases h
  · cases h

/-! parts of aggregates -/

def isAggB (P : Program) (t : TypeId) : Option Bool :=
  match P.underlying t with
  | some (.struct _) => some true
  | some (.array _ _) => some true
  | some _ => some false
  | none => none
theorem run_isAggB {P : Program} {t : TypeId} {b : Bool} (h : isAggB P t = some b) (w : World) : (isAgg t).run P w = .ok b w := by
  unfold isAggB at h
  unfold isAgg
  split at h
  · rename_i hu; simp only [Option.some.injEq] at h; subst h; simp [run_underlying hu]
  · rename_i hu; simp only [Option.some.injEq] at h; subst h; simp [run_underlying hu]
  · rename_i d n1 n2 hu
    simp only [Option.some.injEq] at h; subst h
    simp only [Sem.run_bind, run_underlying hu, Result.andThen_ok]
    cases d <;> first | rfl | exact (n1 _ rfl).elim | exact (n2 _ _ rfl).elim
  · cases h

theorem info_of_underlying {P : Program} {t : TypeId} {d : TypeDesc} (h : P.underlying t = some d) : ∃ i, P.info? t = some i := by
  unfold Program.underlying at h
  split at h
  · exact ⟨_, by assumption⟩
  · exact ⟨_, by assumption⟩
  · cases h
theorem run_sizeOf' {P : Program} {t : TypeId} {d : TypeDesc} (h : P.underlying t = some d) (w : World) : (sizeOf t).run P w = .ok (P.cellsOf t) w := by
  obtain ⟨i, hi⟩ := info_of_underlying h
  unfold sizeOf typeInfo
  simp [hi, Program.cellsOf]
theorem run_sizeOf_agg {P : Program} {t : TypeId} {b : Bool} (h : isAggB P t = some b) (w : World) : (sizeOf t).run P w = .ok (P.cellsOf t) w := by
  cases hu : P.underlying t with
  | none => simp [isAggB, hu] at h
  | some d => exact run_sizeOf' hu w

def evPart (P : Program) (t : TypeId) (l : List At) (off : Nat) : Option NV :=
  match isAggB P t with
  | some true => some (.agg ((l.drop off).take (P.cellsOf t)))
  | some false => match l[off]? with
    | some x => some (.one x)
    | none => none
  | none => none
theorem extract_toList (cs : Array Value) (a n : Nat) : (cs.extract a (a + n)).toList = (cs.toList.drop a).take n := by
  simp [List.extract]
theorem run_evPart {P : Program} {env : Env} {t : TypeId} {l : List At} {off : Nat} {r : NV} {cs : Array Value} (h : evPart P t l off = some r) (hl : AllRel env l cs.toList) (w : World) :
    ∃ v, (part t cs off).run P w = .ok v w ∧ r.rel env v := by
  unfold evPart at h
  unfold part
  split at h
  · rename_i hb
    simp only [Option.some.injEq] at h; subst h
    refine ⟨.agg (cs.extract off (off + P.cellsOf t)), ?_, _, rfl, ?_⟩
    · simp [run_isAggB hb, run_sizeOf_agg hb]
    · rw [extract_toList]; exact (hl.drop off).take _
  · rename_i hb
    split at h
    · rename_i x hx
      simp only [Option.some.injEq] at h; subst h
      obtain ⟨v, h1, h2⟩ := hl.get hx
      refine ⟨v, ?_, h2⟩
      have h1' : cs[off]? = some v := by simpa using h1
      simp [run_isAggB hb, h1']
    · cases h
  · cases h

def evField (P : Program) (t : TypeId) (l : List At) (i : Nat) : Option NV :=
  match P.underlying t with
  | some (.struct fs) => match fs[i]? with
    | some f => evPart P f.type l f.offset
    | none => none
  | _ => none
theorem run_evField {P : Program} {env : Env} {t : TypeId} {l : List At} {i : Nat} {r : NV} {v : Value} (h : evField P t l i = some r) (hl : NV.rel env (.agg l) v) (w : World) :
    ∃ u, (Instr.field t v i).run P w = .ok u w ∧ r.rel env u := by
  obtain ⟨cs, rfl, hl⟩ := hl
  unfold evField at h
  split at h
  · rename_i fs hu
    split at h
    · rename_i f hf
      obtain ⟨u, h1, h2⟩ := run_evPart h hl w
      refine ⟨u, ?_, h2⟩
      unfold Instr.field
      simp [run_underlying hu, hf, asAgg, h1]
    · cases h
  · cases h

def _root_.Go.Proofs.Ytajdkbgbekdbmaa.byteAt (s : ByteArray) (i : Int) : Int := ((s.data.toList.getD i.toNat 0).toNat : Int)

def evIndex (P : Program) (t : TypeId) (x : NV) (i : Int) : Option (NV × List Prop) :=
  match P.underlying t, x with
  | some (.array n e), .agg l =>
    match P.underlying e with
    | some _ => match evPart P e l (i.toNat * P.cellsOf e) with
      | some r => some (r, [0 ≤ i, i < n])
      | none => none
    | none => none
  | some .string, .one (.val (.string s)) => some (.one (.val (.int .u8 (byteAt s i))), [0 ≤ i, i < s.size])
  | _, _ => none
theorem run_evIndex {P : Program} {env : Env} {t : TypeId} {x : NV} {k : IntKind} {i : Int} {r : NV} {obl : List Prop} {v : Value} (h : evIndex P t x i = some (r, obl)) (ho : AllT obl) (hl : NV.rel env x v) (w : World) :
    ∃ u, (Instr.index t v (.int k i)).run P w = .ok u w ∧ r.rel env u := by
  unfold evIndex at h
  split at h
  · rename_i n e l hu
    obtain ⟨cs, rfl, hl⟩ := hl
    split at h
    · rename_i d hd
      split at h
      · rename_i r' hp
        simp only [Option.some.injEq, Prod.mk.injEq] at h
        obtain ⟨rfl, rfl⟩ := h
        simp only [AllT, and_true] at ho
        obtain ⟨u, h1, h2⟩ := run_evPart hp hl w
        refine ⟨u, ?_, h2⟩
        unfold Instr.index
        simp [asIntOf, run_underlying hu, ho.1, ho.2, run_sizeOf' hd, h1]
      · cases h
    · cases h
  · rename_i s hu
    simp only [Option.some.injEq, Prod.mk.injEq] at h
    obtain ⟨rfl, rfl⟩ := h
    simp only [AllT, and_true] at ho
    have hv : v = .string s := hl
    subst hv
    refine ⟨_, ?_, rfl⟩
    have hlt : i.toNat < s.size := by omega
    have hb : byteAt s i = ((s[i.toNat]'hlt).toNat : Int) := by
      unfold byteAt
      rw [List.getD_eq_getElem?_getD, List.getElem?_eq_getElem (by simpa using hlt)]
      rfl
    unfold Instr.index
    simp [asIntOf, run_underlying hu, ho.1, hb, hlt]
  · cases h

/-! equality of aggregates -/

def evEqCell : TypeDesc → At → At → Option Bool
  | .bool, .val (.bool a), .val (.bool b) => some (a == b)
  | .int _, .val (.int k a), .val (.int k' b) => if k = k' then some (a == b) else none
  | .string, .val (.string a), .val (.string b) => some (a.toList == b.toList)
  | _, _, _ => none

def evEqFs (P : Program) (eq : TypeId → NV → NV → Option Bool) (l m : List At) : List Field → Option Bool
  | [] => some true
  | f :: fs =>
    if f.name ≠ "_" then
      match evPart P f.type l f.offset, evPart P f.type m f.offset with
      | some a, some b => match eq f.type a b, evEqFs P eq l m fs with
        | some r, some s => some (r && s)
        | _, _ => none
      | _, _ => none
    else evEqFs P eq l m fs
def evEq (P : Program) : Nat → TypeId → NV → NV → Option Bool
  | 0, _, _, _ => none
  | d + 1, t, x, y =>
    match P.underlying t, x, y with
    | some (.struct fs), .agg l, .agg m => if P.stoodInHeld t then none else evEqFs P (evEq P d) l m fs.toList
    | some u, .one a, .one b => evEqCell u a b
    | _, _, _ => none

theorem run_evEqCell {P : Program} {env : Env} {t : TypeId} {u : TypeDesc} {a b : At} {x y : Value} {r : Bool} (hu : P.underlying t = some u) (h : evEqCell u a b = some r) (ha : a.rel env x) (hb : b.rel env y) (d : Nat) (w : World) :
    (Op.equalIn (d + 1) t x y).run P w = .ok r w := by
  unfold evEqCell at h
  split at h
  · simp only [Option.some.injEq] at h; subst h
    cases ha; cases hb
    exact run_equalIn_bool' w d t _ _ hu
  · split at h
    · rename_i e
      subst e
      simp only [Option.some.injEq] at h; subst h
      cases ha; cases hb
      exact run_equalIn_int w d t _ _ _ _ hu
    · cases h
  · simp only [Option.some.injEq] at h; subst h
    cases ha; cases hb
    exact run_equalIn_string w d t _ _ hu
  · cases h

theorem evEq_sound {P : Program} {env : Env} : ∀ (d : Nat),
    (∀ (t : TypeId) (x y : NV) (v u : Value) (r : Bool) (n : Nat) (w : World), evEq P d t x y = some r → x.rel env v → y.rel env u → d ≤ n → (Op.equalIn n t v u).run P w = .ok r w) ∧
    (∀ (fs : List Field) (l m : List At) (xs ys : Array Value) (r : Bool) (n : Nat) (w : World), evEqFs P (evEq P d) l m fs = some r → AllRel env l xs.toList → AllRel env m ys.toList → d ≤ n →
      (Op.eqFields n xs ys fs).run P w = .ok r w) := by
  intro d
  have fields : ∀ d, (∀ (t : TypeId) (x y : NV) (v u : Value) (r : Bool) (n : Nat) (w : World), evEq P d t x y = some r → x.rel env v → y.rel env u → d ≤ n → (Op.equalIn n t v u).run P w = .ok r w) →
      (∀ (fs : List Field) (l m : List At) (xs ys : Array Value) (r : Bool) (n : Nat) (w : World), evEqFs P (evEq P d) l m fs = some r → AllRel env l xs.toList → AllRel env m ys.toList → d ≤ n →
        (Op.eqFields n xs ys fs).run P w = .ok r w) := by
    intro d ih fs
    induction fs with
    | nil =>
      intro l m xs ys r n w h _ _ _
      simp only [evEqFs, Option.some.injEq] at h; subst h; simp [Op.eqFields]
    | cons f fs ihf =>
      intro l m xs ys r n w h hl hm hn
      unfold evEqFs at h
      simp only [Op.eqFields]
      split at h
      · rename_i hname
        rw [if_pos hname]
        split at h
        · rename_i a b ea eb
          obtain ⟨v, hv, rv⟩ := run_evPart ea hl w
          obtain ⟨u, hu, ru⟩ := run_evPart eb hm w
          simp only [Sem.run_bind, hv, hu, Result.andThen_ok]
          split at h
          · rename_i r1 r2 e1 e2
            simp only [Option.some.injEq] at h; subst h
            rw [ih _ _ _ _ _ _ n w e1 rv ru hn]
            simp only [Result.andThen_ok]
            cases r1
            · simp
            · simpa using ihf l m xs ys r2 n w e2 hl hm hn
          · cases h
        · cases h
      · rename_i hname
        rw [if_neg hname]
        exact ihf l m xs ys r n w h hl hm hn
  induction d with
  | zero =>
    have h0 : (∀ (t : TypeId) (x y : NV) (v u : Value) (r : Bool) (n : Nat) (w : World), evEq P 0 t x y = some r → x.rel env v → y.rel env u → 0 ≤ n → (Op.equalIn n t v u).run P w = .ok r w) := by
      intro t x y v u r n w h; simp [evEq] at h
    exact ⟨h0, fields 0 h0⟩
  | succ d ih =>
    have h1 : (∀ (t : TypeId) (x y : NV) (v u : Value) (r : Bool) (n : Nat) (w : World), evEq P (d + 1) t x y = some r → x.rel env v → y.rel env u → d + 1 ≤ n → (Op.equalIn n t v u).run P w = .ok r w) := by
      intro t x y v u r n w h hx hy hn
      obtain ⟨n, rfl⟩ : ∃ k, n = k + 1 := ⟨n - 1, by omega⟩
      unfold evEq at h
      split at h
      · rename_i fs l m hu
        split at h
        · cases h
        · rename_i hs
          obtain ⟨xs, rfl, hl⟩ := hx
          obtain ⟨ys, rfl, hm⟩ := hy
          have hf : P.fieldsOf t = fs := by simp [Program.fieldsOf, hu]
          rw [run_equalIn_struct w n t xs ys (by rw [hf]; exact hu) (by simpa using hs), hf]
          exact ih.2 _ _ _ _ _ _ n w h hl hm (by omega)
      · rename_i u a b hu
        exact run_evEqCell hu h hx hy n w
      · cases h
    exact ⟨h1, fields _ h1⟩

def evBinAgg (P : Program) (op : BinOp) (t : TypeId) (l m : List At) : Option Bool :=
  if P.eqGuardType P.depth t then none else
  match op, evEq P 12 t (.agg l) (.agg m) with
  | .eql, some b => some b
  | .neq, some b => some (!b)
  | _, _ => none
theorem run_evBinAgg {P : Program} {env : Env} {op : BinOp} {t : TypeId} {l m : List At} {x y : Value} {r : Bool} (h : evBinAgg P op t l m = some r) (hl : NV.rel env (.agg l) x) (hm : NV.rel env (.agg m) y) (X Y : Operand) (w : World) :
    (do eqGuard op t X Y x y; binOp op t x y : Sem Value).run P w = .ok (.bool r) w := by
  unfold evBinAgg at h
  split at h
  · cases h
  rename_i hq
  obtain ⟨xs, rfl, hl'⟩ := hl
  obtain ⟨ys, rfl, hm'⟩ := hm
  rw [Sem.run_bind, run_eqGuard_agg w op t X Y xs ys (by simpa using hq), Result.andThen_ok]
  split at h
  · rename_i b hb
    simp only [Option.some.injEq] at h; subst h
    rw [run_eql_struct, (evEq_sound (env := env) 12).1 _ _ _ _ _ _ 10000 w hb ⟨xs, rfl, hl'⟩ ⟨ys, rfl, hm'⟩ (by omega)]
    rfl
  · rename_i b hb
    simp only [Option.some.injEq] at h; subst h
    rw [run_neq_struct, (evEq_sound (env := env) 12).1 _ _ _ _ _ _ 10000 w hb ⟨xs, rfl, hl'⟩ ⟨ys, rfl, hm'⟩ (by omega)]
    rfl
  · cases h
end E
end Go.Proofs.Ytajdkbgbekdbmaa

/- A symbolic run of Go code: the operations that read or make memory. No condition. -/
namespace Go.Proofs.Ytajdkbgbekdbmaa
set_option linter.unusedVariables false
set_option linter.unusedSimpArgs false
namespace E
open Go.RowKit

/-! lists -/

def splice {α : Type} (l : List α) (o : Nat) (vs : List α) : List α := l.take o ++ vs ++ l.drop (o + vs.length)
theorem splice_get {α : Type} (l : List α) (o : Nat) (vs : List α) (h : o + vs.length ≤ l.length) (m : Nat) :
    (splice l o vs)[m]? = if m < o then l[m]? else if m < o + vs.length then vs[m - o]? else l[m]? := by
  unfold splice
  have ht : (l.take o).length = o := by simp; omega
  by_cases h1 : m < o
  · rw [if_pos h1, List.append_assoc, List.getElem?_append_left (by omega), List.getElem?_take, if_pos h1]
  · rw [if_neg h1]
    by_cases h2 : m < o + vs.length
    · rw [if_pos h2, List.append_assoc, List.getElem?_append_right (by omega), List.getElem?_append_left (by omega), ht]
    · rw [if_neg h2, List.getElem?_append_right (by simp; omega), List.getElem?_drop]
      congr 1
      simp only [List.length_append, ht]
      omega
theorem splice_length {α : Type} (l : List α) (o : Nat) (vs : List α) (h : o + vs.length ≤ l.length) : (splice l o vs).length = l.length := by
  unfold splice; simp; omega
theorem AllRel.splice {env : Env} {l m : List At} {vs us : List Value} (h : AllRel env l vs) (k : AllRel env m us) (o : Nat) : AllRel env (splice l o m) (splice vs o us) := by
  unfold E.splice
  rw [k.length]
  exact ((h.take o).append k).append (h.drop _)
def upd (g : Nat → List At) (i : Nat) (c : List At) : Nat → List At := fun k => if k = i then c else g k

theorem seg_get {α : Type} (l : List α) (a wd k : Nat) : ((l.drop a).take wd)[k]? = if k < wd then l[a + k]? else none := by
  rw [List.getElem?_take]; split <;> simp_all

theorem Elems.write {env : Env} {wd n : Nat} {g : Nat → List At} {cs vs : List Value} {m : List At} (h : Elems env wd n g cs) {i j : Nat} (hi : i < n) (k : AllRel env m vs) (hj : j + vs.length ≤ wd) (h1 : ∀ v ∈ vs, v.oneCell' = true) :
    Elems env wd n (upd g i (splice (g i) j m)) (splice cs (i * wd + j) vs) := by
  have hle : i * wd + wd ≤ n * wd := by
    have := Nat.mul_le_mul_right wd (show i + 1 ≤ n by omega)
    rw [Nat.add_mul] at this; omega
  have hfit : i * wd + j + vs.length ≤ cs.length := by rw [h.1]; omega
  refine ⟨by rw [splice_length _ _ _ hfit]; exact h.1, fun q hq => ?_, fun v hv => ?_⟩
  case refine_2 =>
    unfold splice at hv
    rcases List.mem_append.1 hv with hv | hv
    · rcases List.mem_append.1 hv with hv | hv
      · exact h.2.2 v (List.mem_of_mem_take hv)
      · exact h1 v hv
    · exact h.2.2 v (List.mem_of_mem_drop hv)
  have hlq : q * wd + wd ≤ n * wd := by
    have := Nat.mul_le_mul_right wd (show q + 1 ≤ n by omega)
    rw [Nat.add_mul] at this; omega
  by_cases e : q = i
  · subst e
    unfold upd
    rw [if_pos rfl]
    have hx : ((splice cs (q * wd + j) vs).drop (q * wd)).take wd = splice ((cs.drop (q * wd)).take wd) j vs := by
      apply List.ext_getElem?
      intro k
      rw [seg_get, splice_get _ _ _ hfit, splice_get _ _ _ (by simp; omega), seg_get]
      by_cases h1 : k < wd
      · rw [if_pos h1, if_pos h1]
        by_cases h2 : k < j
        · rw [if_pos h2, if_pos (by omega)]
        · rw [if_neg h2, if_neg (by omega)]
          by_cases h3 : k < j + vs.length
          · rw [if_pos h3, if_pos (by omega)]; congr 1; omega
          · rw [if_neg h3, if_neg (by omega)]
      · rw [if_neg h1, if_neg h1, if_neg (by omega), if_neg (by omega)]
    rw [hx]
    exact (h.2.1 q hq).splice k j
  · unfold upd
    rw [if_neg e]
    have hx : ((splice cs (i * wd + j) vs).drop (q * wd)).take wd = (cs.drop (q * wd)).take wd := by
      apply List.ext_getElem?
      intro k
      rw [seg_get, splice_get _ _ _ hfit, seg_get]
      by_cases h1 : k < wd
      · rw [if_pos h1, if_pos h1]
        rcases Nat.lt_or_gt_of_ne e with h4 | h4
        · have := Nat.mul_le_mul_right wd (show q + 1 ≤ i by omega)
          rw [Nat.add_mul] at this
          rw [if_pos (by omega)]
        · have := Nat.mul_le_mul_right wd (show i + 1 ≤ q by omega)
          rw [Nat.add_mul] at this
          rw [if_neg (by omega), if_neg (by omega)]
      · rw [if_neg h1, if_neg h1]
    rw [hx]
    exact h.2.1 q hq

theorem add_add (a : Addr) (m n : Nat) : (a.add m).add n = a.add (m + n) := by
  unfold Addr.add
  by_cases hm : m = 0 <;> by_cases hn : n = 0 <;> simp_all [Nat.add_assoc]

/-! looking at a cell -/

def look (mem : List Seg) : At → Option (List At × Nat × List Prop)
  | .ptr h j => match mem[h]? with
    | some (.box _ l) => some (l, j, [])
    | some (.robox _ l) => some (l, j, [])
    | _ => none
  | .eptr h wd i j => match mem[h]? with
    | some (.ro wd' len g) => if wd = wd' then some (g i, j, [i < len]) else none
    | some (.row _ wd' n g) => if wd = wd' then some (g i, j, [i < n]) else none
    | _ => none
  | _ => none

section
variable {env : Env} {mem : List Seg} {w0 w : World} {S : Nat → Prop}

theorem look_sound {x : At} {p : Value} {l : List At} {j : Nat} {obl : List Prop} (h : look mem x = some (l, j, obl)) (ho : AllT obl) (hm : MemOk env mem w0 w S) (hx : x.rel env p) :
    ∃ (a : Addr) (cs : List Value), p = .pointer (some (a.add j)) ∧ AllRel env l cs ∧ ∀ k v, cs[k]? = some v → w.cell? (a.add k) = some v := by
  unfold look at h
  split at h
  · split at h
    · rename_i hd t l' hs
      simp only [Option.some.injEq, Prod.mk.injEq] at h
      obtain ⟨rfl, rfl, rfl⟩ := h
      obtain ⟨b, cs, h1, h2, h3⟩ := hm.ok _ _ hs
      obtain ⟨v, a, e1, e2, rfl⟩ := hx
      rw [h1] at e1
      obtain rfl := Option.some.inj e1
      simp [baseOf] at e2
      subst e2
      refine ⟨_, _, rfl, h3, fun k v hk => ?_⟩
      rw [add_eq, Nat.zero_add, cell_of_row w b k cs t (0, 0) h2]
      simpa using hk
    · rename_i hd t l' hs
      simp only [Option.some.injEq, Prod.mk.injEq] at h
      obtain ⟨rfl, rfl, rfl⟩ := h
      obtain ⟨b, cs, h1, h2, h3⟩ := hm.ok _ _ hs
      obtain ⟨v, a, e1, e2, rfl⟩ := hx
      rw [h1] at e1
      obtain rfl := Option.some.inj e1
      simp [baseOf] at e2
      subst e2
      refine ⟨_, _, rfl, h3, fun k v hk => ?_⟩
      rw [add_eq, Nat.zero_add, cell_of_row w b k cs t (0, 0) h2]
      simpa using hk
    · cases h
  · rename_i hd wd i j'
    split at h
    · rename_i wd' len g hs
      split at h
      · rename_i e
        subst e
        simp only [Option.some.injEq, Prod.mk.injEq] at h
        obtain ⟨rfl, rfl, rfl⟩ := h
        simp only [AllT, and_true] at ho
        obtain ⟨ao, cap, cs, h1, h2, h3, h4, h5, h6⟩ := hm.ok _ _ hs
        obtain ⟨v, a, e1, e2, rfl⟩ := hx
        rw [h1] at e1
        obtain rfl := Option.some.inj e1
        simp only [baseOf] at e2
        subst e2
        refine ⟨a.add (i * wd), _, by rw [add_add], h5.2.1 i ho, fun k v hk => ?_⟩
        rw [seg_get] at hk
        split at hk
        · obtain ⟨a', ea, hc⟩ := h6 _ _ hk
          obtain rfl := Option.some.inj ea
          rw [add_add]; exact hc
        · cases hk
      · cases h
    · rename_i e wd' n g hs
      split at h
      · rename_i ee
        subst ee
        simp only [Option.some.injEq, Prod.mk.injEq] at h
        obtain ⟨rfl, rfl, rfl⟩ := h
        simp only [AllT, and_true] at ho
        obtain ⟨v, cs, h1, h2, h3⟩ := hm.ok _ _ hs
        obtain ⟨v', a, e1, e2, rfl⟩ := hx
        rw [h1] at e1
        obtain rfl := Option.some.inj e1
        refine ⟨a.add (i * wd), _, by rw [add_add], h3.2.1 i ho, fun k u hk => ?_⟩
        rw [seg_get] at hk
        split at hk
        · have hb : v.ownBlock = some a.block := own_base h2 (base_mem e2)
          have hc := h2.cells hb _ _ hk
          have ea : a = ⟨a.block, 0, none⟩ := by
            rcases h2.2 with ⟨rfl, _⟩ | ⟨g', cap, cur, rfl, _⟩
            · simp [baseOf] at e2
            · simp [baseOf] at e2; rw [← e2]
          rw [add_add]
          rw [ea]
          exact hc
        · cases hk
      · cases h
    · cases h
  · cases h

def evLoad (P : Program) (t : TypeId) (mem : List Seg) (a : At) : Option (NV × List Prop) :=
  match look mem a, isAggB P t with
  | some (l, j, obl), some true => if ((l.drop j).take (P.cellsOf t)).length = P.cellsOf t then some (.agg ((l.drop j).take (P.cellsOf t)), obl) else none
  | some (l, j, obl), some false => match l[j]? with
    | some x => some (.one x, obl)
    | none => none
  | _, _ => none

theorem run_evLoad {P : Program} {t : TypeId} {x : At} {p : Value} {r : NV} {obl : List Prop} (h : evLoad P t mem x = some (r, obl)) (ho : AllT obl) (hm : MemOk env mem w0 w S) (hx : x.rel env p) :
    ∃ v, (Instr.loadAt t p).run P w = .ok v w ∧ r.rel env v := by
  unfold evLoad at h
  split at h
  · rename_i l j obl' hl hb
    split at h
    · rename_i hlen
      simp only [Option.some.injEq, Prod.mk.injEq] at h
      obtain ⟨rfl, rfl⟩ := h
      obtain ⟨a, cs, rfl, h1, h2⟩ := look_sound hl ho hm hx
      have hr := (h1.drop j).take (P.cellsOf t)
      have hn := hr.length.symm.trans hlen
      have hld := run_loadCells_list (P := P) w (a.add j) ((cs.drop j).take (P.cellsOf t)) (fun k v hk => by
        rw [seg_get] at hk
        split at hk
        · rw [add_add]; exact h2 _ _ hk
        · cases hk)
      rw [hn] at hld
      refine ⟨.agg ((cs.drop j).take (P.cellsOf t)).toArray, ?_, _, rfl, by simpa using hr⟩
      unfold Instr.loadAt Instr.sureAddr loadVar
      simp [run_isAggB hb, run_sizeOf_agg hb, hld]
    · cases h
  · rename_i l j obl' hl hb
    split at h
    · rename_i y hy
      simp only [Option.some.injEq, Prod.mk.injEq] at h
      obtain ⟨rfl, rfl⟩ := h
      obtain ⟨a, cs, rfl, h1, h2⟩ := look_sound hl ho hm hx
      obtain ⟨v, e1, e2⟩ := h1.get hy
      refine ⟨v, ?_, e2⟩
      unfold Instr.loadAt Instr.sureAddr loadVar
      simp [run_isAggB hb, h2 _ _ e1]
    · cases h
  · cases h

/-! storing -/

def At.one : At → Bool
  | .val (.agg _) => false
  | .val (.tuple _) => false
  | .any => false
  | _ => true
def NV.ok : NV → Bool
  | .one a => a.one
  | .agg l => l.all At.one
def cellsOf : NV → List At
  | .one a => [a]
  | .agg l => l
theorem At.one_rel {a : At} {v : Value} (h : a.one = true) (k : a.rel env v) : v.oneCell' = true := by
  cases a with
  | val u => cases k; cases v <;> simp_all [At.one, Value.oneCell']
  | ptr m j => obtain ⟨_, _, _, _, rfl⟩ := k; rfl
  | eptr m wd i j => obtain ⟨_, _, _, _, rfl⟩ := k; rfl
  | own m => obtain ⟨_, _, _, _, rfl⟩ := k; rfl
  | sub m wd off n => obtain ⟨_, _, _, _, _, _, rfl, _⟩ := k; rfl
  | clo f caps => obtain ⟨_, rfl, _⟩ := k; rfl
  | bit b => cases k; rfl
  | optr m => rcases k with rfl | ⟨_, _, _, _, rfl⟩ <;> rfl
  | chn m => obtain ⟨_, _, rfl⟩ := k; rfl
  | root m _ _ => obtain ⟨_, _, _, _, rfl, _⟩ := k; rfl
  | any => cases h
theorem oneCell_cells {v : Value} (h : v.oneCell' = true) : v.cells = #[v] := by
  cases v <;> simp_all [Value.oneCell', Value.cells]
theorem AllRel.one : ∀ {l : List At} {vs : List Value}, AllRel env l vs → l.all At.one = true → ∀ v ∈ vs, v.oneCell' = true
  | [], [], _, _ => fun v hv => by cases hv
  | a :: l, v :: vs, k, h => by
    simp only [List.all_cons, Bool.and_eq_true] at h
    intro u hu
    cases hu with
    | head => exact At.one_rel h.1 k.1
    | tail _ hu => exact AllRel.one k.2 h.2 u hu
theorem NV.cells_rel {x : NV} {v : Value} (h : x.ok = true) (k : x.rel env v) : AllRel env (cellsOf x) v.cells.toList ∧ ∀ u ∈ v.cells.toList, u.oneCell' = true := by
  cases x with
  | one a =>
    have h1 := At.one_rel (env := env) h k
    rw [oneCell_cells h1]
    exact ⟨⟨k, trivial⟩, by simpa using h1⟩
  | agg l =>
    obtain ⟨cs, rfl, k⟩ := k
    exact ⟨k, AllRel.one k h⟩

def evStore (P : Program) (t : TypeId) (mem : List Seg) (a : At) (x : NV) : Option (Nat × Seg × List Prop) :=
  if x.ok ∧ (P.info? t).isSome ∧ (cellsOf x).length = P.cellsOf t then
    match a with
    | .ptr h j => match mem[h]? with
      | some (.box t0 l) => if j + (cellsOf x).length ≤ l.length then some (h, .box t0 (splice l j (cellsOf x)), []) else none
      | _ => none
    | .eptr h wd i j => match mem[h]? with
      | some (.row e wd' n g) => if wd = wd' ∧ j + (cellsOf x).length ≤ wd then some (h, .row e wd' n (upd g i (splice (g i) j (cellsOf x))), [i < n]) else none
      | _ => none
    | _ => none
  else none

theorem evStore_excl {P : Program} {t : TypeId} {x : At} {y : NV} {hd : Nat} {s' : Seg} {obl : List Prop} (h : evStore P t mem x y = some (hd, s', obl)) : ∃ t, mem[hd]? = some t ∧ t.excl = true := by
  unfold evStore at h
  split at h
  · split at h
    · split at h
      · rename_i hs
        split at h
        · simp only [Option.some.injEq, Prod.mk.injEq] at h
          obtain ⟨rfl, rfl, rfl⟩ := h
          exact ⟨_, hs, rfl⟩
        · cases h
      · cases h
    · split at h
      · rename_i hs
        split at h
        · simp only [Option.some.injEq, Prod.mk.injEq] at h
          obtain ⟨rfl, rfl, rfl⟩ := h
          exact ⟨_, hs, rfl⟩
        · cases h
      · cases h
    · cases h
  · cases h

theorem run_sizeOf_info {P : Program} {t : TypeId} (h : (P.info? t).isSome = true) (w : World) : (sizeOf t).run P w = .ok (P.cellsOf t) w := by
  obtain ⟨i, hi⟩ := Option.isSome_iff_exists.1 h
  unfold sizeOf typeInfo
  simp [hi, Program.cellsOf]

theorem run_evStore {P : Program} {t : TypeId} {x : At} {y : NV} {p v : Value} {hd : Nat} {s' : Seg} {obl : List Prop} (h : evStore P t mem x y = some (hd, s', obl)) (ho : AllT obl) (hm : MemOk env mem w0 w S)
    (hx : x.rel env p) (hy : y.rel env v) : ∃ w', (Instr.storeAt t p v).run P w = .ok () w' ∧ MemOk env (mem.set hd s') w0 w' S := by
  unfold evStore at h
  split at h
  · rename_i hc
    obtain ⟨hok, hinfo, hlen⟩ := hc
    obtain ⟨hcr, hc1⟩ := NV.cells_rel (env := env) hok hy
    have hvl : v.cells.toList.length = P.cellsOf t := by rw [← hcr.length]; exact hlen
    have hvs : v.cells.size = P.cellsOf t := by simpa using hvl
    split at h
    · rename_i h0 j
      split at h
      · rename_i t0 l hs
        split at h
        · rename_i hfit
          simp only [Option.some.injEq, Prod.mk.injEq] at h
          obtain ⟨rfl, rfl, rfl⟩ := h
          obtain ⟨b, cs, h1, h2, h3⟩ := hm.ok _ _ hs
          obtain ⟨u, a, e1, e2, rfl⟩ := hx
          rw [h1] at e1
          obtain rfl := Option.some.inj e1
          simp [baseOf] at e2
          subst e2
          have hf : j + v.cells.toList.length ≤ cs.size := by
            have := h3.length
            have := hcr.length
            simp at *
            omega
          have hst : (storeCells ⟨b, j, none⟩ v.cells.toList).run P w = .ok () (w.setRow b (splice cs.toList j v.cells.toList).toArray) := by
            have := run_storeCells_at P b j t0 v.cells.toList 0 cs w h2 (by simpa using hf) hc1
            simpa [splice] using this
          refine ⟨w.setRow b (splice cs.toList j v.cells.toList).toArray, ?_, ?_⟩
          · unfold Instr.storeAt Instr.sureAddr storeVar
            simp only [Sem.run_bind, Sem.run_pure, Result.andThen_ok, run_sizeOf_info hinfo, hvs, ne_eq, not_true_eq_false, if_false, add_eq, Nat.zero_add]
            exact hst
          · refine hm.write _ _ _ b hs (by simp [blk, h1, blksOf, baseOf]) rfl rfl rfl rfl (by simp [World.setRow]) (fun k _ hk => setRow_other w b k _ hk) ?_
            refine ⟨b, _, h1, setRow_heap w b cs _ t0 (0, 0) h2, ?_⟩
            exact h3.splice hcr j
        · cases h
      · cases h
    · rename_i h0 wd i j
      split at h
      · rename_i e wd' n g hs
        split at h
        · rename_i hfit
          obtain ⟨rfl, hfit⟩ := hfit
          simp only [Option.some.injEq, Prod.mk.injEq] at h
          obtain ⟨rfl, rfl, rfl⟩ := h
          simp only [AllT, and_true] at ho
          obtain ⟨u, cs, h1, h2, h3⟩ := hm.ok _ _ hs
          obtain ⟨u', a, e1, e2, rfl⟩ := hx
          rw [h1] at e1
          obtain rfl := Option.some.inj e1
          have hbk : u.ownBlock = some a.block := own_base h2 (base_mem e2)
          obtain ⟨hxl, h2'⟩ := h2
          rcases h2' with ⟨rfl, _⟩ | ⟨b, cap, cur, rfl, hb0, hg, hnc, hcm, hcs, htake⟩
          · simp [baseOf] at e2
          simp [baseOf] at e2
          subst e2
          have hcl : cs.length = n * wd := hxl
          have hle : i * wd + wd ≤ n * wd := by
            have := Nat.mul_le_mul_right wd (show i + 1 ≤ n by omega)
            rw [Nat.add_mul] at this; omega
          have hnw : n * wd ≤ cap * wd := Nat.mul_le_mul_right wd hnc
          have hfit' : j + v.cells.toList.length ≤ wd := by rw [← hcr.length]; exact hfit
          have hf : i * wd + j + v.cells.toList.length ≤ cur.size := by omega
          have hst : (storeCells ⟨b, i * wd + j, none⟩ v.cells.toList).run P w = .ok () (w.setRow b (splice cur.toList (i * wd + j) v.cells.toList).toArray) := by
            have := run_storeCells_at P b (i * wd + j) e v.cells.toList 0 cur w hg (by simpa using hf) hc1
            simpa [splice] using this
          refine ⟨w.setRow b (splice cur.toList (i * wd + j) v.cells.toList).toArray, ?_, ?_⟩
          · unfold Instr.storeAt Instr.sureAddr storeVar
            simp only [Sem.run_bind, Sem.run_pure, Result.andThen_ok, run_sizeOf_info hinfo, hvs, ne_eq, not_true_eq_false, if_false, add_eq, Nat.zero_add]
            exact hst
          · refine hm.write _ _ _ b hs (by simp [blk, h1, blksOf, baseOf]) rfl rfl rfl rfl (by simp [World.setRow]) (fun k _ hk => setRow_other w b k _ hk) ?_
            have hel := h3.write (i := i) (j := j) ho hcr hfit' hc1
            refine ⟨_, splice cs (i * wd + j) v.cells.toList, h1, ⟨hel.1, .inr ⟨b, cap, _, rfl, hb0, setRow_heap w b cur _ e (0, 0) hg, hnc, hcm, ?_, ?_⟩⟩, hel⟩
            · have := splice_length cur.toList (i * wd + j) v.cells.toList (by simpa using hf)
              simpa [hcs] using this
            · rw [← htake]
              apply List.ext_getElem?
              intro k
              have hf2 : i * wd + j + v.cells.toList.length ≤ (cur.toList.take (n * wd)).length := by
                have : (cur.toList.take (n * wd)).length = n * wd := by simp; omega
                omega
              have hk1 := splice_get cur.toList (i * wd + j) v.cells.toList (by simpa using hf) k
              have hk2 := splice_get (cur.toList.take (n * wd)) (i * wd + j) v.cells.toList hf2 k
              rw [hk2]
              rw [List.getElem?_take, hk1]
              by_cases q1 : k < n * wd
              · rw [if_pos q1]
                by_cases q2 : k < i * wd + j
                · rw [if_pos q2, if_pos q2, List.getElem?_take, if_pos q1]
                · rw [if_neg q2, if_neg q2]
                  by_cases q3 : k < i * wd + j + v.cells.toList.length
                  · rw [if_pos q3, if_pos q3]
                  · rw [if_neg q3, if_neg q3, List.getElem?_take, if_pos q1]
              · rw [if_neg q1, if_neg (by omega), if_neg (by omega), List.getElem?_take, if_neg q1]
        · cases h
      · cases h
    · cases h
  · cases h
end

/-! addresses -/

def evFieldAddr (P : Program) (s : TypeId) (f : Nat) : At → Option At
  | .ptr h j => match P.underlying s with
    | some (.struct fs) => match fs[f]? with
      | some x => if (P.info? x.type).isSome ∧ P.cellsOf x.type ≠ 0 then some (.ptr h (j + x.offset)) else none
      | none => none
    | _ => none
  | .eptr h wd i j => match P.underlying s with
    | some (.struct fs) => match fs[f]? with
      | some x => if (P.info? x.type).isSome ∧ P.cellsOf x.type ≠ 0 then some (.eptr h wd i (j + x.offset)) else none
      | none => none
    | _ => none
  | _ => none
theorem run_evFieldAddr {P : Program} {env : Env} {s : TypeId} {f : Nat} {x r : At} {p : Value} (h : evFieldAddr P s f x = some r) (hx : x.rel env p) (w : World) :
    ∃ v, (Instr.fieldAt s p f).run P w = .ok v w ∧ r.rel env v := by
  unfold evFieldAddr at h
  split at h
  · split at h
    · rename_i fs hu
      split at h
      · rename_i fd hf
        split at h
        · rename_i hc
          simp only [Option.some.injEq] at h; subst h
          obtain ⟨v, a, e1, e2, rfl⟩ := hx
          refine ⟨_, ?_, v, a, e1, e2, rfl⟩
          unfold Instr.fieldAt Instr.sureAddr fieldPlace
          simp [run_underlying hu, hf, run_sizeOf_info hc.1, hc.2, add_add]
        · cases h
      · cases h
    · cases h
  · split at h
    · rename_i fs hu
      split at h
      · rename_i fd hf
        split at h
        · rename_i hc
          simp only [Option.some.injEq] at h; subst h
          obtain ⟨v, a, e1, e2, rfl⟩ := hx
          refine ⟨_, ?_, v, a, e1, e2, rfl⟩
          unfold Instr.fieldAt Instr.sureAddr fieldPlace
          simp [run_underlying hu, hf, run_sizeOf_info hc.1, hc.2, add_add, Nat.add_assoc]
        · cases h
      · cases h
    · cases h
  · cases h

def evIndexAddr (P : Program) (t : TypeId) (mem : List Seg) (x : At) (i : Int) : Option (At × List Prop) :=
  match P.underlying t, x with
  | some (.array n e), .ptr h j => if (P.info? e).isSome then some (.ptr h (j + i.toNat * P.cellsOf e), [0 ≤ i, i < n]) else none
  | some (.array n e), .eptr h wd q j => if (P.info? e).isSome then some (.eptr h wd q (j + i.toNat * P.cellsOf e), [0 ≤ i, i < n]) else none
  | some (.slice e), .own h => match mem[h]? with
    | some (.ro wd len g) => if (P.info? e).isSome ∧ wd = P.cellsOf e then some (.eptr h wd i.toNat 0, [0 ≤ i, i < len]) else none
    | some (.row _ wd n g) => if (P.info? e).isSome ∧ wd = P.cellsOf e then some (.eptr h wd i.toNat 0, [0 ≤ i, i < n]) else none
    | _ => none
  | some (.slice e), .sub h wd off k => match mem[h]? with
    | some (.ro _ len g) => if (P.info? e).isSome ∧ wd = P.cellsOf e then some (.eptr h wd (off + i.toNat) 0, [0 ≤ i, i < k, off + k ≤ len]) else none
    | some (.row _ _ n g) => if (P.info? e).isSome ∧ wd = P.cellsOf e then some (.eptr h wd (off + i.toNat) 0, [0 ≤ i, i < k, off + k ≤ n]) else none
    | _ => none
  | _, _ => none
theorem run_evIndexAddr {P : Program} {env : Env} {mem : List Seg} {w0 w : World} {S : Nat → Prop} {t : TypeId} {k : IntKind} {i : Int} {x r : At} {p : Value} {obl : List Prop} (h : evIndexAddr P t mem x i = some (r, obl)) (ho : AllT obl)
    (hm : MemOk env mem w0 w S) (hx : x.rel env p) : ∃ v, (Instr.indexAt t p (.int k i)).run P w = .ok v w ∧ r.rel env v := by
  unfold evIndexAddr at h
  split at h
  · rename_i n e hd j hu
    split at h
    · rename_i hi
      simp only [Option.some.injEq, Prod.mk.injEq] at h
      obtain ⟨rfl, rfl⟩ := h
      simp only [AllT, and_true] at ho
      obtain ⟨v, a, e1, e2, rfl⟩ := hx
      refine ⟨_, ?_, v, a, e1, e2, rfl⟩
      unfold Instr.indexAt Instr.sureAddr
      simp [asIntOf, run_underlying hu, ho.1, ho.2, run_sizeOf_info hi, add_add]
    · cases h
  · rename_i n e hd wd q j hu
    split at h
    · rename_i hi
      simp only [Option.some.injEq, Prod.mk.injEq] at h
      obtain ⟨rfl, rfl⟩ := h
      simp only [AllT, and_true] at ho
      obtain ⟨v, a, e1, e2, rfl⟩ := hx
      refine ⟨_, ?_, v, a, e1, e2, rfl⟩
      unfold Instr.indexAt Instr.sureAddr
      simp [asIntOf, run_underlying hu, ho.1, ho.2, run_sizeOf_info hi, add_add, Nat.add_assoc]
    · cases h
  · rename_i e hd hu
    split at h
    · rename_i wd len g hs
      split at h
      · rename_i hc
        obtain ⟨hi, rfl⟩ := hc
        simp only [Option.some.injEq, Prod.mk.injEq] at h
        obtain ⟨rfl, rfl⟩ := h
        simp only [AllT, and_true] at ho
        obtain ⟨ao, cap, cs, h1, h2, h3, h4, h5, h6⟩ := hm.ok _ _ hs
        obtain ⟨hx, _⟩ := hx
        rw [h1] at hx
        obtain rfl := Option.some.inj hx
        cases ao with
        | none => have := (h4 rfl).1; omega
        | some a =>
          refine ⟨_, ?_, _, a, h1, rfl, rfl⟩
          unfold Instr.indexAt
          simp [asIntOf, run_underlying hu, ho.1, ho.2, run_sizeOf_info hi]
      · cases h
    · rename_i e' wd n g hs
      split at h
      · rename_i hc
        obtain ⟨hi, rfl⟩ := hc
        simp only [Option.some.injEq, Prod.mk.injEq] at h
        obtain ⟨rfl, rfl⟩ := h
        simp only [AllT, and_true] at ho
        obtain ⟨v, cs, h1, h2, h3⟩ := hm.ok _ _ hs
        obtain ⟨hx, _⟩ := hx
        rw [h1] at hx
        obtain rfl := Option.some.inj hx
        rcases h2.2 with ⟨rfl, h0⟩ | ⟨b, cap, cur, rfl, _⟩
        · omega
        refine ⟨_, ?_, _, _, h1, rfl, rfl⟩
        unfold Instr.indexAt
        simp [asIntOf, run_underlying hu, ho.1, ho.2, run_sizeOf_info hi]
      · cases h
    · cases h
  · rename_i e hd wd off q hu
    have key : ∀ (len : Nat) (ao : Option Addr) (N cap : Nat), env hd = some (.slice ao N cap) → (ao = none → len = 0) → (P.info? e).isSome = true → wd = P.cellsOf e → 0 ≤ i → i < q → off + q ≤ len →
        ∃ v, (Instr.indexAt t p (.int k i)).run P w = .ok v w ∧ At.rel env (.eptr hd wd (off + i.toNat) 0) v := by
      intro len ao N cap h1 hn hi e1 o1 o2 o3
      obtain ⟨ao', len', cap', bo, c, e2, rfl, _, _, e3⟩ := hx
      rw [h1] at e2
      obtain ⟨rfl, rfl, rfl⟩ : ao = ao' ∧ N = len' ∧ cap = cap' := by simpa using e2
      cases ao with
      | none => have := hn rfl; omega
      | some a =>
        have e3 := e3 (by omega)
        simp only [Option.map_some] at e3
        subst e3
        refine ⟨_, ?_, _, a, h1, rfl, rfl⟩
        unfold Instr.indexAt
        simp [asIntOf, run_underlying hu, o1, o2, run_sizeOf_info hi, add_add, Nat.add_mul, e1]
    split at h
    · rename_i wd' len g hs
      split at h
      · rename_i hc
        simp only [Option.some.injEq, Prod.mk.injEq] at h
        obtain ⟨rfl, rfl⟩ := h
        simp only [AllT, and_true] at ho
        obtain ⟨ao, cap, cs, h1, h2, h3, h4, h5, h6⟩ := hm.ok _ _ hs
        exact key len ao len cap h1 (fun z => (h4 z).1) hc.1 hc.2 ho.1 ho.2.1 ho.2.2
      · cases h
    · rename_i e' wd' n g hs
      split at h
      · rename_i hc
        simp only [Option.some.injEq, Prod.mk.injEq] at h
        obtain ⟨rfl, rfl⟩ := h
        simp only [AllT, and_true] at ho
        obtain ⟨v, cs, h1, h2, h3⟩ := hm.ok _ _ hs
        rcases h2.2 with ⟨rfl, h0⟩ | ⟨b, cap, cur, rfl, _⟩
        · exact key n none 0 0 h1 (fun _ => h0) hc.1 hc.2 ho.1 ho.2.1 ho.2.2
        · exact key n _ n cap h1 (fun z => by cases z) hc.1 hc.2 ho.1 ho.2.1 ho.2.2
      · cases h
    · cases h
  · cases h
end E
end Go.Proofs.Ytajdkbgbekdbmaa

/- A symbolic run of Go code: the operations that make memory, and the builtins. No condition. -/
namespace Go.Proofs.Ytajdkbgbekdbmaa
set_option linter.unusedVariables false
set_option linter.unusedSimpArgs false
namespace E
open Go.RowKit

inductive Eff where
  | none
  | new (s : Seg)
  | set (h : Nat) (s : Seg)
  | app (h : Nat) (s : Seg)
def Eff.makes : Eff → Bool
  | .new _ | .app _ _ => true
  | _ => false
def Eff.apply (nh : Nat) (mem : List Seg) : Eff → List Seg
  | .none => mem
  | .new s => mem.set nh s
  | .set h s => mem.set h s
  | .app h s => (mem.set h .gone).set nh s

section
variable {P : Program} {env : Env} {mem : List Seg} {w0 w : World} {S : Nat → Prop} {nh : Nat}

/-- What an operation leaves: env' knows the new handle besides. -/
structure After (env env' : Env) (eff : Eff) (mem : List Seg) (w0 w' : World) (S : Nat → Prop) (nh : Nat) : Prop where
  le : env.le env'
  other : ∀ k, k ≠ nh → env' k = env k
  ok : MemOk env' (eff.apply nh mem) w0 w' S
  same : eff.makes = false → env' = env
  wr : ∀ h s, eff = .set h s → ∃ t, mem[h]? = some t ∧ t.excl = true
theorem After.same' (h : MemOk env mem w0 w S) : After env env .none mem w0 w S nh := ⟨Env.le_refl _, fun _ _ => rfl, h, fun _ => rfl, fun _ _ e => by cases e⟩

/-! boxes -/
theorem box_ok (hm : MemOk env mem w0 w S) (hg : mem[nh]? = some .gone) (hn : env nh = none) (t : TypeId) {l : List At} {cs : Array Value} (hl : AllRel env l cs.toList) :
    After env (env.put nh (.pointer (some ⟨w.heap.size, 0, none⟩))) (.new (.box t l)) mem w0 (w.alloc (.cells cs t)) S nh := by
  refine ⟨Env.le_put hn, fun k hk => Env.put_other _ hk, hm.fill nh _ _ hg hn ((Ext.refl w).alloc _) (fun b hb => by simp [blksOf, baseOf] at hb; omega) ?_, (fun h => by cases h), fun _ _ e => by cases e⟩
  exact ⟨w.heap.size, cs, Env.put_same _ _, heap_alloc_new w _, hl.le (Env.le_put hn)⟩

def evBox (t : TypeId) (x : NV) (nh : Nat) : Option (SV × Eff) :=
  if x.ok then some (.nv (.one (.ptr nh 0)), .new (.box t (cellsOf x))) else none
theorem run_evBox {t : TypeId} {x : NV} {v : Value} {r : SV} {eff : Eff} (h : evBox t x nh = some (r, eff)) (hm : MemOk env mem w0 w S) (hg : mem[nh]? = some .gone) (hn : env nh = none) (hx : x.rel env v) :
    ∃ u env' w', (Instr.box t v).run P w = .ok u w' ∧ r.rel env' u ∧ After env env' eff mem w0 w' S nh := by
  unfold evBox at h
  split at h
  · rename_i hok
    simp only [Option.some.injEq, Prod.mk.injEq] at h
    obtain ⟨rfl, rfl⟩ := h
    refine ⟨.pointer (some ⟨w.heap.size, 0, none⟩), _, _, ?_, ?_, box_ok hm hg hn t (NV.cells_rel hok hx).1⟩
    · simp only [Instr.box, newVar, newRow, Sem.run_bind, run_newObj, Result.andThen_ok, Sem.run_pure]; rfl
    · exact ⟨_, _, Env.put_same _ _, rfl, by simp [Addr.add]⟩
  · cases h

def zeroOf (P : Program) (t : TypeId) : Option Value := match P.info? t with | some i => i.zero | none => none
theorem run_zeroOf {t : TypeId} {z : Value} (h : zeroOf P t = some z) (w : World) : (zeroValue t).run P w = .ok z w := by
  unfold zeroOf at h
  split at h
  · rename_i i hi; simp [zeroValue, typeInfo, hi, h]
  · cases h
def evAlloc (P : Program) (t : TypeId) (nh : Nat) : Option (SV × Eff) :=
  match zeroOf P t with
  | some z => some (.nv (.one (.ptr nh 0)), .new (.box t (z.cells.toList.map .val)))
  | none => none
theorem run_evAlloc {t : TypeId} {r : SV} {eff : Eff} (h : evAlloc P t nh = some (r, eff)) (hm : MemOk env mem w0 w S) (hg : mem[nh]? = some .gone) (hn : env nh = none) :
    ∃ u env' w', (Instr.alloc t true (.tuple #[])).run P w = .ok u w' ∧ r.rel env' u ∧ After env env' eff mem w0 w' S nh := by
  unfold evAlloc at h
  split at h
  · rename_i z hz
    simp only [Option.some.injEq, Prod.mk.injEq] at h
    obtain ⟨rfl, rfl⟩ := h
    refine ⟨.pointer (some ⟨w.heap.size, 0, none⟩), _, _, ?_, ?_, box_ok hm hg hn t (cs := z.cells) (AllRel.vals _)⟩
    · simp only [Instr.alloc, run_zeroOf hz, newVar, newRow, Sem.run_bind, run_newObj, Result.andThen_ok, Sem.run_pure]; rfl
    · exact ⟨_, _, Env.put_same _ _, rfl, by simp [Addr.add]⟩
  · cases h

/-! literals -/
def AllParts (env : Env) : List (Nat × NV) → List (Nat × Value) → Prop
  | [], [] => True
  | (i, x) :: l, (j, v) :: m => i = j ∧ x.rel env v ∧ AllParts env l m
  | _, _ => False

def evFill (place : Nat → Option (Nat × Nat)) (cells : List At) : List (Nat × NV) → Option (List At)
  | [] => some cells
  | (i, x) :: rest =>
    match place i with
    | none => none
    | some (off, size) => if x.ok ∧ (cellsOf x).length = size ∧ off + (cellsOf x).length ≤ cells.length then evFill place (splice cells off (cellsOf x)) rest else none

theorem foldl_splice (off : Nat) (vs cs : Array Value) (h : off + vs.size ≤ cs.size) :
    (vs.zipIdx.foldl (fun cs (c, j) => cs.setIfInBounds (off + j) c) cs).toList = splice cs.toList off vs.toList := by
  apply List.ext_getElem?
  intro k
  rw [← Array.foldl_toList, Array.toList_zipIdx]
  obtain ⟨h1, h2⟩ := Great.foldl_set off vs.toList 0 cs
  have hk := h2 k
  rw [splice_get _ _ _ (by simpa using h)]
  rw [Array.getElem?_toList]
  refine Eq.trans hk ?_
  simp only [Nat.add_zero, Array.length_toList, Array.getElem?_toList]
  by_cases q1 : k < off
  · rw [if_neg (by omega), if_pos q1]
  · rw [if_neg q1]
    by_cases q2 : k < off + vs.size
    · rw [if_pos q2, if_pos (by omega)]
    · rw [if_neg q2, if_neg (by omega)]

theorem evFill_sound {place : Nat → Option (Nat × Nat)} : ∀ {ps : List (Nat × NV)} {qs : List (Nat × Value)} {l r : List At} {cs : Array Value}, evFill place l ps = some r → AllRel env l cs.toList → AllParts env ps qs →
    (∀ v ∈ cs.toList, v.oneCell' = true) →
    ∃ c : Array Value, Instr.fill place cs qs = some c ∧ AllRel env r c.toList ∧ (∀ v ∈ c.toList, v.oneCell' = true)
  | [], [], l, r, cs, h, hl, _, h1 => by
    simp only [evFill, Option.some.injEq] at h
    subst h
    exact ⟨cs, rfl, hl, h1⟩
  | (i, x) :: ps, (j, v) :: qs, l, r, cs, h, hl, hp, h1 => by
    obtain ⟨rfl, hx, hp⟩ := hp
    unfold evFill at h
    unfold Instr.fill
    split at h
    · cases h
    · rename_i off size hpl
      rw [hpl]
      simp only
      split at h
      · rename_i hc
        obtain ⟨hok, hsz, hfit⟩ := hc
        obtain ⟨hr, ho⟩ := NV.cells_rel hok hx
        have e1 := hr.length
        have e2 := hl.length
        simp only [Array.length_toList] at e1 e2
        have c1 : ¬ ((decide (v.cells.size ≠ size) || decide (off + v.cells.size > cs.size)) = true) := by
          simp only [ne_eq, Bool.or_eq_true, decide_eq_true_eq, not_or, Decidable.not_not]
          omega
        rw [if_neg c1]
        have hs := foldl_splice off v.cells cs (by omega)
        refine evFill_sound h ?_ hp ?_
        · rw [hs]; exact hl.splice hr off
        · rw [hs]
          intro u hu
          unfold splice at hu
          rcases List.mem_append.1 hu with hu | hu
          · rcases List.mem_append.1 hu with hu | hu
            · exact h1 u (List.mem_of_mem_take hu)
            · exact ho u hu
          · exact h1 u (List.mem_of_mem_drop hu)
      · cases h

def evBuild (P : Program) (t : TypeId) (ps : List (Nat × NV)) : Option NV :=
  match P.info? t, P.underlying t with
  | some it, some (.array _ e) =>
    match it.zero, P.info? e with
    | some z, some ie => if z.cells.toList.all Value.oneCell' then (evFill (fun i => some (i * ie.size, ie.size)) (z.cells.toList.map .val) ps).map .agg else none
    | _, _ => none
  | some it, some (.struct fields) =>
    match it.zero, fields.toList.mapM (fun f => (P.info? f.type).map fun i => (f.offset, i.size)) with
    | some z, some places => if z.cells.toList.all Value.oneCell' then (evFill (places.toArray[·]?) (z.cells.toList.map .val) ps).map .agg else none
    | _, _ => none
  | _, _ => none
theorem run_evBuild {t : TypeId} {ps : List (Nat × NV)} {parts : Array (Nat × Value)} {r : NV} (h : evBuild P t ps = some r) (hp : AllParts env ps parts.toList) (w : World) :
    ∃ u, (Instr.build t parts).run P w = .ok u w ∧ r.rel env u := by
  unfold evBuild at h
  split at h
  · rename_i it n e hi hu
    split at h
    · rename_i z ie hz hie
      split at h
      · rename_i hall
        rw [Option.map_eq_some_iff] at h
        obtain ⟨l, hl, rfl⟩ := h
        obtain ⟨c, h1, h2, _⟩ := evFill_sound hl (AllRel.vals (env := env) _) hp (List.all_eq_true.1 hall)
        exact ⟨_, run_build w t parts c (by simp only [Program.built, hi, hu, hz, hie]; exact h1), _, rfl, h2⟩
      · cases h
    · cases h
  · rename_i it fs hi hu
    split at h
    · rename_i z places hz hie
      split at h
      · rename_i hall
        rw [Option.map_eq_some_iff] at h
        obtain ⟨l, hl, rfl⟩ := h
        obtain ⟨c, h1, h2, _⟩ := evFill_sound hl (AllRel.vals (env := env) _) hp (List.all_eq_true.1 hall)
        exact ⟨_, run_build w t parts c (by simp only [Program.built, hi, hu, hz, hie]; exact h1), _, rfl, h2⟩
      · cases h
    · cases h
  · cases h

/-! rows -/
theorem row_ok (hm : MemOk env mem w0 w S) (hg : mem[nh]? = some .gone) (hn : env nh = none) (e : TypeId) {wd n cap : Nat} {g : Nat → List At} {cs : Array Value} (hl : Elems env wd n g (cs.toList.take (n * wd))) (hnc : n ≤ cap) (hcm : cap ≤ maxLen) (hcs : cs.size = cap * wd) :
    After env (env.put nh (.slice (some ⟨w.heap.size, 0, none⟩) n cap)) (.new (.row e wd n g)) mem w0 (w.alloc (.cells cs e)) S nh := by
  refine ⟨Env.le_put hn, fun k hk => Env.put_other _ hk, hm.fill nh _ _ hg hn ((Ext.refl w).alloc _) (fun b hb => by simp [blksOf, baseOf] at hb; omega) ?_, (fun h => by cases h), fun _ _ e => by cases e⟩
  exact ⟨_, _, Env.put_same _ _, ⟨hl.1, .inr ⟨w.heap.size, cap, cs, rfl, Nat.zero_le _, heap_alloc_new w _, hnc, hcm, hcs, rfl⟩⟩, hl.le (Env.le_put hn)⟩

/-- A row that is written out. -/
def litG (size : Nat) (r : List At) : Nat → List At := fun k => (r.drop (k * size)).take size
def evBuildSlice (P : Program) (t : TypeId) (len : Nat) (ps : List (Nat × NV)) (nh : Nat) : Option (SV × Eff) :=
  match P.underlying t with
  | some (.slice e) => match P.info? e, zeroOf P e with
    | some ie, some z =>
      if ¬ len * ie.size > 2 ^ 24 ∧ ¬ len * ie.size = 0 ∧ len ≤ maxLen ∧ z.cells.toList.all Value.oneCell' ∧ 0 < z.cells.size then
        match evFill (fun i => some (i * ie.size, ie.size)) (((List.range (len * ie.size)).map fun k => z.cells[k % z.cells.size]!).map .val) ps with
        | some r => some (.nv (.one (.own nh)), .new (.row e ie.size len (litG ie.size r)))
        | none => none
      else if len = 0 ∧ ps.isEmpty then some (.nv (.one (.own nh)), .new (.row e ie.size 0 (fun _ => []))) else none
    | _, _ => none
  | _ => none
theorem run_evBuildSlice {t : TypeId} {len : Nat} {ps : List (Nat × NV)} {parts : Array (Nat × Value)} {r : SV} {eff : Eff} (h : evBuildSlice P t len ps nh = some (r, eff)) (hp : AllParts env ps parts.toList)
    (hm : MemOk env mem w0 w S) (hg : mem[nh]? = some .gone) (hn : env nh = none) :
    ∃ u env' w', (Instr.buildSlice t len parts).run P w = .ok u w' ∧ r.rel env' u ∧ After env env' eff mem w0 w' S nh := by
  unfold evBuildSlice at h
  split at h
  · rename_i e hu
    split at h
    · rename_i ie z hie hz
      have hz' : ie.zero = some z := by simpa [zeroOf, hie] using hz
      split at h
      · rename_i hc
        obtain ⟨c1, c2, c3, c4, c5⟩ := hc
        split at h
        · rename_i r' hf
          simp only [Option.some.injEq, Prod.mk.injEq] at h
          obtain ⟨rfl, rfl⟩ := h
          obtain ⟨c, h1, h2, h3⟩ := evFill_sound (cs := (Array.range (len * ie.size)).map (z.cells[· % z.cells.size]!)) hf (by
            have := AllRel.vals (env := env) ((List.range (len * ie.size)).map fun k => z.cells[k % z.cells.size]!)
            simpa using this) hp (by
            intro v hv
            simp only [Array.toList_map, Array.toList_range, List.mem_map, List.mem_range] at hv
            obtain ⟨k, _, rfl⟩ := hv
            have hlt : k % z.cells.size < z.cells.size := Nat.mod_lt _ c5
            rw [getElem!_pos z.cells _ hlt]
            exact List.all_eq_true.1 c4 _ (by simp))
          have hlen : c.size = len * ie.size := by
            have hsz : ∀ (place : Nat → Option (Nat × Nat)) (qs : List (Nat × Value)) (cs c : Array Value), Instr.fill place cs qs = some c → c.size = cs.size := by
              intro place qs
              induction qs with
              | nil => intro cs c hc; simp only [Instr.fill, Option.some.injEq] at hc; rw [hc]
              | cons q qs ih =>
                intro cs c hc
                obtain ⟨i, v⟩ := q
                unfold Instr.fill at hc
                split at hc
                · cases hc
                · split at hc
                  · cases hc
                  · rename_i hfit
                    rw [ih _ _ hc]
                    simp only [ne_eq, Bool.or_eq_true, decide_eq_true_eq, not_or, Decidable.not_not] at hfit
                    rw [← Array.length_toList, foldl_splice _ _ _ (by omega), splice_length _ _ _ (by simp; omega)]
                    simp
            rw [hsz _ _ _ _ h1]; simp
          have hr := run_buildSlice (P := P) w t e len parts c ie z hu hie hz' c1 c2 h1
          have htk : c.toList.take (len * ie.size) = c.toList := List.take_of_length_le (by simp [hlen])
          refine ⟨_, _, _, hr, ?_, row_ok hm hg hn e (cap := len) ?_ (Nat.le_refl _) c3 hlen⟩
          · exact ⟨Env.put_same _ _, _, _, _, rfl⟩
          · rw [htk]
            exact ⟨by simpa using hlen, fun i hi => (h2.drop _).take _, h3⟩
        · cases h
      · split at h
        · rename_i hc
          obtain ⟨rfl, hps⟩ := hc
          simp only [Option.some.injEq, Prod.mk.injEq] at h
          obtain ⟨rfl, rfl⟩ := h
          have hparts : parts = #[] := by
            apply Array.ext'
            have hps' : ps = [] := by simpa using hps
            subst hps'
            cases hl : parts.toList with
            | nil => rfl
            | cons a l => rw [hl] at hp; exact hp.elim
          subst hparts
          refine ⟨.slice (some ⟨w.heap.size, 0, none⟩) 0 0, _, w.alloc (.cells #[] e), ?_, ?_, row_ok hm hg hn e (n := 0) (cap := 0) (cs := #[]) ⟨by simp, fun i hi => by omega, fun v hv => by simp at hv⟩ (Nat.le_refl _) (Nat.zero_le _) (by simp)⟩
          · simp [Instr.buildSlice, run_underlying hu, sizeOf, typeInfo, hie, Instr.fill, newRow]
            congr 2
            apply Array.ext'
            simp
          · exact ⟨Env.put_same _ _, _, _, _, rfl⟩
        · cases h
    · cases h
  · cases h

def evMake (P : Program) (t : TypeId) (l c : Int) (nh : Nat) : Option (SV × Eff × List Prop) :=
  match P.underlying t with
  | some (.slice e) => match P.info? e, zeroOf P e with
    | some ie, some z => if z.cells.toList.all Value.oneCell' ∧ z.cells.size = ie.size ∧ 0 < ie.size then
        some (.nv (.one (.own nh)), .new (.row e ie.size c.toNat (fun _ => z.cells.toList.map .val)), [0 ≤ c, l = c, (ie.bytes : Int) * c ≤ 281474976710656, c ≤ 4611686018427387904])
      else none
    | _, _ => none
  | _ => none
theorem run_evMake {t : TypeId} {l c : Int} {kl kc : IntKind} {r : SV} {eff : Eff} {obl : List Prop} (h : evMake P t l c nh = some (r, eff, obl)) (ho : AllT obl) (hm : MemOk env mem w0 w S) (hg : mem[nh]? = some .gone) (hn : env nh = none) :
    ∃ u env' w', (Instr.makeSlice t (.int kl l) (.int kc c)).run P w = .ok u w' ∧ r.rel env' u ∧ After env env' eff mem w0 w' S nh := by
  unfold evMake at h
  split at h
  · rename_i e hu
    split at h
    · rename_i ie z hie hz
      have hz' : ie.zero = some z := by simpa [zeroOf, hie] using hz
      split at h
      · rename_i hc
        obtain ⟨c1, c2, c3⟩ := hc
        simp only [Option.some.injEq, Prod.mk.injEq] at h
        obtain ⟨rfl, rfl, rfl⟩ := h
        simp only [AllT, and_true] at ho
        obtain ⟨o1, rfl, o2, o3⟩ := ho
        have hr := run_make (P := P) w t e ie z hu hie hz' kl kc l l o1 (Int.le_refl _) o2 (by omega)
        have hsz : (madeCells z.cells (l.toNat * ie.size)).size = l.toNat * ie.size := size_madeCells _ _
        have htk : (madeCells z.cells (l.toNat * ie.size)).toList.take (l.toNat * ie.size) = (madeCells z.cells (l.toNat * ie.size)).toList := List.take_of_length_le (by simp [hsz])
        refine ⟨_, _, _, hr, ?_, row_ok hm hg hn e (cap := l.toNat) ?_ (Nat.le_refl _) (by unfold maxLen; omega) hsz⟩
        · exact ⟨Env.put_same _ _, _, _, _, rfl⟩
        · rw [htk]
          have hall := List.all_eq_true.1 c1
          refine ⟨by simpa using hsz, fun i hi => ?_, fun v hv => ?_⟩
          · have hx : ((madeCells z.cells (l.toNat * ie.size)).toList.drop (i * ie.size)).take ie.size = z.cells.toList := by
              apply List.ext_getElem?
              intro k
              have hle : i * ie.size + ie.size ≤ l.toNat * ie.size := by
                have := Nat.mul_le_mul_right ie.size (show i + 1 ≤ l.toNat by omega)
                rw [Nat.add_mul] at this; omega
              rw [seg_get]
              by_cases q : k < ie.size
              · rw [if_pos q]
                simp only [madeCells, Array.toList_map, Array.toList_range, List.getElem?_map, List.getElem?_range (show i * ie.size + k < l.toNat * ie.size by omega), Option.map_some, c2]
                rw [Nat.mul_comm i, Nat.mul_add_mod, Nat.mod_eq_of_lt q, getElem!_pos z.cells k (by omega)]
                simp [show k < z.cells.size by omega]
              · rw [if_neg q, List.getElem?_eq_none (by simp; omega)]
            rw [hx]
            exact AllRel.vals _
          · simp only [madeCells, Array.toList_map, Array.toList_range, List.mem_map, List.mem_range] at hv
            obtain ⟨k, _, rfl⟩ := hv
            have hlt : k % z.cells.size < z.cells.size := Nat.mod_lt _ (by omega)
            rw [getElem!_pos z.cells _ hlt]
            exact hall _ (by simp)
      · cases h
    · cases h
  · cases h
end
end E
end Go.Proofs.Ytajdkbgbekdbmaa

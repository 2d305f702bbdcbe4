/- gate: Stays. No condition. -/
import Derived.Test.YtoincoicgfnbiaaGaQ
namespace Go.Proofs.Ytoincoicgfnbiaa
set_option linter.unusedVariables false
set_option linter.unusedSimpArgs false
open Go.RowKit E
theorem two_rel {env env' : Env} {a b : Value} {vs : List Value} (h : AllRel env [.val a, .val b] vs) : AllRel env' [.val a, .val b] vs := by
  have := cvals_eq (vs := [a, b]) h
  subst this
  exact ⟨rfl, rfl, trivial⟩
theorem gItOk {env : Env} {W : World} {n : Nat} {c t : Int} {O S : Nat → Int} {v : Value} {b1 b2 b3 h1 h2 h3 : Nat} (k0 : SegOk env W 0 (.ro 2 n (gSl O S))) (e0 : env 0 = some v)
    (k1 : SegOk env W h1 (.robox 22 [.own 0])) (e1 : env h1 = some (.pointer (some ⟨b1, 0, none⟩))) (k2 : SegOk env W h2 (.robox 3 [.val (.int .i64 c)])) (e2 : env h2 = some (.pointer (some ⟨b2, 0, none⟩)))
    (k3 : SegOk env W h3 (.robox 23 [.val (.int .u64 t)])) (e3 : env h3 = some (.pointer (some ⟨b3, 0, none⟩))) : ItOk (gItEnv v b1 b2 b3) (gItMem n c t O S) W := by
  intro j s hj
  match j, hj with
  | 0, hj =>
    cases hj
    obtain ⟨ao, cap, cs, q1, q2, q3, q4, q5, q6⟩ := k0
    exact ⟨ao, cap, cs, by rw [← q1, e0]; rfl, q2, q3, q4, ⟨q5.1, fun i hi => two_rel (q5.2.1 i hi), q5.2.2⟩, q6⟩
  | 1, hj =>
    cases hj
    obtain ⟨b, cs, q1, q2, q3⟩ := k1
    rw [e1] at q1; cases q1
    refine ⟨b1, cs, rfl, q2, ?_⟩
    generalize cs.toList = l at q3 ⊢
    match l, q3 with
    | [x], ⟨⟨y1, y2⟩, _⟩ => exact ⟨⟨by rw [← y1, e0]; rfl, y2⟩, trivial⟩
  | 2, hj =>
    cases hj
    obtain ⟨b, cs, q1, q2, q3⟩ := k2
    rw [e2] at q1; cases q1
    have := cvals_eq (vs := [.int .i64 c]) q3
    exact ⟨b2, cs, rfl, q2, by rw [this]; exact ⟨rfl, trivial⟩⟩
  | 3, hj =>
    cases hj
    obtain ⟨b, cs, q1, q2, q3⟩ := k3
    rw [e3] at q1; cases q1
    have := cvals_eq (vs := [.int .u64 t]) q3
    exact ⟨b3, cs, rfl, q2, by rw [this]; exact ⟨rfl, trivial⟩⟩
theorem gItOk_put {n : Nat} {c t : Int} {O S : Nat → Int} (h0 : 0 < n) {env : Env} {W : World} (h : ItOk env (gItMem n c t O S) W) {l : Nat} {o o' : Obj} (hl : W.heap[l]? = some o) (ho : o.isCells = false) : ItOk env (gItMem n c t O S) (W.putObj l o') := by
  intro j s hj
  refine (h j s hj).heap (fun b hb hlv hlt => World.putObj_heap_other (fun e => ?_))
  subst e
  obtain ⟨o2, q1, q2⟩ := segOk_cells (h j s hj) hlv (still_mem (mem := gItMem n c t O S) rfl hj) hb
  rw [hl] at q1; cases q1; rw [ho] at q2; cases q2
theorem ok_start {fn : Func} {args : List SV} {mem : List Seg} {env : Env} {w0 w : World} {S : Nat → Prop} {vals : List Value} {tm : List SV} (hv : AllSV env args vals) (hm : MemOk env mem w0 w S) (htm : args ++ List.replicate (fn.ntmps - args.length) .any = tm) :
    Ok ⟨w0, S, mem.length, env⟩ env ⟨tm, mem⟩ { tmps := vals.toArray ++ Array.replicate (fn.ntmps - vals.toArray.size) undef, defers := [] } w := by
  subst htm
  refine ⟨rfl, ?_, hm, Nat.le_refl _, fun h hh => .inr rfl⟩
  have hlen := hv.length
  have : (vals.toArray ++ Array.replicate (fn.ntmps - vals.toArray.size) undef).toList = vals ++ List.replicate (fn.ntmps - args.length) undef := by simp [hlen]
  rw [this]
  refine hv.append ?_
  have := AllSV.anys (env := env) (List.replicate (fn.ntmps - args.length) undef)
  simpa using this
theorem enters_all {P : Program} {f : FuncId} {fn : Func} {c : Code} (hf : P.funcs[f]? = some fn) (hname : (fn.name == "runtime.NumGoroutine") = false) (hb : fn.body = some c) (args : Array Value) (w : World) : (callFunc f args).run P w = .ok (.enter f args) w := by
  have h1 : fn.name ≠ "runtime.NumGoroutine" := by simpa using hname
  simp [callFunc, hf, h1, hb, mark]
theorem opZ_B {o c : Int} (h : opZ o c = true) : opB o c = false := by
  unfold opZ at h; unfold opB
  rw [beq_iff_eq] at h
  rw [h]; rfl
theorem opj_shut {n : Nat} {O S : Nat → Int} (h : okN n S = true) {c : Int} (ha : alwB O c n = false) (t : Int) (b : Nat) : ∃ k, b ≤ k ∧ k < b + n ∧ opB (O ((slt n S t + k) % n)) c = false := by
  have hn := (okN_iff.1 h).1
  have h1 := (slt_spec h t).1
  have : ¬ ∀ k, k < n → opZ (O k) c = false := fun q => by rw [alwB_iff.2 q] at ha; cases ha
  rcases first_of (fun k => opZ (O k) c = true) n with q | ⟨k, hk, hp, _⟩
  · exact (this fun k hk => by have := q k hk; simpa using this).elim
  · have hp := opZ_B hp
    have hb := Nat.mod_lt (slt n S t + b) (show 0 < n by omega)
    have e1 : ∀ d, (slt n S t + (b + d)) % n = ((slt n S t + b) % n + d) % n := fun d => by rw [← Nat.add_assoc, Nat.mod_add_mod]
    by_cases hle : (slt n S t + b) % n ≤ k
    · refine ⟨b + (k - (slt n S t + b) % n), by omega, by omega, ?_⟩
      rw [e1, show (slt n S t + b) % n + (k - (slt n S t + b) % n) = k by omega, Nat.mod_eq_of_lt hk]
      exact hp
    · refine ⟨b + (k + n - (slt n S t + b) % n), by omega, by omega, ?_⟩
      rw [e1, show (slt n S t + b) % n + (k + n - (slt n S t + b) % n) = k + n by omega, Nat.add_mod_right, Nat.mod_eq_of_lt hk]
      exact hp
/-- For how long a class stays open, by the program. -/
def pSt (n : Nat) (O S : Nat → Int) (c : Int) (t : Int) : Int := tmj n S t (stF (fun j => opB (O ((slt n S t + j) % n)) c) n 0)
def gSum (l : List (Bool × Int)) : Int := l.foldl (fun v x => IntKind.wrap .u64 (v + x.2)) 0
theorem gSum_snoc (l : List (Bool × Int)) (x : Bool × Int) : gSum (l ++ [x]) = IntKind.wrap .u64 (gSum l + x.2) := by simp [gSum]
theorem gSum_pre {n : Nat} {c t : Int} {O S : Nat → Int} (h : okN n S = true) : ∀ k, k ≤ 2 * n + 1 → gSum (gPre n c t O S k) = tmj n S t k
  | 0, _ => rfl
  | k + 1, hk => by
    have hn := (okN_iff.1 h).1
    rw [gPre_succ, gSum_snoc, gSum_pre h k (by omega)]
    have b1 := tmj_bd h t k
    have b2 := spn_bd h t k
    have e : (gX n c t O S k).2 = spn n S t k := rfl
    have e2 : tmj n S t (k + 1) = tmj n S t k + spn n S t k := rfl
    rw [e]
    exact wU64 e2.symm (by omega)
theorem stF_find {p : Nat → Bool} : ∀ (f j k : Nat), j ≤ k → k < j + f → p k = false → (∀ i, j ≤ i → i < k → p i = true) → stF p f j = k
  | 0, j, k, h1, h2, _, _ => by omega
  | f + 1, j, k, h1, h2, h3, h4 => by
    unfold stF
    by_cases e : j = k
    · subst e; rw [if_neg (by rw [h3]; simp)]
    · rw [if_pos (h4 j (Nat.le_refl _) (by omega))]
      exact stF_find f (j + 1) k (by omega) (by omega) h3 (fun i h5 h6 => h4 i (by omega) h6)
set_option maxRecDepth 100000 in
set_option maxHeartbeats 2000000 in
theorem sy_long (n : Nat) (c t : Int) (O S : Nat → Int) (hm : gmB n S c = true) (ha : alwB O c n = false) (ht : 0 ≤ t) : FnOk Try.prog 9 [.nv (.one (.own 0)), iA c, .nv (.one (.val (.int .u64 (t))))] [.ro 2 n (gSl O S)] (.tup [.one (.val (.int .u64 (pSt n O S c t))), .one (.val (.bool true))]) [.gone] := by
  have hm' := hm
  unfold gmB at hm'
  rw [Bool.and_eq_true, decide_eq_true_eq] at hm'
  obtain ⟨hok, hc, hc7⟩ := hm'
  have hn := (okN_iff.1 hok).1
  intro env w0 w St vals hv hmem
  refine (callsIn_wide (n := 3)).1 ?_
  refine callsIn_of_wp_marks (F := Fw none) (n := 3) Try.func9 (c := .seq (subC [false] (bodyOf Try.f9)) (.seq (subC [true, false] (bodyOf Try.f9)) (.seq (subC [true, true, false] (bodyOf Try.f9)) (.seq (.seq (subC [true, true, true, false, false] (bodyOf Try.f9)) (.block 0 (.rangeFunc (.tmp 22) #[23] (subC [true, true, true, false, true, true, false] (bodyOf Try.f9)) (subC [true, true, true, false, true, true, true] (bodyOf Try.f9))))) (subC [true, true, true, true] (bodyOf Try.f9))))))
    (by kernel_rfl) trivial ?_
  have hk0 := ok_start (fn := Try.f9) (tm := (mkSt 32 [(0, .nv (.one (.own 0))), (1, iA c), (2, .nv (.one (.val (.int .u64 t))))] []).tm) hv hmem (by kernel_rfl)
  refine pre_ok (sy_0 n c t O S) hk0 fun env1 a1 w1 k1 => ?_
  refine pre_ok (sy_1 n c t O S (by omega) hc hm ha) k1 fun env2 a2 w2 k2 => ?_
  refine pre_ok (sy_2 n c t O S) k2 fun env3 a3 w3 k3 => ?_
  refine wpIn_seq (pre_ok (sy_3 n c t O S) k3 fun env4 a4 w4 k4 => ?_)
  let M : List (Bool × Int) → List Seg := fun l => [.ro 2 n (gSl O S), .box 23 [.val (.int .u64 (gSum l))], .robox 22 [.own 0], .robox 3 [.val (.int .i64 c)], .robox 23 [.val (.int .u64 t)]]
  have hmem4 : MemOk env4 (M []) w0 w4 St := k4.mem
  obtain ⟨ao, cap, cs0, v0, _⟩ := hmem4.ok 0 _ rfl
  obtain ⟨b1, cs1, v1, _⟩ := hmem4.ok 2 _ rfl
  obtain ⟨b2, cs2, v2, _⟩ := hmem4.ok 3 _ rfl
  obtain ⟨b3, cs3, v3, _⟩ := hmem4.ok 4 _ rfl
  have hIt : ∀ l W, MemOk env4 (M l) w0 W St → ItOk (gItEnv (.slice ao n cap) b1 b2 b3) (gItMem n c t O S) W := fun l W hW => gItOk (hW.ok 0 _ rfl) v0 (hW.ok 2 _ rfl) v1 (hW.ok 3 _ rfl) v2 (hW.ok 4 _ rfl) v3
  have hg : a4.eval (.tmp 22) = .func (.func 25) #[] #[.pointer (some ⟨b1, 0, none⟩), .pointer (some ⟨b3, 0, none⟩), .pointer (some ⟨b2, 0, none⟩)] := by
    obtain ⟨cs, e1, e2⟩ := get_rel k4.tm (.tmp 22)
    rw [e1]
    have : cs.toList = [.pointer (some ⟨b1, 0, none⟩), .pointer (some ⟨b3, 0, none⟩), .pointer (some ⟨b2, 0, none⟩)] := by
      generalize cs.toList = l at e2
      match l, e2 with
      | [x, y, z], ⟨⟨u1, d1, p1, p2, p3⟩, ⟨u2, d2, q1, q2, q3⟩, ⟨u3, d3, r1, r2, r3⟩, _⟩ =>
        rw [v1] at p1; rw [v3] at q1; rw [v2] at r1
        cases p1; cases q1; cases r1
        cases p2; cases q2; cases r2
        rw [p3, q3, r3]; rfl
    rw [← Array.toArray_toList (xs := cs), this]
  refine wpIn_block (rf_wp k4 (by omega) hg (enters_all Try.func25 (by kernel_rfl) rfl) (enc := gEnc) (xs := fun x => .nv (.agg [.val (.bool x.1), .val (.int .u64 x.2)])) (fun x e => ⟨#[.bool x.1, .int .u64 x.2], rfl, rfl, rfl, trivial⟩)
    (stretch_seq hok ht hc (.slice ao n cap) b1 b2 b3 w4 _ (hIt [] w4 hmem4)) (fun h k => k ∘ h) (fun W l o o' _ hl ho _ h => gItOk_put (by omega) h hl ho) M rfl (fun _ => rfl) (fun _ => rfl) ?_ ?_
    (fun l => ∀ x, x ∈ l → x.1 = true) (fun x hx => by cases hx) (fun W W' l h _ => hIt l W' h) (T := 50) (cB := fun x => [.bool x.1, .int .u64 x.2]) (tB := fun x => (mkSt 32 [(8, .nv (.one (.ptr 1 0))), (9, .nv (.one (.ptr 5 0)))] []).tm)
    (fun pre x => sy_4 n c t O S (gSum pre) x.2 x.1)
    (fun e l m' => e = .exit 0 ∧ ∃ pre x, l = pre ++ [x] ∧ (∀ x, x ∈ pre → x.1 = true) ∧ x.1 = false ∧ m' = M pre) ?_ (tE := (mkSt 32 [] []).tm) ?_ ?_ ?_)
  · intro l s hs
    simp only [M, List.mem_cons, List.not_mem_nil, or_false] at hs
    rcases hs with rfl | rfl | rfl | rfl | rfl
    · exact fun i hi => rfl
    all_goals rfl
  · intro j s hj
    match j, hj with
    | 0, hj => cases hj; show 0 < n * 2; omega
    | 1, hj => cases hj; trivial
    | 2, hj => cases hj; trivial
    | 3, hj => cases hj; trivial
    | 4, hj => cases hj; trivial
  · rintro e l m' ⟨_, pre, x, _, _, _, rfl⟩
    refine ⟨rfl, rfl, ?_⟩
    intro s hs
    simp only [M, List.mem_cons, List.not_mem_nil, or_false] at hs
    rcases hs with rfl | rfl | rfl | rfl | rfl
    · exact fun i hi => rfl
    all_goals rfl
  · intro pre x hlen hG
    obtain ⟨xo, xs⟩ := x
    cases xo with
    | true =>
      refine .inl ⟨fun y hy => ?_, ?_⟩
      · rcases List.mem_append.1 hy with h | h
        · exact hG y h
        · simp only [List.mem_cons, List.not_mem_nil, or_false] at h; rw [h]
      · exact sy_5y n c t O S (gSum pre) (gSum (pre ++ [(true, xs)])) xs (gSum_snoc pre (true, xs)).symm
    | false => exact .inr ⟨.exit 0, M pre, by simp, ⟨rfl, pre, _, rfl, hG, rfl, rfl⟩, sy_5n n c t O S (gSum pre) xs⟩
  · rintro D xs W hD rfl hG _ _
    exfalso
    obtain ⟨k, h1, h2, h3⟩ := opj_shut hok ha t 0
    have := hG (gX n c t O S k) (List.mem_map.2 ⟨k, List.mem_range.2 (by omega), rfl⟩)
    have h4 : (gX n c t O S k).1 = opB (O ((slt n S t + k) % n)) c := rfl
    rw [h4, h3] at this
    cases this
  · rintro D e pre m' W hD ⟨k, hk, rfl⟩ ⟨rfl, l, x, hl, hall, hx, rfl⟩ hkW hDW
    have hl' : l = gPre n c t O S k ∧ x = gX n c t O S k := by
      rw [gPre_succ] at hl
      have := List.append_inj' hl rfl
      exact ⟨this.1.symm, by simpa using this.2.symm⟩
    obtain ⟨rfl, rfl⟩ := hl'
    show ((subC [true, true, true, true] (bodyOf Try.f9))).wpIn (Fw none) 3 Try.prog _ _ W
    have hr : gSum (gPre n c t O S k) = pSt n O S c t := by
      rw [gSum_pre hok k (by omega)]
      unfold pSt
      obtain ⟨k', h1, h2, h3⟩ := opj_shut hok ha t 0
      have hkk : ∀ i, i < k → opB (O ((slt n S t + i) % n)) c = true := fun i hi => hall (gX n c t O S i) (List.mem_map.2 ⟨i, List.mem_range.2 hi, rfl⟩)
      have : k ≤ k' := by
        rcases Nat.lt_or_ge k' k with q | q
        · rw [hkk k' q] at h3; cases h3
        · exact q
      rw [stF_find n 0 k (by omega) (by omega) hx (fun i _ hi => hkk i hi)]
    refine wpIn_mono (tail_ok (D := D) (sy_6 n c t O S (gSum (gPre n c t O S k))) hkW rfl hDW) ?_
    rintro e a5 w5 ⟨hd5, rfl, hD5, env5, k5⟩
    rw [hr] at k5
    have hdef : a5.defers = [{ target := .collected D, args := #[] }] := by rw [hd5, k4.defers]
    exact rf_end (fn := Try.f9) (tg := true) (st := mkSt 32 [(6, .nv (.one (.val (.int .u64 (pSt n O S c t))))), (7, bA true)] [.gone]) (r := .tup [.one (.val (.int .u64 (pSt n O S c t))), .one (.val (.bool true))]) (o := []) (by kernel_rfl) trivial hmem.top rfl k5 hD5 (Nat.le_trans hmem4.grow hD) hdef
end Go.Proofs.Ytoincoicgfnbiaa

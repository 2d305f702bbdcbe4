/- gate: what stretches hands over, one by one. No condition. -/
import Derived.Test.YtoincoicgfnbiaaGaN
namespace Go.Proofs.Ytoincoicgfnbiaa
set_option linter.unusedVariables false
set_option linter.unusedSimpArgs false
open Go.RowKit E
def gItEnv (v : Value) (b1 b2 b3 : Nat) : Env := fun h => if h = 0 then some v else if h = 1 then some (.pointer (some ⟨b1, 0, none⟩)) else if h = 2 then some (.pointer (some ⟨b2, 0, none⟩)) else if h = 3 then some (.pointer (some ⟨b3, 0, none⟩)) else none
abbrev gItMem (n : Nat) (c t : Int) (O S : Nat → Int) : List Seg := [.ro 2 n (gSl O S), .robox 22 [.own 0], .robox 3 [.val (.int .i64 c)], .robox 23 [.val (.int .u64 t)]]
def gEnc (x : Bool × Int) : Value := .agg #[.bool x.1, .int .u64 x.2]
def gX (n : Nat) (c t : Int) (O S : Nat → Int) (j : Nat) : Bool × Int := (opB (O ((slt n S t + j) % n)) c, spn n S t j)
def gPre (n : Nat) (c t : Int) (O S : Nat → Int) (k : Nat) : List (Bool × Int) := (List.range k).map (gX n c t O S)
theorem gPre_succ {n : Nat} {c t : Int} {O S : Nat → Int} (k : Nat) : gPre n c t O S (k + 1) = gPre n c t O S k ++ [gX n c t O S k] := by simp [gPre, List.range_succ]
theorem gPre_len {n : Nat} {c t : Int} {O S : Nat → Int} (k : Nat) : (gPre n c t O S k).length = k := by simp [gPre]
theorem E.AllSV.forget {env : Env} : ∀ {l : List SV} {vs : List Value} (i : Nat), AllSV env l vs → AllSV env (l.set i .any) vs
  | [], [], _, h => h
  | _ :: _, _ :: _, 0, h => ⟨trivial, h.2⟩
  | _ :: _, _ :: _, i + 1, h => ⟨h.1, AllSV.forget i h.2⟩
  | [], _ :: _, _, h => h.elim
  | _ :: _, [], _, h => h.elim
theorem w_set {a : Act} {i : Nat} {v : Value} : (a.put (some i) v).tmps.toList = a.tmps.toList.set i v := by simp [Act.put]
set_option maxRecDepth 100000 in
set_option maxHeartbeats 1000000 in
theorem stretch_seq {n : Nat} {c t : Int} {O S : Nat → Int} (hok : okN n S = true) (ht : 0 ≤ t) (hc : 0 ≤ c) (v : Value) (b1 b2 b3 : Nat) (w : World) (d : Nat) (hI : ItOk (gItEnv v b1 b2 b3) (gItMem n c t O S) w) :
    SeqStopsK (Fw none) d Try.prog 25 #[.pointer (some ⟨b1, 0, none⟩), .pointer (some ⟨b3, 0, none⟩), .pointer (some ⟨b2, 0, none⟩)] (fun x => #[gEnc x]) (fun W W' => ItOk (gItEnv v b1 b2 b3) (gItMem n c t O S) W → ItOk (gItEnv v b1 b2 b3) (gItMem n c t O S) W')
      (fun xs => xs = gPre n c t O S (2 * n + 1)) (fun pre => ∃ k, k < 2 * n + 1 ∧ pre = gPre n c t O S (k + 1)) (2 * n + 1) w := by
  have hn := (okN_iff.1 hok).1
  generalize hE : gItEnv v b1 b2 b3 = env at *
  have hr : roMem (gItMem n c t O S) = true := rfl
  have htop : ∀ j, (gItMem n c t O S).length ≤ j → env j = none := fun j hj => by
    have hj : 4 ≤ j := hj
    rw [← hE]; unfold gItEnv; rw [if_neg (by omega), if_neg (by omega), if_neg (by omega), if_neg (by omega)]
  intro l J Jx W hW hJ hJx hY h0
  have hIW : ItOk env (gItMem n c t O S) W := fun j s hj => (hI j s hj).heap (fun b _ _ hb => hW.block b hb)
  let yv : SV := .nv (.one (.val (.func (.yield l) #[] #[])))
  let HD : Nat → Int → Nat → List SV := fun i r k => (mkSt 44 [(0, yv), (1, .nv (.one (.ptr 1 0))), (2, .nv (.one (.ptr 3 0))), (3, .nv (.one (.ptr 2 0))), (5, iA i), (6, .nv (.one (.val (.int .u64 r)))), (16, iA (2 * n + 1 : Nat)), (17, iA k)] []).tm
  have hi : ∀ k, (slt n S t + k) % n < n := fun k => Nat.mod_lt _ (by omega)
  have hkey : ∀ (m k : Nat) (a : Act) (w : World), m + k = 2 * n + 2 → k ≤ 2 * n + 1 → ItAt env (HD ((slt n S t + k) % n) (spn n S t k) k) (gItMem n c t O S) a w → J (gPre n c t O S k) w →
      Code.roundsIn (Fw none) d Try.prog (.seq (subC [true, true, true, true, false] (bodyOf Try.f25)) (.seq (subC [true, true, true, true, true, false] (bodyOf Try.f25)) (.seq (.block 1 (.seq (.seq itR (.cond (.tmp 32) .ret .skip)) (subC [true, true, true, true, true, true, false, true, true] (bodyOf Try.f25)))) (subC [true, true, true, true, true, true, true] (bodyOf Try.f25)))))
        (Exit.inBlock 0 (bodyPost Try.prog Try.f25 (fun e W' => (∃ v, e = .returned v) ∧ ((∃ xs, xs = gPre n c t O S (2 * n + 1) ∧ J xs W') ∨ (∃ pre, (∃ k, k < 2 * n + 1 ∧ pre = gPre n c t O S (k + 1)) ∧ Jx pre W'))))) m a w := by
    intro m
    induction m with
    | zero => intro k a w h1 h2; omega
    | succ m ih =>
      intro k a w h1 h2 hA hJk
      unfold Code.roundsIn
      refine it_seq hr htop (it_2 n l c t O S _ k (spn n S t k)) hA fun a1 w1 x1 hA1 => ?_
      by_cases hk : k < 2 * n + 1
      · refine it_seq hr htop (it_3y n l c t O S _ k (spn n S t k) hk) hA1 fun a2 w2 x2 hA2 => ?_
        refine wpIn_seq (wpIn_block (wpIn_seq (wpIn_seq ?_)))
        rw [show itR = .region (idOf itR) (itL ++ [itC, itU]).toArray true by kernel_rfl]
        refine it_4 n l c t O S _ k (spn n S t k) (gX n c t O S k).1 (by omega) (hi k) hc rfl d ⟨w2, NoS, 4, env⟩ env a2 w2 _ rfl hA2 ?_
        intro env' a3 w3 hk3
        obtain ⟨x3, hA3⟩ := ItAt.of (tm := HD ((slt n S t + k) % n) (spn n S t k) k) hr htop hk3
        have hJ3 := abides_ext hJ (abides_ext hJ (abides_ext hJ hJk x1) x2) x3
        unfold wpOpIn
        rw [show (itL ++ [itC, itU]).toArray[itL.length]? = some itC by kernel_rfl]
        simp only [show ∀ f, Region.wanted itC f = true from fun f => by simp [Region.wanted, show itC.guard = none by kernel_rfl], if_true]
        refine op_yield (f := .tmp 19) (xs := #[.tmp 30]) (ats := #[50]) (by kernel_rfl) (vals := #[gEnc (gX n c t O S k)]) ?_ ?_ (hY (gPre n c t O S k) (gX n c t O S k) w3 hJ3 (by rw [gPre_len]; exact hk)) ?_
        · exact get_rel hA3.tm (.tmp 19)
        · have := get_rel hA3.tm (.tmp 30)
          obtain ⟨cs, e1, e2⟩ := this
          have e3 : cs.toList = [.bool (gX n c t O S k).1, .int .u64 (spn n S t k)] := cvals_eq (vs := [.bool (gX n c t O S k).1, .int .u64 (spn n S t k)]) e2
          have e4 : cs = #[.bool (gX n c t O S k).1, .int .u64 (spn n S t k)] := by rw [← Array.toArray_toList (xs := cs), e3]
          simp only [List.map_toArray, List.map_cons, List.map_nil, e1, e4]
          rfl
        · intro e W' hR
          have hop : ∀ b : Bool, ∀ K : Act → World → Prop, ∀ Q : Exit → Act → World → Prop, (∀ a5, a5.defers = [] → a5.eval (.tmp 32) = .bool (!b) → AllSV env (HD ((slt n S t + k) % n) (spn n S t k) k) a5.tmps.toList → K a5 W') →
              wpOpIn (Fw none) d Try.prog (itL ++ [itC, itU]).toArray Q (itL.length + 1) K (a3.put itC.dst (.bool b)) W' := by
            intro b K Q hK
            unfold wpOpIn
            rw [show (itL ++ [itC, itU]).toArray[itL.length + 1]? = some itU by kernel_rfl]
            simp only [show ∀ f, Region.wanted itU f = true from fun f => by simp [Region.wanted, show itU.guard = none by kernel_rfl], if_true]
            have ha : AllSV env (((HD ((slt n S t + k) % n) (spn n S t k) k).set 31 (.nv (.one (.val (.bool b)))))) (a3.put itC.dst (.bool b)).tmps.toList := by
              rw [show itC.dst = some 31 by kernel_rfl, w_set]
              exact AllSV.set 31 ((hA3.tm.forget 19).forget 30) rfl
            refine op_not (t := 4) (s := 31) (b := b) (by kernel_rfl) (get_rel ha (.tmp 31)) ?_
            rw [show itU.dst = some 32 by kernel_rfl]
            have ha2 : AllSV env ((((HD ((slt n S t + k) % n) (spn n S t k) k).set 31 (.nv (.one (.val (.bool b)))))).set 32 (.nv (.one (.val (.bool !b))))) ((a3.put itC.dst (.bool b)).put (some 32) (.bool !b)).tmps.toList := by
              rw [w_set]
              exact AllSV.set 32 ha rfl
            exact hK _ (by rw [put_defers, put_defers]; exact hA3.defers) (get_rel ha2 (.tmp 32)) ((ha2.forget 31).forget 32)
          rcases hR with ⟨rfl, hJ', hKp⟩ | ⟨rfl, hJx'⟩
          · refine ⟨.bool true, rfl, hop true _ _ fun a5 hd5 h32 ha5 => ?_⟩
            have hA5 : ItAt env (HD ((slt n S t + k) % n) (spn n S t k) k) (gItMem n c t O S) a5 W' := itAt hr htop hd5 ha5 (hKp hA3.mem.ok)
            refine wpIn_cond_false h32 (wpIn_skip ?_)
            refine wpIn_mono (it_step hr htop (it_6 n l c t O S _ ((slt n S t + (k + 1)) % n) k (spn n S t k) (spn n S t (k + 1)) (by omega) (hi k) (hi (k + 1)) ?_ ?_) hA5) ?_
            · have h1 := hi k
              rw [w64 (b := (((slt n S t + k) % n : Nat) : Int) + 1) rfl (by omega), Int.tmod_eq_emod_of_nonneg (by omega)]
              have : (slt n S t + (k + 1)) % n = ((slt n S t + k) % n + 1) % n := by rw [← Nat.add_assoc, Nat.mod_add_mod]
              rw [this]; push_cast; rfl
            · unfold spn; rw [if_neg (by omega)]
            · rintro e a6 w6 ⟨rfl, x6, hA6⟩
              refine wpIn_mono (it_step hr htop (it_7 n l c t O S _ k (spn n S t (k + 1)) (by omega)) hA6) ?_
              rintro e a7 w7 ⟨rfl, x7, hA7⟩
              refine ih (k + 1) a7 w7 (by omega) (by omega) hA7 ?_
              rw [gPre_succ]
              exact abides_ext hJ (abides_ext hJ hJ' x6) x7
          · refine ⟨.bool false, rfl, hop false _ _ fun a5 hd5 h32 ha5 => ?_⟩
            refine wpIn_cond_true h32 (wpIn_ret ?_)
            refine ⟨hd5, _, results_none rfl _ _ _, ⟨_, rfl⟩, .inr ⟨_, ⟨k, hk, rfl⟩, ?_⟩⟩
            rw [gPre_succ]; exact hJx'
      · have hk' : k = 2 * n + 1 := by omega
        refine it_seqX (by simp) hr htop (it_3n n l c t O S _ k (spn n S t k) hk') hA1 fun a2 w2 x2 hA2 => ?_
        refine ⟨hA2.defers, _, results_none rfl _ _ _, ⟨_, rfl⟩, .inl ⟨_, rfl, ?_⟩⟩
        rw [← hk']
        exact abides_ext hJ (abides_ext hJ hJk x1) x2
  refine callsIn_of_wp Try.func25 (c := .seq (subC [false] (bodyOf Try.f25)) (.seq (subC [true, false] (bodyOf Try.f25)) (.block 0 (.loop (.seq (subC [true, true, true, true, false] (bodyOf Try.f25)) (.seq (subC [true, true, true, true, true, false] (bodyOf Try.f25)) (.seq (.block 1 (.seq (.seq itR (.cond (.tmp 32) .ret .skip)) (subC [true, true, true, true, true, true, false, true, true] (bodyOf Try.f25)))) (subC [true, true, true, true, true, true, true] (bodyOf Try.f25)))))))))
    (by kernel_rfl) trivial ?_
  have hA0 : ItAt env (mkSt 44 [(0, yv), (1, .nv (.one (.ptr 1 0))), (2, .nv (.one (.ptr 3 0))), (3, .nv (.one (.ptr 2 0)))] []).tm (gItMem n c t O S) { tmps := (#[.func (.yield l) #[] #[]] ++ #[.pointer (some ⟨b1, 0, none⟩), .pointer (some ⟨b3, 0, none⟩), .pointer (some ⟨b2, 0, none⟩)]) ++ Array.replicate (Try.f25.ntmps - ((#[.func (.yield l) #[] #[]] ++ #[.pointer (some ⟨b1, 0, none⟩), .pointer (some ⟨b3, 0, none⟩), .pointer (some ⟨b2, 0, none⟩)]) : Array Value).size) undef, defers := [] } W := by
    refine itAt hr htop rfl ?_ hIW
    rw [show Try.f25.ntmps = 44 by kernel_rfl]
    have e : ∀ j, env j = gItEnv v b1 b2 b3 j := fun j => by rw [hE]
    have hp : ∀ b : Nat, (⟨b, 0, none⟩ : Addr).add 0 = ⟨b, 0, none⟩ := fun b => rfl
    have h1 : AllSV env [yv, .nv (.one (.ptr 1 0)), .nv (.one (.ptr 3 0)), .nv (.one (.ptr 2 0))] [.func (.yield l) #[] #[], .pointer (some ⟨b1, 0, none⟩), .pointer (some ⟨b3, 0, none⟩), .pointer (some ⟨b2, 0, none⟩)] :=
      ⟨rfl, ⟨_, ⟨b1, 0, none⟩, (e 1).trans rfl, rfl, rfl⟩, ⟨_, ⟨b3, 0, none⟩, (e 3).trans rfl, rfl, rfl⟩, ⟨_, ⟨b2, 0, none⟩, (e 2).trans rfl, rfl, rfl⟩, trivial⟩
    have h2 := h1.append (AllSV.anys (env := env) (List.replicate 40 undef))
    rw [List.length_replicate] at h2
    have e1 : (mkSt 44 [(0, yv), (1, .nv (.one (.ptr 1 0))), (2, .nv (.one (.ptr 3 0))), (3, .nv (.one (.ptr 2 0)))] []).tm = [yv, .nv (.one (.ptr 1 0)), .nv (.one (.ptr 3 0)), .nv (.one (.ptr 2 0))] ++ List.replicate 40 .any := by kernel_rfl
    rw [e1]
    simp only [Array.toList_append, Array.toList_replicate, List.size_toArray, Array.size_append, List.length_cons, List.length_nil, Nat.reduceAdd, Nat.reduceSub, List.cons_append, List.nil_append] at h2 ⊢
    exact h2
  refine it_seq hr htop (it_0 n l c t O S hok ht) hA0 fun a1 w1 x1 hA1 => ?_
  refine it_seq hr htop (it_1 n l c t O S (slt n S t) (lft n S t) (by omega)) hA1 fun a2 w2 x2 hA2 => ?_
  refine wpIn_block (wpIn_loop_rounds (2 * n + 2) (hkey (2 * n + 2) 0 a2 w2 (by omega) (by omega) ?_ (abides_ext hJ (abides_ext hJ h0 x1) x2)))
  rw [Nat.add_zero, Nat.mod_eq_of_lt (slt_spec hok t).1, show spn n S t 0 = lft n S t from rfl]
  exact hA2
end Go.Proofs.Ytoincoicgfnbiaa

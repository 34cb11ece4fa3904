/- A part of a row of the call's own, given to a call; functions whose result is a row of words of the caller's. No condition. Division by the schoolbook: what its loops hold. No condition. Division by the schoolbook. No condition. Division, and the greatest common divisor. No condition. Rational numbers with a power of 2 below. No condition. The rational numbers of the reference. No condition. Operations under a test whose outcome is known, in a region whose order is open. No condition. A float as a rational number; Holds. No condition. What the floats of a pair add up to, plain. No condition. Division by 1; a ratio by 1, rounded. No condition. Conversions, plain. No condition. The integer part of a number; the arguments of conversions. No condition. Rounding of rational numbers whose denominator is 1; the program awake. No condition. The law ConvertFormats. No condition. The law ConvertLarge. No condition. A rational number of the reference, rounded to an integer. No condition. The law ConvertIntegrals. No condition. The field of a value, under a test that holds, in a region whose order is open. No condition. Integers that are alike. No condition. The law ConvertWhole. No condition. The law ConvertInts. No condition. Division of two words by one. No condition. -/
import Derived.Test.YtbhokdhkfodpfaaGreatDoorMi
import Derived.Test.YtbhokdhkfodpfaaGreatDoorMh
import Derived.Test.YtbhokdhkfodpfaaGreatDoorMf
import Derived.Test.YtbhokdhkfodpfaaGreatDoorMd
import Derived.Test.YtbhokdhkfodpfaaGreatDoorMg
import Derived.KernelRfl
/- A part of a row of the call's own, given to a call; functions whose result is a row of words of the caller's. No condition. -/
namespace Go.Proofs.YtbhokdhkfodpfaaGreatDoor
set_option linter.unusedVariables false
set_option linter.unusedSimpArgs false
section
variable {P : Program} {G : Gl} {nt : Nat} {st : St} {cx : Cx} {a : Act} {W W' : World} {m : Nat → Option Nat} {QE : Exit → St → Prop} {ops l : List Oper} {Q : St → Prop}
/-- A part of a row of words that this call writes, read by the call that follows. -/
theorem DoL.part {o1 o2 o3 : Oper} {t e : TypeId} {b1 z1 : Nat} {c1 : List Ce} {te : TI} {x lo hi y : Operand} {j n d1 d2 : Nat} {w : List Nat} {l0 h0 : Int} {yv : PV} {f : FuncId} {xf : Operand} {ts : Array TypeId} {ret : TV} (md : Bool) (lab : Nat)
    (hg1 : o1.guard = none) (hop1 : o1.op = .slice t x (some lo) (some hi) none) (hd1 : o1.dst = some d1) (hn1 : d1 < nt)
    (hg2 : o2.guard = none) (hop2 : o2.op = .move y) (hd2 : o2.dst = some d2) (hn2 : d2 < nt) (hne : d2 ≠ d1)
    (hg3 : o3.guard = none) (hop3 : o3.op = .call { callee := .value xf, args := #[.tmp d1, .tmp d2], argTypes := ts }) (hd3 : dstOk nt o3.dst = true)
    (ht : tiOf P t = some ⟨b1, z1, c1, .slice e⟩) (he : tiOf P e = some te) (hsz : te.size = 1)
    (hx : opv st.tm x = some (.v (.c (.r j n)))) (hj : lk j st.ob = some (.wr w)) (hlo : opv st.tm lo = some (.v (.c (.i .i64 l0)))) (hhi : opv st.tm hi = some (.v (.c (.i .i64 h0))))
    (hy : opv (del d1 st.tm) y = some (.v yv)) (hxf : opv (put d2 (.v yv) (del d1 st.tm)) xf = some (.v (.c (.f f))))
    (hp : w.length = n ∧ 0 ≤ l0 ∧ l0 ≤ h0 ∧ h0 ≤ w.length) (hD : Does P G f [.c (.w false ((w.drop l0.toNat).take (h0.toNat - l0.toNat))), yv.ext] ret) (hl : ret.labs = []) (hf : ret.fr = true)
    (next : runs P G nt md ops Q lab l ⟨setv o3.dst (some ret) (put d2 (.v yv) (del d1 st.tm)), st.ob⟩) : DoL P G nt ops (o1 :: o2 :: o3 :: l) st Q := by
  intro cx a W hn ⟨m, hr⟩ Q' hQ
  subst hn
  have hw : RP (enA W (okC cx m st W true)) (.c (.w false w)) (a.eval x) := row_words hr hj hp.1 (hr.opv hx) rfl false fun b hb => ⟨.inr ⟨rfl, j, _, hj, hb⟩, fun e => (by cases e)⟩
  have vlo : a.eval lo = .int .i64 l0 := hr.opv hlo
  have vhi : a.eval hi = .int .i64 h0 := hr.opv hhi
  obtain ⟨_, yy, u, e1, e2, e3⟩ := sliceM_run (P := P) (W := W) (tiOf_slice ht) he (x := .v (.c (.w false w))) hw (n := w.length) (lo := l0) (hi := h0) (mx := none) (vlo := some (a.eval lo)) (vhi := some (a.eval hi)) (vmx := none) rfl (.inr (by rw [vlo])) (.inl ⟨rfl, rfl, .inr (by rw [vhi])⟩) (out := ⟨0 ≤ l0 ∧ l0 ≤ h0 ∧ h0 ≤ w.length ∧ (∀ x : Int, none = some x → h0 ≤ x ∧ x ≤ w.length), some (.v (.c (.w false ((w.drop l0.toNat).take (h0.toNat - l0.toNat))))), .none⟩) (by simp only [sliceM]; rw [if_pos hsz]) ⟨hp.2.1, hp.2.2.1, hp.2.2.2, fun x hx => by cases hx⟩
  injection e1 with e1; subst e1
  -- the part
  refine wpList_plain hg1 fun K1 hK1 => ?_
  unfold Oper.wp
  have x1 : (execOp a.eval o1).run P W = .ok (.value u) W := by
    have : execOp a.eval o1 = (do pure (.value (← Instr.sliceAt t (a.eval x) (some (a.eval lo)) (some (a.eval hi)) none))) := by
      unfold execOp; simp [hop1]
    rw [this]; simp [e2]
  rw [x1]
  refine hK1 _ _ ?_
  rw [hd1]
  have h1 := hr.forget d1 u
  generalize ha1 : a.put (some d1) u = a1 at *
  have hu1 : a1.tmps[d1]? = some u := by rw [← ha1]; simp [Act.put, hr.nt, hn1]
  -- the other argument
  refine wpList_plain hg2 fun K2 hK2 => ?_
  unfold Oper.wp
  have hyv : RT (en cx m st.ob W) (.v yv) (a1.eval y) := h1.opv hy
  have x2 : (execOp a1.eval o2).run P W = .ok (.value (a1.eval y)) W := by unfold execOp; simp [hop2]
  rw [x2]
  refine hK2 _ _ ?_
  rw [hd2]
  have h2 := h1.slot hn2 hyv
  generalize ha2 : a1.put (some d2) (a1.eval y) = a2 at *
  have hu2 : a2.tmps[d1]? = some u := by rw [← ha2]; simp [Act.put, Array.getElem?_setIfInBounds_ne hne, hu1]
  have hv2 : a2.tmps[d2]? = some (a1.eval y) := by rw [← ha2]; simp [Act.put, h1.nt, hn2]
  -- the call
  refine wpList_plain hg3 fun K hK => ?_
  unfold Oper.wp
  have hxv : a2.eval xf = .func (.func f) #[] #[] := h2.opv hxf
  have hexec : execOp a2.eval o3 = callFunc f [u, a1.eval y].toArray := by
    have q1 : a2.eval (.tmp d1) = u := by simp [Act.eval, hu2]
    have q2 : a2.eval (.tmp d2) = a1.eval y := by simp [Act.eval, hv2]
    unfold execOp
    simp [hop3, resolve, hxv, Deferred.ofValue, invoke, q1, q2]
  have hok : ∀ b, okC cx m st W true b → b < W.heap.size := by
    rintro b (h | ⟨_, j, o, g1, g2⟩)
    · exact h.2.1
    · exact (hr.own j o b g1 g2).1
  have hargs : All2 (RP (enA W (okC cx m st W true))) [.c (.w false ((w.drop l0.toNat).take (h0.toNat - l0.toNat))), yv.ext] [u, a1.eval y] :=
    .cons e3 (.cons (PLe.ext _ _ _ (RP.mono (okC_le cx m st W true) (fun _ _ => trivial) hyv)) .nil)
  rcases hD W (okC cx m st W true) _ hok h2.glOk hargs with ⟨g1, g2⟩ | ⟨v, g1, g2⟩
  · rw [hexec, g1]
    refine g2.mono fun en' W' ⟨v, he, hb, hrt⟩ => ?_
    subst he
    exact hK _ _ (DoL.run next cx _ _ rfl (Rel.put (h2.below hb) rfl hd3 (call_res (pur := true) (st := ⟨put d2 (.v yv) (del d1 st.tm), st.ob⟩) h2 hb hl (.inr hf) hrt)) Q' hQ)
  · rw [hexec, g1]
    have hb := RowKit.Below.refl W.heap.size W
    exact hK _ _ (DoL.run next cx _ _ rfl (Rel.put h2 rfl hd3 (call_res (pur := true) (st := ⟨put d2 (.v yv) (del d1 st.tm), st.ob⟩) h2 hb hl (.inr hf) g2)) Q' hQ)
/-- What a call computes whose one result is a row of words that its caller alone holds. -/
def DoesW (P : Program) (G : Gl) (f : FuncId) (args : List PV) (w : List Nat) : Prop :=
  ∀ (W : World) (ok : Nat → Prop) (vals : List Value), (∀ b, ok b → b < W.heap.size) → GlOk G W → All2 (RP (enA W ok)) args vals →
    (callFunc f vals.toArray).run P W = .ok (.enter f vals.toArray) W ∧ Calls P f vals.toArray W (fun e W' => ∃ sv bo, e = .returned sv ∧ RowKit.Below W.heap.size W W' ∧ (∀ b, bo = some b → W.heap.size ≤ b ∧ b < W'.heap.size) ∧
      RC (enO W W' ok bo (.wr w)) (.r 0 w.length) sv ∧ RO (enO W W' ok bo (.wr w)) 0 (.wr w))
def endRow (w : List Nat) (rs : List ResultVar) (e : Exit) (s : St) : Prop :=
  (e = .ret ∨ e = .normal) ∧ match rs with
    | [.tmp t] => (match lk t s.tm with
      | some (.v (.c (.r j n))) => n = w.length ∧ lk j s.ob = some (.wr w)
      | _ => False)
    | _ => False
theorem DoesW.of {f : FuncId} {fn : Func} {c : Code} {args : List PV} {w : List Nat} (hf : P.funcs[f]? = some fn) (hname : (fn.name == "runtime.NumGoroutine") = false) (hb : fn.body = some c) (hnt : fn.ntmps = nt) (hal : args.length ≤ nt)
    (h : Do P G nt c ⟨argTm 0 args, []⟩ (endRow w fn.results.toList)) : DoesW P G f args w := by
  intro W ok vals hok hgl hargs
  refine ⟨?_, ?_⟩
  · have hn' : fn.name ≠ "runtime.NumGoroutine" := by simpa using hname
    simp [callFunc, hf, hn', hb]
  · refine calls_of_wp hf hb ?_
    refine Code.wp_mono (fun e a' W' ⟨s, hq, m', hs⟩ => ?_) (h _ _ W rfl ⟨_, start_rel hok hgl hargs hal hnt⟩)
    obtain ⟨he, hret⟩ := hq
    split at hret
    case h_2 => exact hret.elim
    rename_i t hrs
    split at hret
    case h_2 => exact hret.elim
    rename_i j n ht
    obtain ⟨rfl, hj⟩ := hret
    obtain ⟨sv, hv, hrt⟩ := hs.tm t _ ht
    have hg : a'.tmps.getD t undef = sv := by simp [hv]
    have hres : (results fn a'.tmps).run P W' = .ok sv W' := by
      have hfun : results fn a'.tmps = (do let vs ← fn.results.mapM (resOf a'.tmps); pure (if h : vs.size = 1 then vs[0] else .tuple vs)) := by
        unfold results
        congr 1
      rw [hfun]
      have h1 : (resOf a'.tmps (.tmp t)).run P W' = .ok sv W' := by simp [resOf, hg]
      simp only [Sem.run_bind, Array.mapM_eq_mapM_toList, Sem.run_map, hrs, List.mapM_cons, List.mapM_nil, h1, Result.andThen_ok, Sem.run_pure]
      simp
    have hbelow : RowKit.Below W.heap.size W W' := ⟨hs.os, hs.tape, hs.output, hs.size, fun k hk => hs.keep k hk id⟩
    have hown : ∀ b, m' j = some b → W.heap.size ≤ b ∧ b < W'.heap.size := fun b hb => by
      obtain ⟨q1, q2⟩ := hs.own j _ b hj hb
      exact ⟨q2.elim id fun e => e.1.elim, q1⟩
    have hO : ∃ bo, (∀ b, bo = some b → W.heap.size ≤ b ∧ b < W'.heap.size) ∧ RC (enO W W' ok bo (.wr w)) (.r 0 w.length) sv ∧ RO (enO W W' ok bo (.wr w)) 0 (.wr w) := by
      refine ⟨m' j, hown, ⟨hrt.1, fun o' ho' hle' => ?_⟩, ?_⟩
      · obtain rfl : Ob.wr w = o' := by simpa [enO] using ho'
        obtain ⟨_, k2⟩ := hrt.2 _ hj (Nat.le_refl _)
        exact ⟨rfl, k2⟩
      · rcases hs.ob j _ hj with ⟨y1, y2⟩ | ⟨b', vs, e2, r1, r2, r3⟩
        · exact .inl ⟨y1, y2⟩
        · exact .inr ⟨b', vs, e2, r1, r2, r3⟩
    obtain ⟨bo, k1, k2, k3⟩ := hO
    have hfin : ∃ sv' bo, (Ending.returned sv) = .returned sv' ∧ RowKit.Below W.heap.size W W' ∧ (∀ b, bo = some b → W.heap.size ≤ b ∧ b < W'.heap.size) ∧
      RC (enO W W' ok bo (.wr w)) (.r 0 w.length) sv' ∧ RO (enO W W' ok bo (.wr w)) 0 (.wr w) :=
      ⟨sv, bo, rfl, hbelow, k1, k2, k3⟩
    rcases he with rfl | rfl
    · exact ⟨hs.df, _, hres, hfin⟩
    · exact ⟨hs.df, _, hres, hfin⟩
/-- A call whose one result is a row of words of this function's own from here on. -/
theorem DoL.callW {o : Oper} {f : FuncId} {x : Operand} {az : Array Operand} {ts : Array TypeId} {p : Prop} {args : List PV} {w : List Nat} (md : Bool) (lab lo : Nat) (hg : o.guard = none) (hop : o.op = .call { callee := .value x, args := az, argTypes := ts })
    (hx : opv st.tm x = some (.v (.c (.f f)))) (ha : argsOf st az.toList = some (p, args, false)) (hp : p) (hD : DoesW P G f args w) (hf : st.free lo = true) (hd : dstOk nt o.dst = true)
    (next : runs P G nt md ops Q lab l ⟨setv o.dst (some (.v (.c (.r lo w.length)))) st.tm, put lo (.wr w) st.ob⟩) : DoL P G nt ops (o :: l) st Q := by
  intro cx a W hn ⟨m, hr⟩ Q' hQ
  refine wpList_plain hg fun K hK => ?_
  unfold Oper.wp
  have hxv : a.eval x = .func (.func f) #[] #[] := hr.opv hx
  have hargs := argsOf_run hr ha hp false id
  have hok : ∀ b, okC cx m st W false b → b < W.heap.size := by
    rintro b (h | ⟨e, _⟩)
    · exact h.2.1
    · cases e
  have hexec : execOp a.eval o = callFunc f (az.toList.map a.eval).toArray := by
    have e1 : (az.toList.map a.eval).toArray = az.map a.eval := by apply Array.ext'; simp
    unfold execOp
    simp [hop, resolve, hxv, Deferred.ofValue, invoke, e1]
  obtain ⟨h1, h2⟩ := hD W (okC cx m st W false) _ hok hr.glOk hargs
  rw [hexec, h1]
  refine h2.mono ?_
  rintro e W' ⟨sv, bo, rfl, hb, hbo, q1, q2⟩
  have hro : RO (en cx (upd m lo bo) (put lo (.wr w) st.ob) W') lo (.wr w) := by
    rcases q2 with ⟨y1, y2⟩ | ⟨b', vs, e2, r1, r2, r3⟩
    · exact .inl ⟨y1, by show upd m lo bo lo = none; rw [upd_self]; exact y2⟩
    · exact .inr ⟨b', vs, e2, by show upd m lo bo lo = _; rw [upd_self]; exact r1, r2, r3⟩
  have hr2 := hr.adopt hb hf hbo hro
  have hsv : RC (en cx (upd m lo bo) (put lo (.wr w) st.ob) W') (.r lo w.length) sv := by
    refine ⟨q1.1, fun o' ho' hle => ?_⟩
    have ho2 : lk lo (put lo (.wr w) st.ob) = some o' := ho'
    rw [lk_put_self] at ho2; injection ho2 with ho2; subst ho2
    obtain ⟨k1, k2⟩ := q1.2 (.wr w) rfl (Nat.le_refl _)
    refine ⟨rfl, ?_⟩
    show (_ ∧ _ ∧ upd m lo bo lo = none) ∨ ∃ b cap e, upd m lo bo lo = some b ∧ _
    rw [upd_self]
    exact k2
  have hput := Rel.put (st := ⟨st.tm, put lo (.wr w) st.ob⟩) hr2 hn hd (x := .v (.c (.r lo w.length))) (v := sv) hsv
  exact hK _ _ (DoL.run next cx _ _ hn hput Q' hQ)
/-- The lesser of two words. -/
theorem DoL.minN {o : Oper} {x y : Operand} {ts : Array TypeId} {u v : Nat} (md : Bool) (lab : Nat) (hg : o.guard = none) (hop : o.op = .call { callee := .builtin .min, args := #[x, y], argTypes := ts }) (hx : opv st.tm x = some (.v (.c (.n u)))) (hy : opv st.tm y = some (.v (.c (.n v)))) (hd : dstOk nt o.dst = true)
    (next : runs P G nt md ops Q lab l ⟨setv o.dst (some (.v (.c (.n (min u v))))) st.tm, st.ob⟩) : DoL P G nt ops (o :: l) st Q := by
  intro cx a W hn ⟨m, hr⟩ Q' hQ
  refine wpList_plain hg fun K hK => ?_
  unfold Oper.wp
  have hxv : a.eval x = .int .u64 u := rt_n (hr.opv hx)
  have hyv : a.eval y = .int .u64 v := rt_n (hr.opv hy)
  have hm : (Builtin.min2 (.int .u64 u) (.int .u64 v)).run P W = .ok (.int .u64 ((min u v : Nat) : Int)) W := by
    by_cases h : u ≤ v
    · simp [Builtin.min2, Nat.min_eq_left h]; omega
    · simp [Builtin.min2, Nat.min_eq_right (Nat.le_of_lt (Nat.lt_of_not_le h))]; omega
  have hexec : (execOp a.eval o).run P W = .ok (.value (.int .u64 ((min u v : Nat) : Int))) W := by
    simp [execOp, hop, hxv, hyv, resolve, invoke, builtin, Builtin.min_, hm]
  rw [hexec]
  exact hK _ _ (DoL.run next cx _ _ hn (Rel.put hr hn hd (x := .v (.c (.n (min u v)))) (show _ = _ from rfl)) Q' hQ)
end
end Go.Proofs.YtbhokdhkfodpfaaGreatDoor
/- Division by the schoolbook: what its loops hold. No condition. -/
namespace Go.Proofs.YtbhokdhkfodpfaaGreatDoor
set_option linter.unusedVariables false
set_option linter.unusedSimpArgs false
set_option maxHeartbeats 2000000
/-- The digits from i on, below i + k. -/
theorem dg_part {A L i k : Nat} (h : i + k ≤ L) : ((dg A L).drop i).take k = dg (hgh A i) k := by
  refine dg_ext (by rw [List.length_take, List.length_drop, dg_len]; omega) fun t ht => ?_
  rw [List.getElem?_take, if_pos ht, List.getElem?_drop, dg_dig (by omega)]
  unfold dig hgh
  rw [Nat.pow_add, Nat.div_div_eq_div_mul]
theorem hgh_dig (A i t : Nat) : dig (hgh A i) t = dig A (i + t) := by
  unfold dig hgh
  rw [Nat.pow_add, Nat.div_div_eq_div_mul]
theorem hgh_hgh (A i t : Nat) : hgh (hgh A i) t = hgh A (i + t) := by
  unfold hgh
  rw [Nat.pow_add, Nat.div_div_eq_div_mul]
/-- The estimate is not too small. -/
theorem guess_ge {X b n q : Nat} (hn : 0 < n) (hX : X < 4294967296 ^ (n + 1)) (hb : b < 4294967296 ^ n) (hd : dig b (n - 1) ≠ 0) (hq : q * b ≤ X) (hq1 : q ≤ 4294967295) : dig X n * 4294967296 + dig X (n - 1) = hgh X (n - 1) ∧ q ≤ min ((dig X n * 4294967296 + dig X (n - 1)) / dig b (n - 1)) 4294967295 := by
  obtain ⟨m, rfl⟩ : ∃ m, n = m + 1 := ⟨n - 1, by omega⟩
  simp only [Nat.add_sub_cancel] at *
  have h0 : hgh X (m + 1 + 1) = 0 := hi_none hX (Nat.le_refl _)
  have h1 := hi_step X (m + 1)
  have h2 := hi_step X m
  have e : dig X (m + 1) * 4294967296 + dig X m = hgh X m := by rw [h2, h1, h0]; omega
  refine ⟨e, ?_⟩
  rw [e]
  refine Nat.le_min.2 ⟨?_, hq1⟩
  rw [Nat.le_div_iff_mul_le (by omega)]
  unfold hgh
  rw [Nat.le_div_iff_mul_le (Hpos m), Nat.mul_assoc]
  refine Nat.le_trans (Nat.mul_le_mul_left q ?_) hq
  rw [dig_top hb]
  exact Nat.div_mul_le_self _ _
/-- The rest of a part, written k digits far. -/
def cpy (A d i k : Nat) : Nat := A % 4294967296 ^ i + d % 4294967296 ^ k * 4294967296 ^ i + hgh A (i + k) * 4294967296 ^ (i + k)
theorem cpy_zero (A d i : Nat) : cpy A d i 0 = A := by
  unfold cpy hgh
  rw [Nat.pow_zero, Nat.mod_one, Nat.zero_mul, Nat.add_zero, Nat.add_zero, Nat.mod_add_div']
theorem cpy_low (A d i k : Nat) : A % 4294967296 ^ i + d % 4294967296 ^ k * 4294967296 ^ i < 4294967296 ^ (i + k) := by
  have h1 := Nat.mod_lt A (Hpos i)
  have h2 := Nat.mod_lt d (Hpos k)
  rw [Nat.pow_add, Nat.mul_comm (4294967296 ^ i)]
  have h3 : (d % 4294967296 ^ k + 1) * 4294967296 ^ i ≤ 4294967296 ^ k * 4294967296 ^ i := Nat.mul_le_mul_right _ h2
  rw [Nat.add_mul] at h3
  omega
theorem cpy_dig (A d i k : Nat) : dig (cpy A d i k) (i + k) = dig A (i + k) := by
  have h := cpy_low A d i k
  unfold dig cpy hgh
  rw [Nat.add_mul_div_right _ _ (Hpos _), Nat.div_eq_of_lt h, Nat.zero_add]
theorem cpy_step {A d i k L : Nat} (h : i + k < L) : (dg (cpy A d i k) L).set (i + k) (dig d k) = dg (cpy A d i (k + 1)) L := by
  obtain ⟨Q', e1, e2, _⟩ := @dg_set (cpy A d i k) L (i + k) (dig d k) h (dig_lt _ _)
  rw [e1]
  congr 1
  rw [cpy_dig] at e2
  have e3 := hi_step A (i + k)
  have e4 := low_step d k
  unfold cpy at e2 ⊢
  rw [e3] at e2
  rw [e4]
  rw [show i + (k + 1) = i + k + 1 by omega]
  have e5 : dig d k * 4294967296 ^ (i + k) = dig d k * 4294967296 ^ k * 4294967296 ^ i := by rw [Nat.pow_add]; ac_rfl
  rw [e5] at e2
  have e6 : 4294967296 ^ (i + k + 1) = 4294967296 * 4294967296 ^ (i + k) := by rw [Nat.pow_succ, Nat.mul_comm]
  rw [e6, Nat.add_mul]
  rw [Nat.add_mul] at e2
  have e7 : hgh A (i + k + 1) * (4294967296 * 4294967296 ^ (i + k)) = hgh A (i + k + 1) * 4294967296 * 4294967296 ^ (i + k) := by rw [Nat.mul_assoc]
  rw [e7]
  omega
theorem cpy_end {A d i n : Nat} (hd : d < 4294967296 ^ n) (hh : hgh A (i + n) = 0) : cpy A d i n = A % 4294967296 ^ i + d * 4294967296 ^ i := by
  unfold cpy
  rw [hh, Nat.zero_mul, Nat.add_zero, Nat.mod_eq_of_lt hd]
/-- What holds before the digit below c of the quotient is found. -/
structure DivI (A0 b L c A Q : Nat) : Prop where
  lt : A < 4294967296 ^ L
  top : hgh A c < b
  eq : A + b * Q = A0
  low : Q % 4294967296 ^ c = 0
theorem DivI.start {A0 b L n : Nat} (h : A0 < 4294967296 ^ (L - 1)) (hn : 0 < n) (hL : 0 < L) (hb : 4294967296 ^ (n - 1) ≤ b) : DivI A0 b L (L - n) A0 0 := by
  refine ⟨Nat.lt_of_lt_of_le h (Nat.pow_le_pow_right (by decide) (by omega)), ?_, by simp, by simp⟩
  refine Nat.lt_of_lt_of_le ?_ hb
  unfold hgh
  rw [Nat.div_lt_iff_lt_mul (Hpos _), ← Nat.pow_add]
  exact Nat.lt_of_lt_of_le h (Nat.pow_le_pow_right (by decide) (by omega))
/-- The part that a digit of the quotient divides. -/
theorem DivI.part {A0 b L i A Q n : Nat} (h : DivI A0 b L (i + 1) A Q) (hn : 0 < n) (hb : b < 4294967296 ^ n) : hgh A i < b * 4294967296 ∧ hgh A i < 4294967296 ^ (n + 1) ∧ hgh A i / b ≤ 4294967295 ∧ hgh A i / b * b ≤ hgh A i ∧ hgh A (i + (n + 1)) = 0 := by
  have h1 := hi_step A i
  have h2 := dig_lt A i
  have h3 : hgh A i < b * 4294967296 := by
    have : (hgh A (i + 1) + 1) * 4294967296 ≤ b * 4294967296 := Nat.mul_le_mul_right _ h.top
    omega
  have h4 : hgh A i < 4294967296 ^ (n + 1) := by
    refine Nat.lt_of_lt_of_le h3 ?_
    rw [Nat.pow_succ]
    exact Nat.mul_le_mul_right _ (Nat.le_of_lt hb)
  refine ⟨h3, h4, ?_, Nat.div_mul_le_self _ _, ?_⟩
  · have : hgh A i / b < 4294967296 := (Nat.div_lt_iff_lt_mul (Nat.lt_of_le_of_lt (Nat.zero_le _) h.top)).2 (by rw [Nat.mul_comm]; exact h3)
    omega
  · rw [← hgh_hgh]
    exact hi_none h4 (Nat.le_refl _)
theorem DivI.next {A0 b L i A Q n d : Nat} (h : DivI A0 b L (i + 1) A Q) (hn : 0 < n) (hb : b < 4294967296 ^ n) (hi : i + (n + 1) ≤ L) (hd : d + b * (hgh A i / b) = hgh A i) (hdb : d < b) :
    ∃ Q', (dg Q (L - n)).set i (hgh A i / b) = dg Q' (L - n) ∧ DivI A0 b L i (cpy A d i (n + 1)) Q' := by
  obtain ⟨p1, p2, p3, p4, p5⟩ := h.part hn hb
  obtain ⟨Q', e1, e2, _⟩ := @dg_set Q (L - n) i (hgh A i / b) (by omega) (by omega)
  have hdn : d < 4294967296 ^ (n + 1) := Nat.lt_trans (Nat.lt_trans hdb hb) (Nat.pow_lt_pow_right (by decide) (by omega))
  have hc := @cpy_end A d i (n + 1) hdn p5
  have hdi : dig Q i = 0 := by
    have := h.low
    rw [low_step] at this
    have h5 := Hpos i
    have h6 : dig Q i * 4294967296 ^ i = 0 := by omega
    rcases Nat.mul_eq_zero.1 h6 with h6 | h6
    · exact h6
    · omega
  have hql : Q % 4294967296 ^ i = 0 := by
    have := h.low
    rw [low_step] at this
    omega
  rw [hdi, Nat.zero_mul, Nat.add_zero] at e2
  refine ⟨Q', e1, ?_, ?_, ?_, ?_⟩
  · rw [hc]
    have h1 := Nat.mod_lt A (Hpos i)
    have h2 : (d + 1) * 4294967296 ^ i ≤ 4294967296 ^ n * 4294967296 ^ i := Nat.mul_le_mul_right _ (by omega)
    rw [← Nat.pow_add, Nat.add_mul] at h2
    have h3 : 4294967296 ^ (n + i) ≤ 4294967296 ^ L := Nat.pow_le_pow_right (by decide) (by omega)
    omega
  · rw [hc]
    unfold hgh
    rw [Nat.add_mul_div_right _ _ (Hpos i), Nat.div_eq_of_lt (Nat.mod_lt _ (Hpos i)), Nat.zero_add]
    exact hdb
  · rw [hc, e2, ← h.eq]
    have h1 : A = A % 4294967296 ^ i + hgh A i * 4294967296 ^ i := by unfold hgh; rw [Nat.mod_add_div']
    conv => rhs; rw [h1, ← hd]
    rw [Nat.mul_add, Nat.add_mul]
    have : b * (hgh A i / b * 4294967296 ^ i) = b * (hgh A i / b) * 4294967296 ^ i := by rw [Nat.mul_assoc]
    omega
  · rw [e2, Nat.add_mul_mod_self_right, hql]
theorem DivI.fin {A0 b L A Q : Nat} (h : DivI A0 b L 0 A Q) (hb : 0 < b) : Q = A0 / b ∧ A = A0 % b := by
  have h1 := h.top
  rw [hi_zero] at h1
  rw [← h.eq]
  rw [Nat.add_mul_div_left _ _ hb, Nat.add_mul_mod_self_left, Nat.div_eq_of_lt h1, Nat.mod_eq_of_lt h1]
  omega
theorem two_dig {a b : Nat} (ha : a < 4294967296) (hb : b < 4294967296) : a * 4294967296 < M64 ∧ a * 4294967296 + b < M64 := by
  unfold M64; omega
theorem dl_pow {n : Nat} (h : 0 < n) : 0 < dl n ∧ 4294967296 ^ (dl n - 1) ≤ n ∧ n < 4294967296 ^ dl n := by
  have h1 := @dl_lt n (dl n)
  have h2 := @dl_lt n (dl n - 1)
  have h0 : 0 < dl n := by
    have := @dl_lt n 0
    simp at this
    omega
  refine ⟨h0, ?_, h1.1 (Nat.le_refl _)⟩
  have : ¬ dl n ≤ dl n - 1 := by omega
  rw [h2] at this
  omega
end Go.Proofs.YtbhokdhkfodpfaaGreatDoor
/- Division by the schoolbook. No condition. -/
namespace Go.Proofs.YtbhokdhkfodpfaaGreatDoor
set_option linter.unusedVariables false
set_option linter.unusedSimpArgs false
variable {G : Gl}
set_option maxHeartbeats 4000000
set_option maxRecDepth 10000
theorem Times_w {a b j k : Nat} (ha : a < 4294967296 ^ j) (hb : b < 4294967296 ^ k) (hj : j ≤ 4294967296) (hk : k ≤ 4294967296) : DoesW Tryz.prog G 77 [Wd (dg a j), Wd (dg b k)] (dg (a * b) (j + k)) := by
  have hend := @tp_end a b j ha
  have hst := fun i => @TimesI.start a b k i hb
  have hout := fun i Q c (h : TimesI a b k i k Q c) hi => @TimesI.out a b j k i Q c h hb hi
  clear ha hb
  refine DoesW.of (nt := 62) Tryz.func77 rfl rfl rfl (by simp) ?_
  simp only [argTm, PV.ext, Ce.ext]
  refine Do.seqk fun _ k1_ => ?_
  refine Do.region [0,1] true ?_
  simp [go_sem, -List.reduceReplicate]
  apply k1_; clear k1_
  refine Do.seqk fun _ k2_ => ?_
  refine Do.region [0,1,5] true ?_
  simp [go_sem, -List.reduceReplicate]
  repeat (refine And.intro (by first | omega | (intros; omega) | grind) ?_)
  apply k2_; clear k2_
  refine Do.seqk fun _ k3_ => ?_
  refine Do.seqk fun _ k4_ => ?_
  refine Do.region [0,1,5,6] true ?_
  simp [go_sem, -List.reduceReplicate]
  apply k4_; clear k4_
  refine Do.block ?_
  rw [show ((j : Int) + k).toNat = j + k by omega, dg_zero]
  refine Do.loopF [0,1,5,6] (fun (i : Nat) => [(6, .int .i64 i)]) (fun (i : Nat) => [(105, .wr (dg (tp a b i) (j + k)))]) (fun (i : Nat) => i ≤ j) (fun (i : Nat) => j - i) (0) (fun _ => by first | (simp [go_sem, mixS]; done) | (simp [go_sem, mixS]; rfl)) (St.le_of (by simp [keep, tp_zero]) (by simp [keep, tp_zero])) (Nat.zero_le _) ?_
  intro i hi
  refine Do.seqk fun _ k5_ => ?_
  refine Do.seqk fun _ k6_ => ?_
  refine Do.region [0,1,5,6,18] true ?_
  simp [go_sem, -List.reduceReplicate]
  repeat (refine And.intro (by first | omega | (intros; omega) | grind) ?_)
  apply k6_; clear k6_
  refine Do.cond [0,1,5,6] rfl (fun h => ?_) (fun h => ?_) <;> simp [go_sem, -List.reduceReplicate] at h ⊢
  · refine Do.skip ?_
    simp [go_sem]
    apply k5_; clear k5_
    refine Do.seqk fun _ k7_ => ?_
    refine Do.block ?_
    refine Do.seqk fun _ k8_ => ?_
    refine Do.region [0,1,5,6,7] true ?_
    simp [go_sem, -List.reduceReplicate]
    apply k8_; clear k8_
    refine Do.seqk fun _ k9_ => ?_
    refine Do.seqk fun _ k10_ => ?_
    refine Do.region [0,1,5,6,7,8] true ?_
    simp [go_sem, -List.reduceReplicate]
    apply k10_; clear k10_
    refine Do.block ?_
    refine Do.loopF [0,1,5,6,7,8] (fun (s : Nat × Nat × Nat) => [(7, .v (.c (.n s.2.2))), (8, .int .i64 s.1)]) (fun (s : Nat × Nat × Nat) => [(105, .wr (dg s.2.1 (j + k)))]) (fun (s : Nat × Nat × Nat) => s.1 ≤ k ∧ TimesI a b k i s.1 s.2.1 s.2.2) (fun (s : Nat × Nat × Nat) => k - s.1) ((0, tp a b i, 0)) (fun _ => by first | (simp [go_sem, mixS]; done) | (simp [go_sem, mixS]; rfl)) (St.le_of (by first | rfl | simp [keep]) (by first | rfl | simp [keep])) (⟨Nat.zero_le _, hst i⟩) ?_
    rintro ⟨t, Q, c⟩ ⟨ht, hI⟩
    simp only at ht hI
    refine Do.seqk fun _ k11_ => ?_
    refine Do.seqk fun _ k12_ => ?_
    refine Do.region [0,1,5,6,7,8,24] true ?_
    simp [go_sem, -List.reduceReplicate]
    repeat (refine And.intro (by first | omega | (intros; omega) | grind) ?_)
    apply k12_; clear k12_
    refine Do.cond [0,1,5,6,7,8] rfl (fun h2 => ?_) (fun h2 => ?_) <;> simp [go_sem, -List.reduceReplicate] at h2 ⊢
    · obtain ⟨hb1, Q', e1, hI'⟩ := hI.next h h2
      have g1 := @dg_dig (j + k) Q (i + t) (by omega)
      have g2 := @dg_dig j a i h
      have g3 := @dg_dig k b t h2
      have l1 := dig_lt Q (i + t)
      have l2 := mul_lt_sq (dig_lt a i) (dig_lt b t)
      have hc := hI.2.2
      have b1 : c + dig Q (i + t) + dig a i * dig b t < M64 := hb1
      have b2 : c + dig Q (i + t) < M64 := by unfold M64; omega
      have b3 : dig a i * dig b t < M64 := by unfold M64; omega
      refine Do.skip ?_
      simp [go_sem]
      apply k11_; clear k11_
      refine Do.seqk fun _ k13_ => ?_
      refine Do.block ?_
      refine Do.seqk fun _ k14_ => ?_
      refine Do.draw [0,1,5,6,7,8] true (by kernel_rfl) ?_
      simp [go_sem, g1, g2, g3, b1, b2, b3, show ((i : Int) + t).toNat = i + t by omega]
      repeat (refine And.intro (by first | omega | (intros; omega) | kernel_rfl | grind) ?_)
      try (refine And.intro (by kernel_rfl) ?_)
      apply k14_; clear k14_
      refine Do.seqk fun _ k15_ => ?_
      refine Do.region [0,1,5,6,7,8] true ?_
      simp [go_sem, g1, g2, g3, b1, b2, b3, show ((i : Int) + t).toNat = i + t by omega]
      repeat (refine And.intro (by first | omega | (intros; omega) | grind) ?_)
      apply k15_; clear k15_
      refine Do.region [0,1,5,6,7,8] true ?_
      simp [go_sem, g1, g2, g3, b1, b2, b3, show ((i : Int) + t).toNat = i + t by omega]
      repeat (refine And.intro (by first | omega | (intros; omega) | grind) ?_)
      apply k13_; clear k13_
      refine Do.region [0,1,5,6,7,8] true ?_
      simp [go_sem, g1, g2, g3, b1, b2, b3, show ((i : Int) + t).toNat = i + t by omega]
      repeat (refine And.intro (by first | omega | (intros; omega) | grind) ?_)
      refine ⟨(t + 1, Q', (c + dig Q (i + t) + dig a i * dig b t) / 4294967296), St.le_of rfl (by simp [keep, e1]), ⟨by omega, hI'⟩, by simp; omega⟩
    · obtain rfl : t = k := by omega
      have ho := hout i Q c hI h
      refine Do.exit ?_
      simp [go_sem]
      apply k9_; clear k9_
      refine Do.region [0,1,5,6] true ?_
      simp [go_sem, show ((i : Int) + t).toNat = i + t by omega]
      repeat (refine And.intro (by first | omega | (intros; omega) | grind) ?_)
      apply k7_; clear k7_
      refine Do.region [0,1,5,6] true ?_
      simp [go_sem, show ((i : Int) + t).toNat = i + t by omega]
      repeat (refine And.intro (by first | omega | (intros; omega) | grind) ?_)
      refine ⟨i + 1, St.le_of rfl (by simp [keep, ho]), by omega, by simp; omega⟩
  · refine Do.exit ?_
    simp [go_sem]
    apply k3_; clear k3_
    refine Do.seqk fun _ k16_ => ?_
    refine Do.region [4] true ?_
    simp [go_sem, -List.reduceReplicate]
    apply k16_; clear k16_
    refine Do.ret ?_
    simp [endRow, rets, ret1, go_sem, -List.reduceReplicate]
    repeat (refine And.intro (by first | omega | (intros; omega) | grind) ?_)
    obtain rfl : i = j := by omega
    rw [hend]
theorem Divide_does {a b j k : Nat} (ha : a < 4294967296 ^ j) (hb : b < 4294967296 ^ k) (hb0 : 0 < b) (hj : j ≤ 4294967000) (hk : k ≤ 4294967000) : ∃ jq jr, Does Tryz.prog G 147 [Wd (dg a j), Wd (dg b k)] (.t [Wn (dg (a / b) jq), Wn (dg (a % b) jr)]) ∧ a / b < 4294967296 ^ jq ∧ a % b < 4294967296 ^ jr ∧ jq ≤ j + 2 ∧ jr ≤ j + 2 := by
  have hS := @Short_does G b k (by omega) hb
  obtain ⟨d0, d1, d2⟩ := dl_pow hb0
  have dk : dl b ≤ k := dl_lt.2 hb
  have dt : dig b (dl b - 1) ≠ 0 := dl_top d0
  by_cases h1 : dl b = 1
  · have hb1 : b < 4294967296 := by rw [h1, Nat.pow_one] at d2; exact d2
    have ho := @one_does G a b j ha hb0 hb1 (by omega)
    refine ⟨j, 1, ?_, ?_, ?_, by omega, by omega⟩
    · have hg : dg b 1 = [b] := by simp only [dg]; rw [Nat.mod_eq_of_lt hb1]
      have hg2 : dg (a % b) 1 = [a % b] := by simp only [dg]; rw [Nat.mod_eq_of_lt (Nat.lt_trans (Nat.mod_lt _ hb0) hb1)]
      rw [h1, hg] at hS
      rw [hg2]
      refine Does.of (nt := 163) Tryz.func147 rfl rfl rfl (by simp) ?_
      simp only [argTm, PV.ext, Ce.ext]
      refine Do.seqk fun _ k1_ => ?_
      refine Do.region [0,1] true ?_
      simp [go_sem]
      apply k1_; clear k1_
      refine Do.seqk fun _ k2_ => ?_
      refine Do.region [0,1] true ?_
      simp [go_sem]
      refine DoL.call true 102 rfl rfl rfl rfl (by first | exact trivial | omega | (simp; done) | (simp; omega)) (hS) rfl (by first | exact .inl rfl | exact .inr rfl) rfl ?_
      simp [go_sem]
      apply k2_; clear k2_
      refine Do.seqk fun _ k3_ => ?_
      refine Do.seqk fun _ k4_ => ?_
      refine Do.region [0,1,24] true ?_
      simp [go_sem]
      repeat (refine And.intro (by first | omega | (intros; omega) | grind) ?_)
      apply k4_; clear k4_
      refine Do.cond [0,1] rfl (fun h => ?_) (fun h => ?_) <;> simp [go_sem] at h ⊢
      refine Do.seqk fun _ k5_ => ?_
      refine Do.region [4,5] true ?_
      simp [go_sem]
      repeat (refine And.intro (by first | omega | (intros; omega) | grind) ?_)
      refine DoL.call true 305 rfl rfl rfl rfl (by first | exact trivial | omega | (simp; done) | (simp; omega)) (ho) rfl (by first | exact .inl rfl | exact .inr rfl) rfl ?_
      simp [go_sem]
      apply k5_; clear k5_
      refine Do.ret ?_
      simp [endQ, rets, ret1, go_sem]
      repeat (refine And.intro (by first | omega | (intros; omega) | grind) ?_)
      exact TLe.refl _
    · exact Nat.lt_of_le_of_lt (Nat.div_le_self _ _) ha
    · rw [Nat.pow_one]; exact Nat.lt_trans (Nat.mod_lt _ hb0) hb1
  · obtain ⟨t, ht⟩ : ∃ t, dig b (dl b - 1) = t := ⟨_, rfl⟩
    obtain ⟨E, hE⟩ : ∃ E, E = 32 - bl t := ⟨_, rfl⟩
    have htB : t < 4294967296 := by rw [← ht]; exact dig_lt _ _
    have hbt : bl t ≤ 32 := (bl_lt _ _).2 (by simpa using htB)
    have hbt0 : 0 < bl t := bl_pos (by omega)
    have htl : t < 2 ^ bl t := (bl_lt _ _).1 (Nat.le_refl _)
    have htg : 2 ^ (bl t - 1) ≤ t := Nat.le_of_not_lt fun h => by
      have := (bl_lt t (bl t - 1)).2 h
      omega
    have hlt : ∀ e, e ≤ E → t * 2 ^ e < 4294967296 := fun e he => by
      have h1 : t * 2 ^ e < 2 ^ bl t * 2 ^ e := Nat.mul_lt_mul_of_pos_right htl (Nat.pow_pos (by decide))
      rw [← Nat.pow_add] at h1
      have h2 : 2 ^ (bl t + e) ≤ 2 ^ 32 := Nat.pow_le_pow_right (by decide) (by omega)
      omega
    have htest : ∀ e, e ≤ E → (t * 2 ^ e < 2147483648 ↔ e < E) := fun e he => by
      constructor
      · intro h
        refine Nat.lt_of_le_of_ne he fun hee => ?_
        have h1 : 2 ^ (bl t - 1) * 2 ^ e ≤ t * 2 ^ e := Nat.mul_le_mul_right _ htg
        rw [← Nat.pow_add] at h1
        have h2 : 2 ^ 31 ≤ 2 ^ (bl t - 1 + e) := Nat.pow_le_pow_right (by decide) (by omega)
        omega
      · intro h
        have h1 : t * 2 ^ e < 2 ^ bl t * 2 ^ e := Nat.mul_lt_mul_of_pos_right htl (Nat.pow_pos (by decide))
        rw [← Nat.pow_add] at h1
        have h2 : 2 ^ (bl t + e) ≤ 2 ^ 31 := Nat.pow_le_pow_right (by decide) (by omega)
        omega
    have hpe : ∀ e, e ≤ E → 2 ^ e < 4294967296 := fun e he => by
      have h2 : 2 ^ e ≤ 2 ^ 31 := Nat.pow_le_pow_right (by decide) (by omega)
      omega
    obtain ⟨s, hs⟩ : ∃ s, 2 ^ E = s := ⟨_, rfl⟩
    have hs0 : 0 < s := by rw [← hs]; exact Nat.pow_pos (by decide)
    have hsB : s < 4294967296 := by rw [← hs]; exact hpe E (Nat.le_refl _)
    have g1 : ∀ g, g < 4294967296 → dg g 1 = [g] := fun g hg => by simp only [dg]; rw [Nat.mod_eq_of_lt hg]
    have hs1 : s < 4294967296 ^ 1 := by rw [Nat.pow_one]; exact hsB
    have T1 := @Times_w G a s j 1 ha hs1 (by omega) (by decide)
    have T2 := @Times_does G b s (dl b) 1 d2 hs1 (by omega) (by decide)
    have hbs : b * s < 4294967296 ^ (dl b + 1) := mul_lt d2 hs1
    have S2 := @Short_does G (b * s) (dl b + 1) (by omega) hbs
    rw [g1 s hsB] at T1 T2
    have hA0 : a * s < 4294967296 ^ (j + 1) := mul_lt ha hs1
    obtain ⟨n0, n1, n2⟩ := dl_pow (Nat.mul_pos hb0 hs0)
    have nt : dig (b * s) (dl (b * s) - 1) ≠ 0 := dl_top n0
    have nk : dl (b * s) ≤ dl b + 1 := dl_lt.2 hbs
    have hq : a / b = a * s / (b * s) := (Nat.mul_div_mul_right _ _ hs0).symm
    have hr : a % b = a * s % (b * s) / s := by rw [Nat.mul_mod_mul_right, Nat.mul_div_cancel _ hs0]
    have hrl : a * s % (b * s) < 4294967296 ^ dl (a * s % (b * s)) := dl_lt.1 (Nat.le_refl _)
    have hrj : dl (a * s % (b * s)) ≤ j + 1 := dl_lt.2 (Nat.lt_of_le_of_lt (Nat.mod_le _ _) hA0)
    have happ : dg (a * s) (j + 1) ++ [0] = dg (a * s) (j + 2) := by rw [dg_add (a * s) (j + 1), dig_none hA0 (Nat.le_refl _)]
    have hst : DivI (a * s) (b * s) (j + 2) (j + 2 - dl (b * s)) (a * s) 0 := DivI.start hA0 n0 (by omega) n1
    have hS3 := @Short_does G (a * s % (b * s)) (j + 2) (by omega) (Nat.lt_of_le_of_lt (Nat.mod_le _ _) (Nat.lt_trans hA0 (Nat.pow_lt_pow_right (by decide) (by omega))))
    have hbs0 : 0 < b * s := Nat.mul_pos hb0 hs0
    refine ⟨j + 2 - dl (b * s), dl (a * s % (b * s)), ?_, ?_, ?_, by omega, by omega⟩
    · rw [hq, hr]
      have gt := @dg_dig (dl b) b (dl b - 1) (by omega)
      rw [ht] at gt
      have gb := @dg_dig (dl (b * s)) (b * s) (dl (b * s) - 1) (by omega)
      have hX := fun A Q i (h : DivI (a * s) (b * s) (j + 2) (i + 1) A Q) => h.part n0 n2
      have hN := fun A Q i d (h : DivI (a * s) (b * s) (j + 2) (i + 1) A Q) hi hd hdb => h.next (d := d) n0 n2 hi hd hdb
      have hG := fun X q (h1 : X < 4294967296 ^ (dl (b * s) + 1)) h2 h3 => @guess_ge X (b * s) (dl (b * s)) q n0 h1 n2 nt h2 h3
      have hT := fun g (hg : g < 4294967296) => @Times_does G (b * s) g (dl (b * s)) 1 n2 (by rw [Nat.pow_one]; exact hg) (by omega) (by decide)
      have hM := fun X g (h1 : X < 4294967296 ^ (dl (b * s) + 1)) (hg : g < 4294967296) => @less_ex X (b * s * g) (dl (b * s) + 1) h1 (mul_lt n2 (by rw [Nat.pow_one]; exact hg))
      have hMd := fun X g d u (h : Less X (b * s * g) d (dl (b * s) + 1) u) => @Minus_r_does G X (b * s * g) d (dl (b * s) + 1) (dl (b * s) + 1) u h.2.2.1 h (by omega)
      generalize dl (b * s) = n at *
      generalize b * s = v at *
      generalize hA0e : a * s = A0 at *
      have hmx : (if (n : Int) < (j : Int) + 2 then (j : Int) + 2 - n else 0).toNat = j + 2 - n := by split <;> omega
      refine Does.of (nt := 163) Tryz.func147 rfl rfl rfl (by simp) ?_
      simp only [argTm, PV.ext, Ce.ext]
      refine Do.seqk fun _ k1_ => ?_
      refine Do.region [0,1] true ?_
      simp [go_sem, h1, gt, happ, dg_len, -List.reduceReplicate]
      apply k1_; clear k1_
      refine Do.seqk fun _ k2_ => ?_
      refine Do.region [0,1] true ?_
      simp [go_sem, h1, gt, happ, dg_len, -List.reduceReplicate]
      refine DoL.call true 102 rfl rfl rfl rfl (by first | exact trivial | omega | (simp; done) | (simp; omega)) (hS) rfl (by first | exact .inl rfl | exact .inr rfl) rfl ?_
      simp [go_sem, h1, gt, happ, dg_len, -List.reduceReplicate]
      apply k2_; clear k2_
      refine Do.seqk fun _ k3_ => ?_
      refine Do.seqk fun _ k4_ => ?_
      refine Do.region [0,1,24] true ?_
      simp [go_sem, h1, gt, happ, dg_len, -List.reduceReplicate]
      repeat (refine And.intro (by first | omega | (intros; omega) | grind) ?_)
      apply k4_; clear k4_
      refine Do.cond [0,1] rfl (fun h => ?_) (fun h => ?_) <;> simp [go_sem, h1, gt, happ, dg_len, -List.reduceReplicate] at h ⊢
      · omega
      · refine Do.skip ?_
        simp [go_sem]
        apply k3_; clear k3_
        refine Do.seqk fun _ k5_ => ?_
        refine Do.region [0,1,6] true ?_
        simp [go_sem, h1, gt, happ, dg_len, -List.reduceReplicate]
        apply k5_; clear k5_
        refine Do.seqk fun _ k6_ => ?_
        refine Do.block ?_
        refine Do.loopF [0,1,6] (fun (e : Nat) => [(6, .v (.c (.n (2 ^ e))))]) (fun (e : Nat) => []) (fun (e : Nat) => e ≤ E) (fun (e : Nat) => E - e) (0) (fun _ => by first | (simp [go_sem, mixS]; done) | (simp [go_sem, mixS]; rfl)) (St.le_of (by first | rfl | simp [keep]) (by first | rfl | simp [keep])) (Nat.zero_le _) ?_
        intro e he
        have e1 := hlt e he
        have e2 : t * 2 ^ e < M64 := by unfold M64; omega
        have e3 := htest e he
        have e4 := hpe e he
        have e5 : 2 * 2 ^ e < M64 := by unfold M64; omega
        refine Do.seqk fun _ k7_ => ?_
        refine Do.seqk fun _ k8_ => ?_
        refine Do.region [0,1,6,40] true ?_
        simp [go_sem, gt, e2, e5, happ, dg_len, hmx, -List.reduceReplicate]
        repeat (refine And.intro (by first | omega | (intros; omega) | grind) ?_)
        apply k8_; clear k8_
        refine Do.cond [0,1,6] rfl (fun h2 => ?_) (fun h2 => ?_) <;> simp [go_sem, gt, e2, e5, happ, dg_len, hmx, -List.reduceReplicate] at h2 ⊢
        · refine Do.skip ?_
          simp [go_sem]
          apply k7_; clear k7_
          refine Do.block ?_
          refine Do.region [0,1,6] true ?_
          simp [go_sem, gt, e2, e5, happ, dg_len, hmx, -List.reduceReplicate]
          repeat (refine And.intro (by first | omega | (intros; omega) | grind) ?_)
          refine ⟨e + 1, St.le_of (by simp [keep, Nat.pow_succ, Nat.mul_comm]) (by simp [keep]), e3.1 h2, by have := e3.1 h2; simp; omega⟩
        · obtain rfl : e = E := by omega
          rw [hs]
          refine Do.exit ?_
          simp [go_sem]
          apply k6_; clear k6_
          refine Do.seqk fun _ k9_ => ?_
          refine Do.region [0,1,6] true ?_
          simp [go_sem, gt, e2, e5, happ, dg_len, hmx, -List.reduceReplicate]
          refine DoL.frz true 703 702 rfl ?_
          simp [go_sem]
          refine DoL.callW true 704 2000 rfl rfl rfl rfl (by first | exact trivial | omega | (simp; done) | (simp; omega)) (T1) rfl rfl ?_
          simp [go_sem, gt, e2, e5, happ, dg_len, hmx, -List.reduceReplicate]
          apply k9_; clear k9_
          refine Do.seqk fun _ k10_ => ?_
          refine Do.region [0,1,6] true ?_
          simp [go_sem, gt, e2, e5, happ, dg_len, hmx, -List.reduceReplicate]
          repeat (refine And.intro (by first | omega | (intros; omega) | grind) ?_)
          apply k10_; clear k10_
          refine Do.seqk fun _ k11_ => ?_
          refine Do.region [0,1,6] true ?_
          simp [go_sem, gt, e2, e5, happ, dg_len, hmx, -List.reduceReplicate]
          refine DoL.frz true 903 902 rfl ?_
          simp [go_sem]
          refine DoL.call true 904 rfl rfl rfl rfl (by first | exact trivial | omega | (simp; done) | (simp; omega)) (T2) rfl (by first | exact .inl rfl | exact .inr rfl) rfl ?_
          simp [go_sem, gt, e2, e5, happ, dg_len, hmx, -List.reduceReplicate]
          refine DoL.call true 905 rfl rfl rfl rfl (by first | exact trivial | omega | (simp; done) | (simp; omega)) (S2) rfl (by first | exact .inl rfl | exact .inr rfl) rfl ?_
          simp [go_sem, gt, e2, e5, happ, dg_len, hmx, -List.reduceReplicate]
          apply k11_; clear k11_
          refine Do.seqk fun _ k12_ => ?_
          refine Do.region [0,1,6,7] true ?_
          simp [go_sem, gt, e2, e5, happ, dg_len, hmx, -List.reduceReplicate]
          repeat (refine And.intro (by first | omega | (intros; omega) | grind) ?_)
          apply k12_; clear k12_
          refine Do.seqk fun _ k13_ => ?_
          refine Do.region [0,1,6,7,8] true ?_
          simp [go_sem, gt, e2, e5, happ, dg_len, hmx, -List.reduceReplicate]
          repeat (refine And.intro (by first | omega | (intros; omega) | grind) ?_)
          apply k13_; clear k13_
          refine Do.seqk fun _ k14_ => ?_
          refine Do.seqk fun _ k15_ => ?_
          refine Do.region [0,1,6,7,8,9] true ?_
          simp [go_sem, gt, e2, e5, happ, dg_len, hmx, -List.reduceReplicate]
          repeat (refine And.intro (by first | omega | (intros; omega) | grind) ?_)
          apply k15_; clear k15_
          refine Do.block ?_
          refine Do.loopF [0,1,6,7,8,9] (fun (z : Int × Nat × Nat) => [(9, .int .i64 z.1)]) (fun (z : Int × Nat × Nat) => [(1105, .wr (dg z.2.2 (j + 2 - n))), (2000, .wr (dg z.2.1 (j + 2)))]) (fun (z : Int × Nat × Nat) => DivI A0 v (j + 2) (z.1 + 1).toNat z.2.1 z.2.2 ∧ (z.1 + n + 1 ≤ j + 2 ∨ z.1 < 0)) (fun (z : Int × Nat × Nat) => (z.1 + 1).toNat) ((((j + 2 : Nat) : Int) - n - 1, A0, 0)) (fun _ => by first | (simp [go_sem, mixS]; done) | (simp [go_sem, mixS]; rfl)) (St.le_of (by simp [keep]) (by simp [keep, ← dg_zero])) (⟨by rw [show (((j + 2 : Nat) : Int) - n - 1 + 1).toNat = j + 2 - n by omega]; exact hst, by omega⟩) ?_
          rintro ⟨i, A, Q⟩ ⟨hI, hi2⟩
          simp only at hI hi2
          refine Do.seqk fun _ k16_ => ?_
          refine Do.seqk fun _ k17_ => ?_
          refine Do.region [0,1,6,7,8,9,69] true ?_
          simp [go_sem, gt, e2, e5, happ, dg_len, hmx, -List.reduceReplicate]
          apply k17_; clear k17_
          refine Do.cond [0,1,6,7,8,9] rfl (fun h3 => ?_) (fun h3 => ?_) <;> simp [go_sem, gt, e2, e5, happ, dg_len, hmx, -List.reduceReplicate] at h3 ⊢
          · obtain ⟨I, rfl⟩ : ∃ I : Nat, i = I := ⟨i.toNat, by omega⟩
            rw [show ((I : Int) + 1).toNat = I + 1 by omega] at hI
            have hiL : I + (n + 1) ≤ j + 2 := by omega
            obtain ⟨x1, x2, x3, x4, x5⟩ := hX A Q I hI
            have xd := fun t => hgh_dig A I t
            have hpart := @dg_part A (j + 2) I (n + 1) hiL
            obtain ⟨ge, gg⟩ := hG (hgh A I) (hgh A I / v) x2 x4 x3
            have hnx := hN A Q I
            generalize hXe : hgh A I = X at *
            have a1 := @dg_dig (j + 2) A (I + n) (by omega)
            have a2 := @dg_dig (j + 2) A (I + (n - 1)) (by omega)
            rw [← xd] at a1 a2
            have l1 := dig_lt X n
            have l2 := dig_lt X (n - 1)
            obtain ⟨f1, f2⟩ := two_dig l1 l2
            refine Do.skip ?_
            simp [go_sem]
            apply k16_; clear k16_
            refine Do.seqk fun _ k18_ => ?_
            refine Do.block ?_
            refine Do.seqk fun _ k19_ => ?_
            refine Do.draw [0,1,6,7,8,9,10] true (by kernel_rfl) ?_
            simp [go_sem, gb, a1, a2, f1, f2, nt, dg_len, show ((I : Int) + n).toNat = I + n by omega, show ((I : Int) + n - 1).toNat = I + (n - 1) by omega, show ((n : Int) - 1).toNat = n - 1 by omega]
            repeat (refine And.intro (by first | omega | (intros; omega) | kernel_rfl | grind) ?_)
            try (refine And.intro (by kernel_rfl) ?_)
            apply k19_; clear k19_
            refine Do.seqk fun _ k20_ => ?_
            refine Do.region [0,1,6,7,8,9,11] true ?_
            simp [go_sem, gb, a1, a2, f1, f2, nt, dg_len, show ((I : Int) + n).toNat = I + n by omega, show ((I : Int) + n - 1).toNat = I + (n - 1) by omega, show ((n : Int) - 1).toNat = n - 1 by omega]
            repeat (refine And.intro (by first | omega | (intros; omega) | grind) ?_)
            refine DoL.minN true 1608 rfl rfl rfl rfl rfl ?_
            simp [go_sem]
            apply k20_; clear k20_
            refine Do.seqk fun _ k21_ => ?_
            refine Do.block ?_
            refine Do.loopF [0,1,6,7,8,9,11] (fun (g : Nat) => [(11, .v (.c (.n g)))]) (fun (g : Nat) => []) (fun (g : Nat) => X / v ≤ g ∧ g ≤ 4294967295) (fun (g : Nat) => g) (min ((dig X n * 4294967296 + dig X (n - 1)) / dig v (n - 1)) 4294967295) (fun _ => by first | (simp [go_sem, mixS]; done) | (simp [go_sem, mixS]; rfl)) (St.le_of (by first | rfl | simp [keep]) (by first | rfl | simp [keep])) (⟨gg, Nat.min_le_right _ _⟩) ?_
            rintro g ⟨g2, g3⟩
            have gB : g < 4294967296 := by omega
            have hTg := hT g gB
            rw [g1 g gB] at hTg
            obtain ⟨d, hLs, hdd⟩ := hM X g x2 gB
            have hMm := hMd X g d _ hLs
            rw [← hpart] at hMm
            have hv0 : 0 < v := hbs0
            have hgq : v * g ≤ X ↔ g ≤ X / v := by rw [Nat.le_div_iff_mul_le hv0, Nat.mul_comm]
            refine Do.block ?_
            refine Do.seqk fun _ k22_ => ?_
            refine Do.region [0,1,6,7,8,9,11,12] true ?_
            simp [go_sem, gb, a1, a2, f1, f2, nt, dg_len, show ((I : Int) + n).toNat = I + n by omega, show ((I : Int) + n - 1).toNat = I + (n - 1) by omega, show ((n : Int) - 1).toNat = n - 1 by omega]
            refine DoL.frz true 1703 1702 rfl ?_
            simp [go_sem]
            refine DoL.call true 1704 rfl rfl rfl rfl (by first | exact trivial | omega | (simp; done) | (simp; omega)) (hTg) rfl (by first | exact .inl rfl | exact .inr rfl) rfl ?_
            simp [go_sem, gb, a1, a2, f1, f2, nt, dg_len, show ((I : Int) + n).toNat = I + n by omega, show ((I : Int) + n - 1).toNat = I + (n - 1) by omega, show ((n : Int) - 1).toNat = n - 1 by omega]
            apply k22_; clear k22_
            refine Do.seqk fun _ k23_ => ?_
            refine Do.seqk fun _ k24_ => ?_
            refine Do.region [0,1,6,7,8,9,11,13,14] true ?_
            simp [go_sem, gb, a1, a2, f1, f2, nt, dg_len, show ((I : Int) + n).toNat = I + n by omega, show ((I : Int) + n - 1).toNat = I + (n - 1) by omega, show ((n : Int) - 1).toNat = n - 1 by omega]
            repeat (refine And.intro (by first | omega | (intros; omega) | grind) ?_)
            refine DoL.part true 1809 rfl rfl rfl (by decide) rfl rfl rfl (by decide) (by decide) rfl rfl rfl rfl rfl rfl rfl rfl rfl rfl rfl rfl (by simp [dg_len] <;> omega) ((show Does _ _ _ [.c (.w false (((dg A (j + 2)).drop (I : Int).toNat).take (((I : Int) + n + 1).toNat - (I : Int).toNat))), _] _ from by rw [show ((I : Int) + n + 1).toNat - (I : Int).toNat = n + 1 by omega, show (I : Int).toNat = I by omega]; exact hMm)) rfl rfl ?_
            simp [go_sem, gb, a1, a2, f1, f2, nt, dg_len, show ((I : Int) + n).toNat = I + n by omega, show ((I : Int) + n - 1).toNat = I + (n - 1) by omega, show ((n : Int) - 1).toNat = n - 1 by omega]
            apply k24_; clear k24_
            refine Do.seqk fun _ k25_ => ?_
            refine Do.region [0,1,6,7,8,9,11,13,112] true ?_
            simp [go_sem, gb, a1, a2, f1, f2, nt, dg_len, show ((I : Int) + n).toNat = I + n by omega, show ((I : Int) + n - 1).toNat = I + (n - 1) by omega, show ((n : Int) - 1).toNat = n - 1 by omega]
            repeat (refine And.intro (by first | omega | (intros; omega) | grind) ?_)
            apply k25_; clear k25_
            refine Do.cond [0,1,6,7,8,9,11,13] rfl (fun h5 => ?_) (fun h5 => ?_) <;> simp [go_sem, gb, a1, a2, f1, f2, nt, dg_len, show ((I : Int) + n).toNat = I + n by omega, show ((I : Int) + n - 1).toNat = I + (n - 1) by omega, show ((n : Int) - 1).toNat = n - 1 by omega] at h5 ⊢
            · have hge : v * g ≤ X := by simpa using h5
              obtain rfl : g = X / v := by have := hgq.1 hge; omega
              have hd1 := hdd hge
              have hmd : d = X % v := by have := Nat.div_add_mod X v; omega
              have hdv : d < v := by rw [hmd]; exact Nat.mod_lt _ hv0
              refine Do.seqk fun _ k26_ => ?_
              refine Do.seqk fun _ k27_ => ?_
              refine Do.region [0,1,6,7,8,9,11,13,15] true ?_
              simp [go_sem, gb, a1, a2, f1, f2, nt, dg_len, show ((I : Int) + n).toNat = I + n by omega, show ((I : Int) + n - 1).toNat = I + (n - 1) by omega, show ((n : Int) - 1).toNat = n - 1 by omega]
              apply k27_; clear k27_
              refine Do.block ?_
              refine Do.loopF [0,1,6,7,8,9,11,13,15] (fun (t2 : Nat) => [(15, .int .i64 t2)]) (fun (t2 : Nat) => [(2000, .wr (dg (cpy A d I t2) (j + 2)))]) (fun (t2 : Nat) => t2 ≤ n + 1) (fun (t2 : Nat) => n + 1 - t2) (0) (fun _ => by first | (simp [go_sem, mixS]; done) | (simp [go_sem, mixS]; rfl)) (St.le_of (by simp [keep]) (by simp [keep, cpy_zero])) (Nat.zero_le _) ?_
              intro t2 ht2
              refine Do.seqk fun _ k28_ => ?_
              refine Do.seqk fun _ k29_ => ?_
              refine Do.region [0,1,6,7,8,9,11,13,15,115] true ?_
              simp [go_sem, gb, a1, a2, f1, f2, nt, dg_len, show ((I : Int) + n).toNat = I + n by omega, show ((I : Int) + n - 1).toNat = I + (n - 1) by omega, show ((n : Int) - 1).toNat = n - 1 by omega]
              apply k29_; clear k29_
              refine Do.cond [0,1,6,7,8,9,11,13,15] rfl (fun h6 => ?_) (fun h6 => ?_) <;> simp [go_sem, gb, a1, a2, f1, f2, nt, dg_len, show ((I : Int) + n).toNat = I + n by omega, show ((I : Int) + n - 1).toNat = I + (n - 1) by omega, show ((n : Int) - 1).toNat = n - 1 by omega] at h6 ⊢
              · have hcs := @cpy_step A d I t2 (j + 2) (by omega)
                have r1 := @dg_dig (n + 1) d t2 (by omega)
                refine Do.skip ?_
                simp [go_sem]
                apply k28_; clear k28_
                refine Do.seqk fun _ k30_ => ?_
                refine Do.block ?_
                refine Do.region [0,1,6,7,8,9,11,13,15] true ?_
                simp [go_sem, r1, dg_len, show ((I : Int) + t2).toNat = I + t2 by omega]
                repeat (refine And.intro (by first | omega | (intros; omega) | grind) ?_)
                apply k30_; clear k30_
                refine Do.region [0,1,6,7,8,9,11,13,15] true ?_
                simp [go_sem, r1, dg_len, show ((I : Int) + t2).toNat = I + t2 by omega]
                repeat (refine And.intro (by first | omega | (intros; omega) | grind) ?_)
                refine ⟨t2 + 1, St.le_of rfl (by simp [keep, hcs]), by omega, by simp; omega⟩
              · obtain rfl : t2 = n + 1 := by omega
                obtain ⟨Q', q1, q2⟩ := hnx d hI hiL (by omega) hdv
                refine Do.exit ?_
                simp [go_sem]
                apply k26_; clear k26_
                refine Do.exit ?_
                simp [go_sem]
                apply k21_; clear k21_
                refine Do.region [0,1,6,7,8,9] true ?_
                simp [go_sem, dg_len]
                repeat (refine And.intro (by first | omega | (intros; omega) | grind) ?_)
                apply k18_; clear k18_
                refine Do.region [0,1,6,7,8,9] true ?_
                simp [go_sem, dg_len]
                repeat (refine And.intro (by first | omega | (intros; omega) | grind) ?_)
                refine ⟨((I : Int) - 1, cpy A d I (n + 1), Q'), St.le_of (by simp [keep]) (by simp [keep, q1]), ⟨by rw [show ((I : Int) - 1 + 1).toNat = I by omega]; exact q2, Or.inl (by show (I : Int) - 1 + n + 1 ≤ (j : Int) + 2; omega)⟩, by show ((I : Int) - 1 + 1).toNat < ((I : Int) + 1).toNat; omega⟩
            · have hlt2 : ¬ v * g ≤ X := by simpa using h5
              have hqg : X / v < g := Nat.lt_of_not_le fun h => hlt2 (hgq.2 h)
              have hg0 : 0 < g := Nat.lt_of_le_of_lt (Nat.zero_le _) hqg
              refine Do.skip ?_
              simp [go_sem]
              apply k23_; clear k23_
              refine Do.region [0,1,6,7,8,9,11] true ?_
              simp [go_sem, gb, a1, a2, f1, f2, nt, dg_len, show ((I : Int) + n).toNat = I + n by omega, show ((I : Int) + n - 1).toNat = I + (n - 1) by omega, show ((n : Int) - 1).toNat = n - 1 by omega]
              repeat (refine And.intro (by first | omega | (intros; omega) | grind) ?_)
              refine ⟨g - 1, St.le_of (by first | rfl | simp [keep]) (by first | rfl | simp [keep]), ⟨Nat.le_sub_one_of_lt hqg, by omega⟩, by simp; omega⟩
          · obtain ⟨rfl, rfl⟩ := (show DivI A0 v (j + 2) 0 A Q by rw [show (i + 1).toNat = 0 by omega] at hI; exact hI).fin hbs0
            refine Do.exit ?_
            simp [go_sem]
            apply k14_; clear k14_
            refine Do.seqk fun _ k31_ => ?_
            refine Do.region [6,8,16] true ?_
            simp [go_sem, gt, e2, e5, happ, dg_len, hmx, -List.reduceReplicate]
            refine DoL.frz true 2601 2000 rfl ?_
            simp [go_sem]
            refine DoL.call true 2602 rfl rfl rfl rfl (by first | exact trivial | omega | (simp; done) | (simp; omega)) (hS3) rfl (by first | exact .inl rfl | exact .inr rfl) rfl ?_
            simp [go_sem, gt, e2, e5, happ, dg_len, hmx, -List.reduceReplicate]
            have htop := @qf_top (A0 % v) s _ hrl
            have hz := @hi_none (A0 % v) _ hrl _ (Nat.le_refl _)
            have h00 := qf_zero (A0 % v) s
            have h01 := hi_zero (A0 % v)
            have hstp := fun i (h : i < dl (A0 % v)) => @qf_step (A0 % v) s _ i h hs0 hsB
            generalize A0 % v = r at *
            apply k31_; clear k31_
            refine Do.seqk fun _ k32_ => ?_
            refine Do.region [6,8,16,17] true ?_
            simp [go_sem, gt, e2, e5, happ, dg_len, hmx, -List.reduceReplicate]
            repeat (refine And.intro (by first | omega | (intros; omega) | grind) ?_)
            apply k32_; clear k32_
            refine Do.seqk fun _ k33_ => ?_
            refine Do.region [6,8,16,17,18] true ?_
            simp [go_sem, gt, e2, e5, happ, dg_len, hmx, -List.reduceReplicate]
            apply k33_; clear k33_
            refine Do.seqk fun _ k34_ => ?_
            refine Do.seqk fun _ k35_ => ?_
            refine Do.region [6,8,16,17,18,19] true ?_
            simp [go_sem, gt, e2, e5, happ, dg_len, hmx, -List.reduceReplicate]
            repeat (refine And.intro (by first | omega | (intros; omega) | grind) ?_)
            apply k35_; clear k35_
            refine Do.block ?_
            refine Do.loopF [6,8,16,17,18,19] (fun (i2 : Nat) => [(18, .v (.c (.n (hgh r i2 % s)))), (19, .int .i64 ((i2 : Int) - 1))]) (fun (i2 : Nat) => [(2702, .wr (dg (qf r s i2) (dl r)))]) (fun (i2 : Nat) => i2 ≤ dl r) (fun (i2 : Nat) => i2) (dl r) (fun _ => by first | (simp [go_sem, mixS]; done) | (simp [go_sem, mixS]; rfl)) (St.le_of (by simp [keep, htop, hz]) (by simp [keep, htop, hz, ← dg_zero])) (Nat.le_refl _) ?_
            intro i2 hi3
            refine Do.seqk fun _ k36_ => ?_
            refine Do.seqk fun _ k37_ => ?_
            refine Do.region [6,8,16,17,18,19,142] true ?_
            simp [go_sem, gt, e2, e5, happ, dg_len, hmx, -List.reduceReplicate]
            apply k37_; clear k37_
            refine Do.cond [6,8,16,17,18,19] rfl (fun h8 => ?_) (fun h8 => ?_) <;> simp [go_sem, gt, e2, e5, happ, dg_len, hmx, -List.reduceReplicate] at h8 ⊢
            · obtain ⟨i2, rfl⟩ : ∃ x, i2 = x + 1 := ⟨i2 - 1, by omega⟩
              rw [show ((i2 + 1 : Nat) : Int) - 1 = i2 by omega]
              have hs9 := hstp i2 (by omega)
              have g19 := @dg_dig (dl r) r i2 (by omega)
              have b1 : hgh r (i2 + 1) % s * 4294967296 + dig r i2 < M64 := hs9.1
              have b2 : hgh r (i2 + 1) % s * 4294967296 < M64 := Nat.lt_of_le_of_lt (Nat.le_add_right _ _) b1
              refine Do.skip ?_
              simp [go_sem]
              apply k36_; clear k36_
              refine Do.seqk fun _ k38_ => ?_
              refine Do.block ?_
              refine Do.seqk fun _ k39_ => ?_
              refine Do.region [6,8,16,17,18,19] true ?_
              simp [go_sem, g19, b1, b2, Nat.ne_of_gt hs0, dg_len]
              repeat (refine And.intro (by first | omega | (intros; omega) | grind) ?_)
              apply k39_; clear k39_
              refine Do.seqk fun _ k40_ => ?_
              refine Do.region [6,8,16,17,18,19] true ?_
              simp [go_sem, g19, b1, b2, Nat.ne_of_gt hs0, dg_len]
              repeat (refine And.intro (by first | omega | (intros; omega) | grind) ?_)
              apply k40_; clear k40_
              refine Do.region [6,8,16,17,18,19] true ?_
              simp [go_sem, g19, b1, b2, Nat.ne_of_gt hs0, dg_len]
              repeat (refine And.intro (by first | omega | (intros; omega) | grind) ?_)
              apply k38_; clear k38_
              refine Do.region [6,8,16,17,18,19] true ?_
              simp [go_sem, g19, b1, b2, Nat.ne_of_gt hs0, dg_len]
              repeat (refine And.intro (by first | omega | (intros; omega) | grind) ?_)
              refine ⟨i2, St.le_of (by simp [keep, hs9.2.2]) (by simp [keep, hs9.2.1]), by omega, by simp⟩
            · refine Do.exit ?_
              simp [go_sem]
              apply k34_; clear k34_
              refine Do.seqk fun _ k41_ => ?_
              refine Do.region [4,5] true ?_
              simp [go_sem, gt, e2, e5, happ, dg_len, hmx, -List.reduceReplicate]
              apply k41_; clear k41_
              refine Do.ret ?_
              simp [endQ, rets, ret1, go_sem, gt, e2, e5, happ, dg_len, hmx, -List.reduceReplicate]
              repeat (refine And.intro (by first | omega | (intros; omega) | grind) ?_)
              obtain rfl : i2 = 0 := by omega
              rw [h00]
              exact TLe.refl _
    · rw [hq]
      rcases Nat.lt_or_ge (j + 1) (dl (b * s)) with h | h
      · rw [Nat.div_eq_of_lt (Nat.lt_of_lt_of_le hA0 (Nat.le_trans (Nat.pow_le_pow_right (by decide) (by omega)) n1))]
        exact Hpos _
      · rw [Nat.div_lt_iff_lt_mul hbs0]
        refine Nat.lt_of_lt_of_le hA0 (Nat.le_trans ?_ (Nat.mul_le_mul_left _ n1))
        rw [← Nat.pow_add]
        exact Nat.pow_le_pow_right (by decide) (by omega)
    · rw [hr]
      exact Nat.lt_of_le_of_lt (Nat.div_le_self _ _) hrl
end Go.Proofs.YtbhokdhkfodpfaaGreatDoor
/- Division, and the greatest common divisor. No condition. -/
namespace Go.Proofs.YtbhokdhkfodpfaaGreatDoor
set_option linter.unusedVariables false
set_option linter.unusedSimpArgs false
variable {G : Gl}
set_option maxHeartbeats 4000000
set_option maxRecDepth 10000
theorem RDivMod_does {x y : List Nat} (hx : x.length ≤ 536870000) (wx : Ws x) (hy : y.length ≤ 536870000) (wy : Ws y) (h0 : 0 < val y) : Does Tryz.prog G 112 [Wd x, Wd y] (.t [Wn (nat (val x / val y)), Wn (nat (val x % val y))]) := by
  have hA := @Digits_does G x (by omega) wx
  have hB := @Digits_does G y (by omega) wy
  obtain ⟨jq, jr, hD, q1, q2, q3, q4⟩ := @Divide_does G (val x) (val y) (2 * x.length) (2 * y.length) (ws_dg wx) (ws_dg wy) h0 (by omega) (by omega)
  have n1 := @rnat_does G _ jq (by omega) q1
  have n2 := @rnat_does G _ jr (by omega) q2
  refine Does.of (nt := 20) Tryz.func112 rfl rfl rfl (by simp) ?_
  simp only [argTm, PV.ext, Ce.ext]
  refine Do.seqk fun _ k1_ => ?_
  refine Do.region [0,1] true ?_
  simp [go_sem]
  apply k1_; clear k1_
  refine Do.seqk fun _ k2_ => ?_
  refine Do.region [6,7] true ?_
  simp [go_sem]
  refine DoL.call true 102 rfl rfl rfl rfl (by first | exact trivial | omega | (simp; done) | (simp; omega)) (hA) rfl (by first | exact .inl rfl | exact .inr rfl) rfl ?_
  simp [go_sem]
  refine DoL.call true 104 rfl rfl rfl rfl (by first | exact trivial | omega | (simp; done) | (simp; omega)) (hB) rfl (by first | exact .inl rfl | exact .inr rfl) rfl ?_
  simp [go_sem]
  refine DoL.call true 105 rfl rfl rfl rfl (by first | exact trivial | omega | (simp; done) | (simp; omega)) (hD) rfl (by first | exact .inl rfl | exact .inr rfl) rfl ?_
  simp [go_sem]
  apply k2_; clear k2_
  refine Do.seqk fun _ k3_ => ?_
  refine Do.region [4,5] true ?_
  simp [go_sem]
  refine DoL.call true 202 rfl rfl rfl rfl (by first | exact trivial | omega | (simp; done) | (simp; omega)) (n1) rfl (by first | exact .inl rfl | exact .inr rfl) rfl ?_
  simp [go_sem]
  refine DoL.call true 204 rfl rfl rfl rfl (by first | exact trivial | omega | (simp; done) | (simp; omega)) (n2) rfl (by first | exact .inl rfl | exact .inr rfl) rfl ?_
  simp [go_sem]
  apply k3_; clear k3_
  refine Do.ret ?_
  simp [endQ, rets, ret1, go_sem]
  repeat (refine And.intro (by first | omega | (intros; omega) | grind) ?_)
  exact TLe.refl _
end Go.Proofs.YtbhokdhkfodpfaaGreatDoor
/- Rational numbers with a power of 2 below. No condition. -/
namespace Go.Proofs.YtbhokdhkfodpfaaGreatDoor
set_option linter.unusedVariables false
set_option linter.unusedSimpArgs false
set_option maxHeartbeats 2000000
/-- What is above and below, divided by what both are multiples of. -/
def nz (z : Int) (d : Nat) : Int := z / (Nat.gcd z.natAbs d : Int)
def nd (z : Int) (d : Nat) : Nat := d / Nat.gcd z.natAbs d
theorem gcd_pos {z : Int} {d : Nat} (hd : 0 < d) : 0 < Nat.gcd z.natAbs d := Nat.gcd_pos_of_pos_right _ hd
theorem gcd_dvd_int (z : Int) (d : Nat) : (Nat.gcd z.natAbs d : Int) ∣ z := Int.natAbs_dvd_natAbs.1 (by rw [Int.natAbs_natCast]; exact Nat.gcd_dvd_left _ _)
theorem nz_mul (z : Int) (d : Nat) : nz z d * (Nat.gcd z.natAbs d : Int) = z := Int.ediv_mul_cancel (gcd_dvd_int z d)
theorem nd_mul (z : Int) (d : Nat) : nd z d * Nat.gcd z.natAbs d = d := Nat.div_mul_cancel (Nat.gcd_dvd_right _ _)
theorem nz_abs (z : Int) (d : Nat) : (nz z d).natAbs = z.natAbs / Nat.gcd z.natAbs d := by
  unfold nz
  rw [Int.natAbs_ediv_of_dvd (gcd_dvd_int z d)]; rfl
theorem nd_pos {z : Int} {d : Nat} (hd : 0 < d) : 0 < nd z d := by
  have := nd_mul z d
  rcases Nat.eq_zero_or_pos (nd z d) with h | h
  · rw [h] at this; omega
  · exact h
theorem nz_cop {z : Int} {d : Nat} (hd : 0 < d) : Nat.gcd (nz z d).natAbs (nd z d) = 1 := by
  rw [nz_abs]
  exact Nat.gcd_div_gcd_div_gcd_of_pos_right hd
/-- z / d, in lowest terms, is w / 2^K. -/
structure Dq (K : Nat) (z : Int) (d : Nat) (w : Int) : Prop where
  eq : z * ((2 ^ K : Nat) : Int) = w * (d : Int)
  pos : 0 < d
  cop : Nat.gcd z.natAbs d = 1
theorem pow_gt (K : Nat) : 0 < ((2 ^ K : Nat) : Int) := by
  have := Nat.pow_pos (n := K) (show 0 < 2 by decide)
  omega
theorem Dq.norm {K : Nat} {z w : Int} {d : Nat} (h : z * ((2 ^ K : Nat) : Int) = w * (d : Int)) (hd : 0 < d) : Dq K (nz z d) (nd z d) w := by
  refine ⟨?_, nd_pos hd, nz_cop hd⟩
  have hg := gcd_pos (z := z) hd
  have h1 := nz_mul z d
  have h2 := nd_mul z d
  refine Int.eq_of_mul_eq_mul_right (a := (Nat.gcd z.natAbs d : Int)) (by omega) ?_
  have h3 : (d : Int) = (nd z d : Int) * (Nat.gcd z.natAbs d : Int) := by rw [← Int.natCast_mul, h2]
  have h4 : nz z d * ((2 ^ K : Nat) : Int) * (Nat.gcd z.natAbs d : Int) = nz z d * (Nat.gcd z.natAbs d : Int) * ((2 ^ K : Nat) : Int) := by ac_rfl
  have h5 : w * (nd z d : Int) * (Nat.gcd z.natAbs d : Int) = w * ((nd z d : Int) * (Nat.gcd z.natAbs d : Int)) := by ac_rfl
  rw [h4, h1, h5, ← h3]
  exact h
theorem Dq.small {K : Nat} {z w : Int} {d : Nat} (h : Dq K z d w) : z.natAbs ≤ w.natAbs ∧ bl d ≤ K + 1 ∧ bl z.natAbs ≤ bl w.natAbs := by
  have h1 : z.natAbs * 2 ^ K = w.natAbs * d := by
    have := congrArg Int.natAbs h.eq
    rw [Int.natAbs_mul, Int.natAbs_mul] at this
    exact this
  have h2 : d ∣ 2 ^ K := by
    have hc : Nat.Coprime d z.natAbs := by rw [Nat.coprime_iff_gcd_eq_one, Nat.gcd_comm]; exact h.cop
    exact hc.dvd_of_dvd_mul_left ⟨w.natAbs, by rw [h1, Nat.mul_comm]⟩
  have hp := Nat.pow_pos (n := K) (show 0 < 2 by decide)
  obtain ⟨c, hc⟩ := h2
  have hc0 : 0 < c := by
    rcases Nat.eq_zero_or_pos c with h3 | h3
    · rw [h3] at hc; omega
    · exact h3
  have h3 : z.natAbs * c = w.natAbs := by
    rw [hc, ← Nat.mul_assoc, Nat.mul_right_comm] at h1
    exact Nat.eq_of_mul_eq_mul_right h.pos h1
  have h4 : z.natAbs ≤ w.natAbs := by rw [← h3]; exact Nat.le_mul_of_pos_right _ hc0
  have h5 : d ≤ 2 ^ K := by rw [hc]; exact Nat.le_mul_of_pos_right _ hc0
  refine ⟨h4, ?_, bl_mono h4⟩
  rw [bl_lt, Nat.pow_succ]
  omega
theorem Dq.add_eq {K : Nat} {z1 z2 w1 w2 : Int} {d1 d2 : Nat} (h1 : Dq K z1 d1 w1) (h2 : Dq K z2 d2 w2) : (z1 * d2 + z2 * d1) * ((2 ^ K : Nat) : Int) = (w1 + w2) * ((d1 * d2 : Nat) : Int) := by
  have e1 := h1.eq
  have e2 := h2.eq
  generalize ((2 ^ K : Nat) : Int) = P at *
  rw [Int.natCast_mul, Int.add_mul, Int.add_mul]
  have a1 : z1 * d2 * P = z1 * P * d2 := by ac_rfl
  have a2 : z2 * d1 * P = z2 * P * d1 := by ac_rfl
  rw [a1, a2, e1, e2]
  congr 1 <;> ac_rfl
theorem Dq.neg {K : Nat} {z w : Int} {d : Nat} (h : Dq K z d w) : Dq K (-z) d (-w) :=
  ⟨by rw [Int.neg_mul, Int.neg_mul, h.eq], h.pos, by rw [Int.natAbs_neg]; exact h.cop⟩
theorem Dq.abs {K : Nat} {z w : Int} {d : Nat} (h : Dq K z d w) : Dq K (z.natAbs : Int) d (w.natAbs : Int) :=
  ⟨by
    have := congrArg Int.natAbs h.eq
    rw [Int.natAbs_mul, Int.natAbs_mul] at this
    exact_mod_cast this, h.pos, by rw [Int.natAbs_natCast]; exact h.cop⟩
theorem sign_scale {a b : Int} {P D : Int} (h : a * P = b * D) (hP : 0 < P) (hD : 0 < D) : a.sign = b.sign := by
  have := congrArg Int.sign h
  rw [Int.sign_mul, Int.sign_mul, Int.sign_eq_one_of_pos hP, Int.sign_eq_one_of_pos hD, Int.mul_one, Int.mul_one] at this
  exact this
theorem Dq.sign {K : Nat} {z w : Int} {d : Nat} (h : Dq K z d w) : z.sign = w.sign :=
  sign_scale h.eq (pow_gt K) (by have := h.pos; omega)
theorem Dq.cmp {K : Nat} {z1 z2 w1 w2 : Int} {d1 d2 : Nat} (h1 : Dq K z1 d1 w1) (h2 : Dq K z2 d2 w2) : (z1 * d2 - z2 * d1).sign = (w1 - w2).sign := by
  have := h1.add_eq h2.neg
  rw [Int.neg_mul, ← Int.sub_eq_add_neg, ← Int.sub_eq_add_neg] at this
  exact sign_scale this (pow_gt K) (by
    have := Nat.mul_pos h1.pos h2.pos
    omega)
theorem Dq.up {K J : Nat} {z w : Int} {d : Nat} (h : Dq K z d w) : Dq (K + J) z d (w * ((2 ^ J : Nat) : Int)) :=
  ⟨by
    have e := h.eq
    rw [Nat.pow_add, Int.natCast_mul]
    generalize ((2 ^ K : Nat) : Int) = P at *
    generalize ((2 ^ J : Nat) : Int) = P' at *
    rw [← Int.mul_assoc, e]; ac_rfl, h.pos, h.cop⟩
/-- A float's number, with nothing below or a power of 2. -/
theorem Dq.float {K : Nat} {n : Bool} {v : Nat} {e : Int} (hv : v % 2 = 1) (he : -(K : Int) ≤ e) :
    (e < 0 → Dq K (sgn n v) (2 ^ (-e).toNat) (fv (-K) ⟨1, n, e, v⟩)) ∧ (0 ≤ e → Dq K (sgn n (v * 2 ^ e.toNat)) 1 (fv (-K) ⟨1, n, e, v⟩)) := by
  have e1 : fv (-K) ⟨1, n, e, v⟩ = sgn n (v * 2 ^ (e - -(K : Int)).toNat) := by
    unfold fv Nu.sv sgn
    simp
  rw [e1]
  have hs : ∀ a b : Nat, sgn n a * (b : Int) = sgn n (a * b) := fun a b => by
    unfold sgn
    split
    · rw [Int.natCast_mul, Int.neg_mul]
    · rw [Int.natCast_mul]
  refine ⟨fun h => ⟨?_, Nat.pow_pos (by decide), ?_⟩, fun h => ⟨?_, by decide, ?_⟩⟩
  · rw [hs, hs, Nat.mul_assoc, ← Nat.pow_add]
    congr 3; omega
  · rw [sgn_abs]
    have h2 : Nat.Coprime v 2 := by
      rw [Nat.coprime_comm, Nat.coprime_iff_gcd_eq_one, Nat.gcd_rec, hv]
      decide
    exact h2.pow_right _
  · rw [hs, hs, Nat.mul_assoc, ← Nat.pow_add, Nat.mul_one]
    congr 3; omega
  · exact Nat.gcd_one_right _
theorem Dq.zero (K : Nat) : Dq K 0 1 0 := ⟨by simp, by decide, by decide⟩
end Go.Proofs.YtbhokdhkfodpfaaGreatDoor
/- The rational numbers of the reference. No condition. -/
namespace Go.Proofs.YtbhokdhkfodpfaaGreatDoor
set_option linter.unusedVariables false
set_option linter.unusedSimpArgs false
variable {G : Gl}
set_option maxHeartbeats 4000000
set_option maxRecDepth 10000
/-- An integer of a size that all that is asked of it allows. -/
abbrev Bz (z : Int) : Prop := bl z.natAbs ≤ 100000000
theorem Bz.len {z : Int} (h : Bz z) : (nat z.natAbs).length ≤ 1562501 := by have := len_bl h; omega
theorem IvMake {n : Bool} {v : Nat} (hv : bl v ≤ 200000000) : Does Tryz.prog G 46 [.c (.b n), Wd (nat v)] (.v (Iv (sgn n v))) := by
  have := @IMake11_does G n (nat v) (by have := len_bl hv; omega) (nat_ws _)
  rwa [val_nat] at this
section
variable {K : Nat} {z1 z2 w1 w2 : Int} {d1 d2 : Nat}
theorem bl_mulN (a b : Nat) : bl (a * b) ≤ bl a + bl b := by
  rw [bl_lt, Nat.pow_add]
  exact Nat.mul_lt_mul_of_lt_of_le (bl_self a) (Nat.le_of_lt (bl_self b)) (Nat.pow_pos (by decide))
end
end Go.Proofs.YtbhokdhkfodpfaaGreatDoor
/- Operations under a test whose outcome is known, in a region whose order is open. No condition. -/
namespace Go.Proofs.YtbhokdhkfodpfaaGreatDoor
set_option linter.unusedVariables false
set_option linter.unusedSimpArgs false
section
variable {P : Program} {G : Gl} {nt : Nat} {st st0 : St} {cx : Cx} {a : Act} {W W' : World} {m : Nat → Option Nat} {ops l : List Oper} {acc : List Sm} {Q : List Sm → St → Prop} {o : Oper} {j : Nat} {want g : Bool}
theorem gOf_congr {tm tm' : List (Nat × TV)} (hg : o.guard = some (j, want)) (h : ∀ t ∈ rdOf ops o, lk t tm' = lk t tm) : gOf ops tm' j want = gOf ops tm j want := by
  unfold gOf
  split
  · rename_i d _ _ _ _ _ hj
    rw [h d (by unfold rdOf; simp only [List.mem_append, hg, hj]; exact .inr (by simp))]
  · rfl
/-- Slots that hold no more than they did. -/
theorem RelM.less (h : RelM G cx m st a W) {tm' : List (Nat × TV)} (hs : ∀ t y, lk t tm' = some y → ∃ z, lk t st.tm = some z ∧ ∀ E v, RT E z v → RT E y v) : RelM G cx m ⟨tm', st.ob⟩ a W :=
  { h with
    tm := fun t y hy => by
      have ⟨z, hz, hl⟩ := hs t y hy
      have ⟨v, hv, hr⟩ := h.tm t z hz
      exact ⟨v, hv, hl _ _ hr⟩ }
end
end Go.Proofs.YtbhokdhkfodpfaaGreatDoor
/- A float as a rational number; Holds. No condition. -/
namespace Go.Proofs.YtbhokdhkfodpfaaGreatDoor
set_option linter.unusedVariables false
set_option linter.unusedSimpArgs false
set_option maxHeartbeats 4000000
set_option maxRecDepth 10000
end Go.Proofs.YtbhokdhkfodpfaaGreatDoor
/- What the floats of a pair add up to, plain. No condition. -/
namespace Go.Proofs.YtbhokdhkfodpfaaGreatDoor
set_option linter.unusedVariables false
set_option linter.unusedSimpArgs false
set_option maxHeartbeats 4000000
set_option maxRecDepth 10000
end Go.Proofs.YtbhokdhkfodpfaaGreatDoor
/- Division by 1; a ratio by 1, rounded. No condition. -/
namespace Go.Proofs.YtbhokdhkfodpfaaGreatDoor
set_option linter.unusedVariables false
set_option linter.unusedSimpArgs false
variable {G : Gl}
set_option maxHeartbeats 4000000
set_option maxRecDepth 10000
theorem Div64_low {lo w : Nat} (hl : lo < 18446744073709551616) (hw : 0 < w) : Does Tryz.prog G 158 [.c (.n 0), .c (.n lo), .c (.n w)] (.t [.c (.n (lo / w)), .c (.n (lo % w))]) := by
  have hw0 : ¬ w = 0 := by omega
  have hw1 : ¬ w ≤ 0 := by omega
  refine Does.of (nt := 135) Tryz.func158 rfl rfl rfl (by simp) ?_
  simp only [argTm, PV.ext, Ce.ext]
  refine Do.seqk fun _ k1_ => ?_
  refine Do.region [0,1,2] true ?_
  simp [go_sem, hw0, hw1]
  apply k1_; clear k1_
  refine Do.seqk fun _ k2_ => ?_
  refine Do.seqk fun _ k3_ => ?_
  refine Do.region [0,1,2,20] true ?_
  simp [go_sem, hw0, hw1]
  apply k3_; clear k3_
  refine Do.cond [0,1,2] rfl (fun h1 => ?_) (fun h1 => ?_) <;> simp [go_sem, hw0, hw1] at h1 ⊢
  refine Do.skip ?_
  simp [go_sem]
  apply k2_; clear k2_
  refine Do.seqk fun _ k4_ => ?_
  refine Do.seqk fun _ k5_ => ?_
  refine Do.region [0,1,2,24] true ?_
  simp [go_sem, hw0, hw1]
  apply k5_; clear k5_
  refine Do.cond [0,1,2] rfl (fun h2 => ?_) (fun h2 => ?_) <;> simp [go_sem, hw0, hw1] at h2 ⊢
  refine Do.skip ?_
  simp [go_sem]
  apply k4_; clear k4_
  refine Do.seqk fun _ k6_ => ?_
  refine Do.seqk fun _ k7_ => ?_
  refine Do.region [0,1,2,27] true ?_
  simp [go_sem, hw0, hw1]
  apply k7_; clear k7_
  refine Do.cond [0,1,2] rfl (fun h3 => ?_) (fun h3 => ?_) <;> simp [go_sem, hw0, hw1] at h3 ⊢
  refine Do.seqk fun _ k8_ => ?_
  refine Do.draw [6,7] true (by kernel_rfl) ?_
  simp [go_sem, hw0, hw1]
  repeat (refine And.intro (by first | omega | (intros; omega) | kernel_rfl | grind) ?_)
  try (refine And.intro (by kernel_rfl) ?_)
  apply k8_; clear k8_
  refine Do.ret ?_
  simp [endQ, rets, ret1, go_sem, hw0, hw1]
  repeat (refine And.intro (by first | omega | (intros; omega) | grind) ?_)
  exact TLe.refl _
end Go.Proofs.YtbhokdhkfodpfaaGreatDoor
/- Conversions, plain. No condition. -/
namespace Go.Proofs.YtbhokdhkfodpfaaGreatDoor
set_option linter.unusedVariables false
set_option linter.unusedSimpArgs false
set_option maxHeartbeats 4000000
set_option maxRecDepth 10000
end Go.Proofs.YtbhokdhkfodpfaaGreatDoor
/- The integer part of a number; the arguments of conversions. No condition. -/
namespace Go.Proofs.YtbhokdhkfodpfaaGreatDoor
set_option linter.unusedVariables false
set_option linter.unusedSimpArgs false
set_option maxHeartbeats 4000000
set_option maxRecDepth 10000
theorem sgn_neg (n : Bool) (v : Nat) : (n && decide (0 < ((nat v).length : Int))) = decide (sgn n v < 0) := by
  have h : 0 < (nat v).length ↔ v ≠ 0 := nat_len_zero v
  cases n
  · simp [sgn]
  · simp only [Bool.true_and, sgn, if_true]
    congr 1
    apply propext
    constructor
    · intro h1
      have := h.1 (by omega)
      omega
    · intro h1
      have := h.2 (by omega)
      omega
theorem PLe.iv20 {n : Bool} {v : Nat} {c : Ce} {b : Bool} (hb : b = decide (sgn n v < 0)) (h : PLe (.c c) (.c (.w false (nat v)))) : PLe (.a [.b b, c]) (Iv (sgn n v)) := by
  subst hb
  show PLe _ (Ig (decide (sgn n v < 0)) (nat (sgn n v).natAbs))
  rw [sgn_abs]
  exact PLe.agg (.cons (PLe.refl _) (.cons h .nil))
end Go.Proofs.YtbhokdhkfodpfaaGreatDoor
/- Rounding of rational numbers whose denominator is 1; the program awake. No condition. -/
namespace Go.Proofs.YtbhokdhkfodpfaaGreatDoor
set_option linter.unusedVariables false
set_option linter.unusedSimpArgs false
set_option maxHeartbeats 4000000
set_option maxRecDepth 10000
theorem NoInt_does20 {z : Int} {n : Bool} {m : List Nat} (hm : Sh m) : Does Tryz.prog Gv 31 [.a [.b n, .w false m]] (.v (.c (.b (!n && decide (m = []))))) := by
  have hl : decide (((m.length : Nat) : Int) = 0) = decide (m = []) := by
    congr 1
    cases m <;> simp
    omega
  refine Does.of (nt := 12) Tryz.func31 rfl rfl rfl (by simp) ?_
  simp only [argTm, PV.ext, Ce.ext]
  refine Do.seqk fun _ k1_ => ?_
  refine Do.region [1] true ?_
  simp [go_sem]
  apply k1_; clear k1_
  refine Do.seqk fun _ k2_ => ?_
  refine Do.region [2] true ?_
  simp [go_sem]
  repeat (refine And.intro (by first | omega | (intros; omega) | grind) ?_)
  apply k2_; clear k2_
  refine Do.ret ?_
  simp [endQ, rets, ret1, go_sem]
  repeat (refine And.intro (by first | omega | (intros; omega) | grind) ?_)
  exact ret_b (by cases m with | nil => simp | cons a l => simp; intro _; omega)
end Go.Proofs.YtbhokdhkfodpfaaGreatDoor
/- The law ConvertFormats. No condition. -/
namespace Go.Proofs.YtbhokdhkfodpfaaGreatDoor
set_option linter.unusedVariables false
set_option linter.unusedSimpArgs false
set_option maxHeartbeats 4000000
set_option maxRecDepth 10000
end Go.Proofs.YtbhokdhkfodpfaaGreatDoor
/- The law ConvertLarge. No condition. -/
namespace Go.Proofs.YtbhokdhkfodpfaaGreatDoor
set_option linter.unusedVariables false
set_option linter.unusedSimpArgs false
set_option maxHeartbeats 4000000
set_option maxRecDepth 10000
section
variable {f p r : Int} {x : Fla}
end
end Go.Proofs.YtbhokdhkfodpfaaGreatDoor
/- A rational number of the reference, rounded to an integer. No condition. -/
namespace Go.Proofs.YtbhokdhkfodpfaaGreatDoor
set_option linter.unusedVariables false
set_option linter.unusedSimpArgs false
variable {G : Gl}
set_option maxHeartbeats 4000000
set_option maxRecDepth 10000
theorem RRatio_does {a d : Nat} (ha : bl a ≤ 50000000) (hd : bl d ≤ 50000000) (h0 : 0 < d) : Does Tryz.prog G 104 [Wd (nat a), Wd (nat d)] (.v (Pt (a * 2 / d / 2) (decide (a * 2 / d % 2 = 1)) (!decide (a * 2 % d = 0)))) := by
  have la := len_bl ha
  have ld := len_bl hd
  have h1 := @RLeft_does G (nat a) 1 (by omega) (nat_ws _) (by decide)
  rw [val_nat, Nat.pow_one] at h1
  have hb : bl (a * 2) ≤ 50000002 := by
    have := bl_mulN a 2
    have : bl 2 = 2 := by decide
    omega
  have l2 := len_bl hb
  have h2 := @RDivMod_does G (nat (a * 2)) (nat d) (by omega) (nat_ws _) (by omega) (nat_ws _) (by rw [val_nat]; exact h0)
  rw [val_nat, val_nat] at h2
  have l3 := len_bl (Nat.le_trans (bl_mono (Nat.div_le_self (a * 2) d)) hb)
  have l4 := len_bl (Nat.le_trans (bl_mono (Nat.mod_le (a * 2) d)) hb)
  have h3 := @RRight_does G (nat (a * 2 / d)) 1 (by omega) (nat_ws _) (by decide)
  have h4 := @RBit_does G (nat (a * 2 / d)) (by omega) (nat_ws _) 0 (by constructor <;> decide)
  have h5 := @IsZero_does G (nat (a * 2 % d)) (by omega) (nat_ws _)
  rw [val_nat] at h3 h4 h5
  simp only [Nat.pow_one, Int.toNat_zero, Nat.pow_zero, Nat.div_one, decide_true, Bool.true_and, Int.le_refl] at h3 h4 h5
  generalize a * 2 / d = q at *
  generalize a * 2 % d = w at *
  generalize a * 2 = a2 at *
  refine Does.of (nt := 22) Tryz.func104 rfl rfl rfl (by simp) ?_
  simp only [argTm, PV.ext, Ce.ext]
  refine Do.seqk fun _ k1_ => ?_
  refine Do.region [0,1,4] true ?_
  simp [go_sem]
  apply k1_; clear k1_
  refine Do.seqk fun _ k2_ => ?_
  refine Do.region [4,5,6] true ?_
  simp [go_sem]
  refine DoL.call true 102 rfl rfl rfl rfl (by first | exact trivial | omega | (simp; done) | (simp; omega)) (h1) rfl (by first | exact .inl rfl | exact .inr rfl) rfl ?_
  simp [go_sem]
  refine DoL.call true 104 rfl rfl rfl rfl (by first | exact trivial | omega | (simp; done) | (simp; omega)) (h2) rfl (by first | exact .inl rfl | exact .inr rfl) rfl ?_
  simp [go_sem]
  apply k2_; clear k2_
  refine Do.seqk fun _ k3_ => ?_
  refine Do.region [4] true ?_
  simp [go_sem]
  refine DoL.call true 202 rfl rfl rfl rfl (by first | exact trivial | omega | (simp; done) | (simp; omega)) (h3) rfl (by first | exact .inl rfl | exact .inr rfl) rfl ?_
  simp [go_sem]
  refine DoL.call true 204 rfl rfl rfl rfl (by first | exact trivial | omega | (simp; done) | (simp; omega)) (h4) rfl (by first | exact .inl rfl | exact .inr rfl) rfl ?_
  simp [go_sem]
  refine DoL.call true 206 rfl rfl rfl rfl (by first | exact trivial | omega | (simp; done) | (simp; omega)) (h5) rfl (by first | exact .inl rfl | exact .inr rfl) rfl ?_
  simp [go_sem]
  repeat (refine And.intro (by first | omega | (intros; omega) | grind) ?_)
  apply k3_; clear k3_
  refine Do.ret ?_
  simp [endQ, rets, ret1, go_sem]
  repeat (refine And.intro (by first | omega | (intros; omega) | grind) ?_)
  exact pt_le (PLe.ext (.c (.w true _)))
end Go.Proofs.YtbhokdhkfodpfaaGreatDoor
/- The law ConvertIntegrals. No condition. -/
namespace Go.Proofs.YtbhokdhkfodpfaaGreatDoor
set_option linter.unusedVariables false
set_option linter.unusedSimpArgs false
set_option maxHeartbeats 4000000
set_option maxRecDepth 10000
section
variable {f p r : Int} {x : Fla} {a : Flt}
end
end Go.Proofs.YtbhokdhkfodpfaaGreatDoor
/- The field of a value, under a test that holds, in a region whose order is open. No condition. -/
namespace Go.Proofs.YtbhokdhkfodpfaaGreatDoor
set_option linter.unusedVariables false
set_option linter.unusedSimpArgs false
section
variable {P : Program} {G : Gl} {nt : Nat} {st st0 : St} {ops l : List Oper} {acc : List Sm} {Q : List Sm → St → Prop} {o : Oper} {j : Nat} {want : Bool}
theorem DoLD.field0 (md : Bool) (lab : Nat) (hg : o.guard = some (j, want)) (hgo : gOf ops st.tm j want = some true) {t s : Nat} {c0 c1 : Ce} (hop : o.op = .field t (.tmp s) 0) (hs : lk s st.tm = some (.gd true (.v (.a [c0, c1])))) (hm : s ∈ rdOf ops o) (hF : ∀ a b W, (Instr.field t (.agg #[a, b]) 0).run P W = .ok a W)
    (hx : (TV.gd true (.v (.c c0))).labs = []) (hd : dstOk nt o.dst = true) (next : runsD P G nt md ops st0 Q lab l (acc ++ [⟨[], [], [], none⟩]) ⟨setv o.dst (some (.gd true (.v (.c c0)))) st.tm, st.ob⟩) : DoLD P G nt ops st0 Q (o :: l) acc st := by
  have h : OpOk P G nt ops (boxes st0.ob) o st ⟨o.dst, some (.gd true (.v (.c c0))), .none, 0, []⟩ := by
    refine ⟨rfl, fun cx a W m S hn _ hrd hus hfree hr Q' K hK => ?_⟩
    rw [gOf_spec hr ((gOf_congr hg hrd).trans hgo) hg, if_pos rfl]
    have hsS : opv S.tm (.tmp s) = some (.gd true (.v (.a [c0, c1]))) := by
      show lk s S.tm = _
      rw [hrd s hm]; exact hs
    have hrt := hr.opv hsS
    obtain ⟨vs, e1, h2⟩ := hrt.1 rfl
    obtain ⟨v0, r0, e2, a0, h2⟩ := h2.cons_iff
    obtain ⟨v1, r1, rfl, a1, h2⟩ := h2.cons_iff
    cases h2
    have e3 : vs = #[v0, v1] := Array.toList_inj.1 (by rw [e2])
    subst e3
    unfold Oper.wp
    have hexec : (execOp a.eval o).run P W = .ok (.value v0) W := by
      simp [execOp, hop, e1, hF]
    rw [hexec]
    exact hK _ _ (Rel.put hr hn hd (show RT _ (.gd true (.v (.c c0))) v0 from ⟨fun _ => a0, fun e => by cases e⟩))
  refine DoLD.cons h (fun l hl => by simp [Tr.nw, Eff.isNew] at hl) rfl ?_
  have e1 : Tr.sm ⟨o.dst, some (.gd true (.v (.c c0))), .none, 0, []⟩ = ⟨[], [], [], none⟩ := by
    simp [Tr.sm, Tr.wr, Tr.mn, Tr.nw, Tr.ob, Eff.isNew, hx]
  rw [e1]
  exact DoLD.run next
end
theorem int_field : ∀ a b W, (Instr.field 38 (.agg #[a, b]) 0).run Tryz.prog W = .ok a W := fun a b W => by kernel_rfl
end Go.Proofs.YtbhokdhkfodpfaaGreatDoor
/- Integers that are alike. No condition. -/
namespace Go.Proofs.YtbhokdhkfodpfaaGreatDoor
set_option linter.unusedVariables false
set_option linter.unusedSimpArgs false
variable {G : Gl}
set_option maxHeartbeats 4000000
set_option maxRecDepth 10000
theorem cn_top : ∀ {l : List Nat}, norm l = l → l ≠ [] → ∃ w, l[l.length - 1]? = some w ∧ w ≠ 0
  | [], _, h => absurd rfl h
  | w :: l, hn, _ => by
    rw [norm_cons] at hn
    split at hn
    · cases hn
    · rename_i hc
      have hl : norm l = l := (List.cons.inj hn).2
      by_cases h0 : l = []
      · subst h0
        exact ⟨w, by simp, fun h => hc ⟨hl, h⟩⟩
      · obtain ⟨u, h1, h2⟩ := cn_top hl h0
        refine ⟨u, ?_, h2⟩
        obtain ⟨k, hk⟩ : ∃ k, l.length = k + 1 := ⟨l.length - 1, by have := List.length_pos_iff.2 h0; omega⟩
        rw [List.length_cons, Nat.add_sub_cancel, hk, List.getElem?_cons_succ]
        rw [hk, Nat.add_sub_cancel] at h1
        exact h1
theorem RCanon_does {v : Nat} (hl : (nat v).length ≤ 1073741824) : Does Tryz.prog G 133 [Wd (nat v)] (.v (.c (.b true))) := by
  by_cases h0 : nat v = []
  · rw [h0]
    refine Does.of (nt := 15) Tryz.func133 rfl rfl rfl (by simp) ?_
    simp only [argTm, PV.ext, Ce.ext]
    refine Do.seqk fun _ k1_ => ?_
    refine Do.region [0] true ?_
    simp [go_sem]
    apply k1_; clear k1_
    refine Do.seqk fun _ k2_ => ?_
    refine Do.region [2] true ?_
    simp [go_sem]
    repeat (refine And.intro (by first | omega | (intros; omega) | grind) ?_)
    apply k2_; clear k2_
    refine Do.ret ?_
    simp [endQ, rets, ret1, go_sem]
    repeat (refine And.intro (by first | omega | (intros; omega) | grind) ?_)
    exact TLe.refl _
  · obtain ⟨w, h1, h2⟩ := cn_top (nat_cn v) h0
    have hlen := List.length_pos_iff.2 h0
    generalize nat v = l at *
    obtain ⟨k, hk⟩ : ∃ k, l.length = k + 1 := ⟨l.length - 1, by omega⟩
    rw [hk, Nat.add_sub_cancel] at h1
    have hg : ∀ h : k < l.length, l[k]'h = w := fun h => by rw [List.getElem?_eq_getElem h] at h1; exact Option.some.inj h1
    refine Does.of (nt := 15) Tryz.func133 rfl rfl rfl (by simp) ?_
    simp only [argTm, PV.ext, Ce.ext]
    refine Do.seqk fun _ k1_ => ?_
    refine Do.region [0] true ?_
    simp [go_sem, hk, h1, h2]
    apply k1_; clear k1_
    refine Do.seqk fun _ k2_ => ?_
    refine Do.region [2] true ?_
    simp [go_sem, hk, h1, h2]
    repeat (refine And.intro (by first | omega | (intros; omega) | grind) ?_)
    apply k2_; clear k2_
    refine Do.ret ?_
    simp [endQ, rets, ret1, go_sem, hk, h1, h2]
    repeat (refine And.intro (by first | omega | (intros; omega) | grind) ?_)
    exact ret_b (by simp [hg, h2])
theorem RSame_does {l : List Nat} (hl : l.length ≤ 1073741824) : Does Tryz.prog G 134 [Wd l, Wd l] (.v (.c (.b true))) := by
  refine Does.of (nt := 26) Tryz.func134 rfl rfl rfl (by simp) ?_
  simp only [argTm, PV.ext, Ce.ext]
  refine Do.seqk fun _ k1_ => ?_
  refine Do.region [0,1] true ?_
  simp [go_sem]
  apply k1_; clear k1_
  refine Do.seqk fun _ k2_ => ?_
  refine Do.seqk fun _ k3_ => ?_
  refine Do.region [0,1,10] true ?_
  simp [go_sem]
  repeat (refine And.intro (by first | omega | (intros; omega) | grind) ?_)
  apply k3_; clear k3_
  refine Do.cond [0,1] rfl (fun h => ?_) (fun h => ?_) <;> simp [go_sem] at h ⊢
  refine Do.skip ?_
  simp [go_sem]
  apply k2_; clear k2_
  refine Do.seqk fun _ k4_ => ?_
  refine Do.seqk fun _ k5_ => ?_
  refine Do.region [0,1,5] true ?_
  simp [go_sem]
  apply k5_; clear k5_
  refine Do.block ?_
  refine Do.loopF [0,1,5] (fun (i : Nat) => [(5, .int .i64 i)]) (fun (i : Nat) => []) (fun (i : Nat) => i ≤ l.length) (fun (i : Nat) => l.length - i) (0) (fun _ => by first | (simp [go_sem, mixS]; done) | (simp [go_sem, mixS]; rfl)) (St.le_of (by first | rfl | simp [keep]) (by first | rfl | simp [keep])) (Nat.zero_le _) ?_
  intro i hi
  refine Do.seqk fun _ k6_ => ?_
  refine Do.seqk fun _ k7_ => ?_
  refine Do.region [0,1,5,14] true ?_
  simp [go_sem]
  repeat (refine And.intro (by first | omega | (intros; omega) | grind) ?_)
  apply k7_; clear k7_
  refine Do.cond [0,1,5] rfl (fun h5 => ?_) (fun h5 => ?_) <;> simp [go_sem] at h5 ⊢
  · obtain ⟨w, hw⟩ : ∃ w, l[i]? = some w := ⟨_, List.getElem?_eq_getElem h5⟩
    refine Do.skip ?_
    simp [go_sem]
    apply k6_; clear k6_
    refine Do.seqk fun _ k8_ => ?_
    refine Do.block ?_
    refine Do.seqk fun _ k9_ => ?_
    refine Do.draw [0,1,5,25] true (by kernel_rfl) ?_
    simp [go_sem, hw]
    repeat (refine And.intro (by first | omega | (intros; omega) | kernel_rfl | grind) ?_)
    try (refine And.intro (by kernel_rfl) ?_)
    apply k9_; clear k9_
    refine Do.cond [0,1,5] rfl (fun h6 => ?_) (fun h6 => ?_) <;> simp [go_sem, hw] at h6 ⊢
    refine Do.skip ?_
    simp [go_sem]
    apply k8_; clear k8_
    refine Do.region [0,1,5] true ?_
    simp [go_sem, hw]
    repeat (refine And.intro (by first | omega | (intros; omega) | grind) ?_)
    refine ⟨i + 1, St.le_of (by first | rfl | simp [keep]) (by first | rfl | simp [keep]), by omega, by first | (simp; done) | (simp; omega)⟩
  · refine Do.exit ?_
    simp [go_sem]
    apply k4_; clear k4_
    refine Do.seqk fun _ k10_ => ?_
    refine Do.region [4] true ?_
    simp [go_sem]
    apply k10_; clear k10_
    refine Do.ret ?_
    simp [endQ, rets, ret1, go_sem]
    repeat (refine And.intro (by first | omega | (intros; omega) | grind) ?_)
    exact TLe.refl _
theorem RIs_does {m : List Nat} (hm : m.length ≤ 1073741824) (wm : Ws m) : Does Tryz.prog G 105 [Wd (nat (val m)), Wd m] (.v (.c (.b true))) := by
  have hl := nat_len_le wm (Nat.le_refl _)
  have h1 := @RCanon_does G (val m) (by omega)
  have h2 := @RTrim_does G m hm wm
  have h3 := @RSame_does G (nat (val m)) (by omega)
  generalize nat (val m) = l at *
  refine Does.of (nt := 13) Tryz.func105 rfl rfl rfl (by simp) ?_
  simp only [argTm, PV.ext, Ce.ext]
  refine Do.seqk fun _ k1_ => ?_
  refine Do.region [0,1] true ?_
  simp [go_sem]
  apply k1_; clear k1_
  refine Do.seqk fun _ k2_ => ?_
  refine Do.region [4] true ?_
  simp [go_sem]
  refine DoL.call true 102 rfl rfl rfl rfl (by first | exact trivial | omega | (simp; done) | (simp; omega)) (h1) rfl (by first | exact .inl rfl | exact .inr rfl) rfl ?_
  simp [go_sem]
  refine DoL.callg true 106 rfl rfl rfl rfl rfl (by simp [go_sem] <;> omega) (fun _ => h2) rfl (by first | exact .inl rfl | exact .inr rfl) rfl ?_
  simp [go_sem]
  refine DoL.callg true 107 rfl rfl rfl rfl rfl (by simp [go_sem] <;> omega) (fun _ => h3) rfl (by first | exact .inl rfl | exact .inr rfl) rfl ?_
  simp [go_sem]
  apply k2_; clear k2_
  refine Do.ret ?_
  simp [endQ, rets, ret1, go_sem]
  repeat (refine And.intro (by first | omega | (intros; omega) | grind) ?_)
  exact TLe.refl _
theorem IIs_does {n : Bool} {m : List Nat} (hm : m.length ≤ 1073741824) (wm : Ws m) : Does Tryz.prog G 33 [Iv (sgn n (val m)), .a [.b n, .w false m]] (.v (.c (.b true))) := by
  have h1 := @RIs_does G m hm wm
  have h2 := @ITrim_does G n m hm wm
  have h3 : Does Tryz.prog G 68 [Iv (sgn n (val m)), .a [.b n, .w false m]] (.v (.c (.b true))) := by
    rw [show (nat (val m)) = nat (sgn n (val m)).natAbs by rw [sgn_abs]] at h1
    generalize sgn n (val m) = z at *
    have h2 : Does Tryz.prog G 106 [Ig n m] (.v (.a [.b (decide (z < 0)), .w false (nat z.natAbs)])) := h2
    refine Does.of (nt := 18) Tryz.func68 rfl rfl rfl (by simp) ?_
    simp only [argTm, PV.ext, Ce.ext]
    refine Do.seqk fun _ k1_ => ?_
    refine Do.region [2,3] true ?_
    simp [go_sem]
    apply k1_; clear k1_
    refine Do.seqk fun _ k2_ => ?_
    refine Do.draw [4] true (by kernel_rfl) ?_
    simp [go_sem]
    repeat (refine And.intro (by first | omega | (intros; omega) | kernel_rfl | grind) ?_)
    refine DoLD.call true 105 rfl rfl rfl rfl (by first | exact trivial | omega | (simp; done) | (simp; omega)) (h1) rfl (by first | exact .inl rfl | exact .inr rfl) rfl ?_
    simp [go_sem]
    repeat (refine And.intro (by first | omega | (intros; omega) | kernel_rfl | grind) ?_)
    refine DoLD.callg true 110 rfl rfl rfl rfl rfl (by simp [go_sem] <;> omega) (fun _ => h2) rfl (by first | exact .inl rfl | exact .inr rfl) rfl ?_
    simp [go_sem]
    refine DoLD.field0 true 111 rfl rfl rfl rfl (by decide) int_field rfl rfl ?_
    simp [go_sem]
    try (refine And.intro (by kernel_rfl) ?_)
    apply k2_; clear k2_
    refine Do.ret ?_
    simp [endQ, rets, ret1, go_sem]
    repeat (refine And.intro (by first | omega | (intros; omega) | grind) ?_)
    exact TLe.refl _
  generalize sgn n (val m) = z at *
  refine Does.of (nt := 8) Tryz.func33 rfl rfl rfl (by simp) ?_
  simp only [argTm, PV.ext, Ce.ext]
  refine Do.seqk fun _ k1_ => ?_
  refine Do.region [2,3] true ?_
  simp [go_sem]
  apply k1_; clear k1_
  refine Do.seqk fun _ k2_ => ?_
  refine Do.region [4] true ?_
  simp [go_sem]
  repeat (refine And.intro (by first | omega | (intros; omega) | grind) ?_)
  refine DoL.call true 103 rfl rfl rfl rfl (by first | exact trivial | omega | (simp; done) | (simp; omega)) (h3) rfl (by first | exact .inl rfl | exact .inr rfl) rfl ?_
  simp [go_sem]
  apply k2_; clear k2_
  refine Do.ret ?_
  simp [endQ, rets, ret1, go_sem]
  repeat (refine And.intro (by first | omega | (intros; omega) | grind) ?_)
  exact TLe.refl _
end Go.Proofs.YtbhokdhkfodpfaaGreatDoor
/- The law ConvertWhole. No condition. -/
namespace Go.Proofs.YtbhokdhkfodpfaaGreatDoor
set_option linter.unusedVariables false
set_option linter.unusedSimpArgs false
set_option maxHeartbeats 4000000
set_option maxRecDepth 10000
end Go.Proofs.YtbhokdhkfodpfaaGreatDoor
/- The law ConvertInts. No condition. -/
namespace Go.Proofs.YtbhokdhkfodpfaaGreatDoor
set_option linter.unusedVariables false
set_option linter.unusedSimpArgs false
set_option maxHeartbeats 8000000
set_option maxRecDepth 10000
theorem IIs_same {G : Gl} {z : Int} (hz : bl z.natAbs ≤ 1000000) : Does Tryz.prog G 33 [Iv z, Iv z] (.v (.c (.b true))) := by
  have h := @IIs_does G (decide (z < 0)) (nat z.natAbs) (by have := len_bl hz; omega) (nat_ws _)
  rw [val_nat, sgn_of] at h
  exact h
end Go.Proofs.YtbhokdhkfodpfaaGreatDoor
/- Division of two words by one. No condition. -/
namespace Go.Proofs.YtbhokdhkfodpfaaGreatDoor
set_option linter.unusedVariables false
set_option linter.unusedSimpArgs false
variable {G : Gl}
set_option maxHeartbeats 4000000
set_option maxRecDepth 10000
theorem half_lt {A c D : Nat} (hA : A < D) (hc : c < 4294967296) : A * 4294967296 + c < D * 4294967296 := by
  have := Nat.mul_le_mul_right 4294967296 (show A + 1 ≤ D from hA)
  omega
theorem half_q {A c D : Nat} (hA : A < D) (hc : c < 4294967296) : (A * 4294967296 + c) / D < 4294967296 :=
  (Nat.div_lt_iff_lt_mul (by omega)).2 (by have := half_lt hA hc; omega)
/-- The state of a loop that finds a half of a quotient. -/
structure HalfI (A c v1 v0 q rh : Nat) : Prop where
  eq : q * v1 + rh = A
  ge : (A * 4294967296 + c) / (v1 * 4294967296 + v0) ≤ q
  le : q ≤ 4294967297
theorem HalfI.start {A c v1 v0 : Nat} (h1 : 2147483648 ≤ v1) (h0 : v0 < 4294967296) (hA : A < v1 * 4294967296 + v0) (hc : c < 4294967296) : HalfI A c v1 v0 (A / v1) (A - A / v1 * v1) := by
  have e := Nat.div_mul_le_self A v1
  refine ⟨by omega, ?_, ?_⟩
  · rw [Nat.le_div_iff_mul_le (by omega)]
    have h2 := Nat.div_mul_le_self (A * 4294967296 + c) (v1 * 4294967296 + v0)
    generalize (A * 4294967296 + c) / (v1 * 4294967296 + v0) = Q at *
    rw [Nat.mul_add, ← Nat.mul_assoc] at h2
    generalize Q * v1 = u at *
    generalize Q * v0 = w at *
    omega
  · have : A / v1 < 4294967298 := by
      rw [Nat.div_lt_iff_lt_mul (by omega)]
      omega
    omega
theorem HalfI.dec {A c v1 v0 q rh : Nat} (h : HalfI A c v1 v0 q rh) (hA : A < v1 * 4294967296 + v0) (hc : c < 4294967296) (hq : 4294967296 ≤ q ∨ rh * 4294967296 + c < q * v0) : 1 ≤ q ∧ HalfI A c v1 v0 (q - 1) (rh + v1) := by
  have hQ := half_q hA hc
  have hlt : (A * 4294967296 + c) / (v1 * 4294967296 + v0) < q := by
    rcases hq with hq | hq
    · omega
    · rw [Nat.div_lt_iff_lt_mul (by omega), Nat.mul_add, ← Nat.mul_assoc]
      have e := h.eq
      have e2 : A * 4294967296 = q * v1 * 4294967296 + rh * 4294967296 := by rw [← e, Nat.add_mul]
      rw [e2, Nat.add_assoc]
      exact Nat.add_lt_add_left hq _
  have hge := h.ge
  have heq := h.eq
  have hle := h.le
  clear h
  generalize hQe : (A * 4294967296 + c) / (v1 * 4294967296 + v0) = Q at *
  obtain ⟨j, rfl⟩ : ∃ j, q = j + 1 := ⟨q - 1, by omega⟩
  rw [Nat.add_mul] at heq
  exact ⟨by omega, by simp only [Nat.add_sub_cancel]; omega, by rw [hQe]; omega, by omega⟩
theorem HalfI.fin {A c v1 v0 q rh : Nat} (h : HalfI A c v1 v0 q rh) (hv : 0 < v1) (hq : q * v0 ≤ rh * 4294967296 + c) : q = (A * 4294967296 + c) / (v1 * 4294967296 + v0) := by
  refine Nat.le_antisymm ?_ h.ge
  rw [Nat.le_div_iff_mul_le (by omega), Nat.mul_add, ← Nat.mul_assoc]
  have := h.eq
  clear h
  generalize q * v1 = u at *
  generalize q * v0 = w at *
  omega
theorem HalfI.brk {A c v1 v0 q rh : Nat} (h : HalfI A c v1 v0 q rh) (hv : 0 < v1) (h0 : v0 < 4294967296) (hq : q ≤ 4294967296) (hr : 4294967296 ≤ rh) : q = (A * 4294967296 + c) / (v1 * 4294967296 + v0) := by
  refine h.fin hv ?_
  have h1 : q * v0 ≤ 4294967296 * v0 := Nat.mul_le_mul_right _ hq
  omega
theorem halves {N c D : Nat} (hD : 0 < D) : (N * 4294967296 + c) / D = N / D * 4294967296 + (N % D * 4294967296 + c) / D ∧ (N * 4294967296 + c) % D = (N % D * 4294967296 + c) % D := by
  have e : N * 4294967296 + c = (N % D * 4294967296 + c) + D * (N / D * 4294967296) := by
    have := Nat.div_add_mod N D
    rw [← Nat.mul_assoc]
    generalize D * (N / D) = u at *
    omega
  constructor
  · conv => lhs; rw [e, Nat.add_mul_div_left _ _ hD]
    omega
  · rw [e, Nat.add_mul_mod_self_left]
theorem take_off {P c Y R : Nat} (h : P + c = Y + R) (hR : R < M64) : ((P + c) % M64 + M64 - Y % M64) % M64 = R := by
  unfold M64 at *; omega
theorem two_lim {a b : Nat} (ha : a < 4294967296) (hb : b < 4294967296) : (a * 4294967296 + b) % M64 = a * 4294967296 + b := Nat.mod_eq_of_lt (by unfold M64; omega)
theorem Lz_does {x : Nat} (hx : x < 18446744073709551616) : Does Tryz.prog G 138 [.c (.n x)] (.int .i64 (64 - bl x)) := by
  have h := @Len64_does G x hx
  have hb := bl_word hx
  rw [bitLen_bl hx] at h
  refine Does.of (nt := 6) Tryz.func138 rfl rfl rfl (by simp) ?_
  simp only [argTm, PV.ext, Ce.ext]
  refine Do.seqk fun _ k1_ => ?_
  refine Do.region [0] true ?_
  simp [go_sem]
  apply k1_; clear k1_
  refine Do.seqk fun _ k2_ => ?_
  refine Do.region [2] true ?_
  simp [go_sem]
  refine DoL.call true 102 rfl rfl rfl rfl (by first | exact trivial | omega | (simp; done) | (simp; omega)) (h) rfl (by first | exact .inl rfl | exact .inr rfl) rfl ?_
  simp [go_sem]
  repeat (refine And.intro (by first | omega | (intros; omega) | grind) ?_)
  apply k2_; clear k2_
  refine Do.ret ?_
  simp [endQ, rets, ret1, go_sem]
  repeat (refine And.intro (by first | omega | (intros; omega) | grind) ?_)
  exact TLe.refl _
theorem norm_word {y s : Nat} (h0 : 0 < y) (hs : s = 64 - bl y) (hy : y < 18446744073709551616) : y * 2 ^ s < 18446744073709551616 ∧ 9223372036854775808 ≤ y * 2 ^ s := by
  have hb := bl_word hy
  have hp := bl_pos h0
  have h1 := bl_self y
  have h2 := (bl_le y (bl y - 1)).1 (by omega)
  have h3 : y * 2 ^ s < 2 ^ bl y * 2 ^ s := Nat.mul_lt_mul_of_pos_right h1 (Nat.pow_pos (by decide))
  have h4 : 2 ^ (bl y - 1) * 2 ^ s ≤ y * 2 ^ s := Nat.mul_le_mul_right _ h2
  rw [← Nat.pow_add] at h3 h4
  rw [show bl y + s = 64 by omega] at h3
  rw [show bl y - 1 + s = 63 by omega] at h4
  exact ⟨h3, h4⟩
end Go.Proofs.YtbhokdhkfodpfaaGreatDoor

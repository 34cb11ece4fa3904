/- Functions whose one result is a row of the caller's. No condition. The reference's Rest: what sums leave, as a float. No condition. A box under another label; a pointer to cells, taken as one, within a region. No condition. Pairs of floats: the rounded sum, and what it drops. No condition. The law SumPairs. No condition. Products of floats, plain. No condition. -/
import Derived.Test.YtdaecibpkhcllaaGreatDoorMd
import Derived.Test.YtdaecibpkhcllaaGreatDoorMk
import Derived.Test.YtdaecibpkhcllaaGreatDoorMg
/- Functions whose one result is a row of the caller's. No condition. -/
namespace Go.Proofs.YtdaecibpkhcllaaGreatDoor
set_option linter.unusedVariables false
set_option linter.unusedSimpArgs false
section
variable {P : Program} {G : Gl} {nt : Nat} {st : St} {cx : Cx} {a : Act} {W W' : World} {m : Nat → Option Nat} {QE : Exit → St → Prop} {ops l : List Oper} {Q : St → Prop}
/-- What a call computes whose one result is a row that its caller alone holds. -/
def DoesQ (P : Program) (G : Gl) (f : FuncId) (args : List PV) (sz : Nat) (rows : List (List Ce)) : Prop :=
  ∀ (W : World) (ok : Nat → Prop) (vals : List Value), (∀ b, ok b → b < W.heap.size) → GlOk G W → All2 (RP (enA W ok)) args vals →
    (callFunc f vals.toArray).run P W = .ok (.enter f vals.toArray) W ∧ Calls P f vals.toArray W (fun e W' => ∃ sv bo, e = .returned sv ∧ RowKit.Below W.heap.size W W' ∧ (∀ b, bo = some b → W.heap.size ≤ b ∧ b < W'.heap.size) ∧
      RC (enO W W' ok bo (.sr sz rows)) (.r 0 rows.length) sv ∧ RO (enO W W' ok bo (.sr sz rows)) 0 (.sr sz rows))
def endOne (sz : Nat) (rows : List (List Ce)) (rs : List ResultVar) (e : Exit) (s : St) : Prop :=
  (e = .ret ∨ e = .normal) ∧ match rs with
    | [.tmp t] => (match lk t s.tm with
      | some (.v (.c (.r j n))) => n = rows.length ∧ lk j s.ob = some (.sr sz rows)
      | _ => False)
    | _ => False
theorem DoesQ.of {f : FuncId} {fn : Func} {c : Code} {args : List PV} {sz : Nat} {rows : List (List Ce)} (hf : P.funcs[f]? = some fn) (hname : (fn.name == "runtime.NumGoroutine") = false) (hb : fn.body = some c) (hnt : fn.ntmps = nt) (hal : args.length ≤ nt)
    (h : Do P G nt c ⟨argTm 0 args, []⟩ (endOne sz rows fn.results.toList)) : DoesQ P G f args sz rows := by
  intro W ok vals hok hgl hargs
  refine ⟨?_, ?_⟩
  · have hn' : fn.name ≠ "runtime.NumGoroutine" := by simpa using hname
    simp [callFunc, hf, hn', hb]
  · refine calls_of_wp hf hb ?_
    refine Code.wp_mono (fun e a' W' ⟨s, hq, m', hs⟩ => ?_) (h _ _ W rfl ⟨_, start_rel hok hgl hargs hal hnt⟩)
    obtain ⟨he, hret⟩ := hq
    split at hret
    case h_2 => exact hret.elim
    rename_i t hrs
    split at hret
    case h_2 => exact hret.elim
    rename_i j n ht
    obtain ⟨rfl, hj⟩ := hret
    obtain ⟨sv, hv, hrt⟩ := hs.tm t _ ht
    have hg : a'.tmps.getD t undef = sv := by simp [hv]
    have hres : (results fn a'.tmps).run P W' = .ok sv W' := by
      have hfun : results fn a'.tmps = (do let vs ← fn.results.mapM (resOf a'.tmps); pure (if h : vs.size = 1 then vs[0] else .tuple vs)) := by
        unfold results
        congr 1
      rw [hfun]
      have h1 : (resOf a'.tmps (.tmp t)).run P W' = .ok sv W' := by simp [resOf, hg]
      simp only [Sem.run_bind, Array.mapM_eq_mapM_toList, Sem.run_map, hrs, List.mapM_cons, List.mapM_nil, h1, Result.andThen_ok, Sem.run_pure]
      simp
    have hbelow : RowKit.Below W.heap.size W W' := ⟨hs.os, hs.tape, hs.output, hs.size, fun k hk => hs.keep k hk id⟩
    have hown : ∀ b, m' j = some b → W.heap.size ≤ b ∧ b < W'.heap.size := fun b hb => by
      obtain ⟨q1, q2⟩ := hs.own j _ b hj hb
      exact ⟨q2.elim id fun e => e.1.elim, q1⟩
    have hle : EnLe (fun _ => False) (en ⟨W.heap.size, W, ok, fun _ => False, nt⟩ m' s.ob W') (enO W W' ok (m' j) (.sr sz rows)) :=
      ⟨fun b ⟨q1, q2, q3⟩ => ⟨⟨q1, q2⟩, q3 j _ hj⟩, fun _ _ => rfl, Nat.le_refl _, fun _ hF => hF.elim⟩
    have hO : ∃ bo, (∀ b, bo = some b → W.heap.size ≤ b ∧ b < W'.heap.size) ∧ RC (enO W W' ok bo (.sr sz rows)) (.r 0 rows.length) sv ∧ RO (enO W W' ok bo (.sr sz rows)) 0 (.sr sz rows) := by
      refine ⟨m' j, hown, ⟨hrt.1, fun o' ho' hle' => ?_⟩, ?_⟩
      · obtain rfl : Ob.sr sz rows = o' := by simpa [enO] using ho'
        obtain ⟨_, k2⟩ := hrt.2 _ hj (Nat.le_refl _)
        exact ⟨rfl, k2⟩
      · rcases hs.ob j _ hj with ⟨y1, y2⟩ | ⟨b', vs, e2, r1, r2, r3⟩
        · exact .inl ⟨y1, y2⟩
        · exact .inr ⟨b', vs, e2, r1, r2, fun i cs hi => let ⟨k1, us', k2, k3⟩ := r3 i cs hi; ⟨k1, us', k2.mono hle, k3⟩⟩
    obtain ⟨bo, k1, k2, k3⟩ := hO
    have hfin : ∃ sv' bo, (Ending.returned sv) = .returned sv' ∧ RowKit.Below W.heap.size W W' ∧ (∀ b, bo = some b → W.heap.size ≤ b ∧ b < W'.heap.size) ∧
      RC (enO W W' ok bo (.sr sz rows)) (.r 0 rows.length) sv' ∧ RO (enO W W' ok bo (.sr sz rows)) 0 (.sr sz rows) :=
      ⟨sv, bo, rfl, hbelow, k1, k2, k3⟩
    rcases he with rfl | rfl
    · exact ⟨hs.df, _, hres, hfin⟩
    · exact ⟨hs.df, _, hres, hfin⟩
/-- A call whose one result is a row of this function's own from here on. -/
theorem DoL.callQ {o : Oper} {f : FuncId} {x : Operand} {az : Array Operand} {ts : Array TypeId} {p : Prop} {args : List PV} {sz : Nat} {rows : List (List Ce)} (md : Bool) (lab lo : Nat) (hg : o.guard = none) (hop : o.op = .call { callee := .value x, args := az, argTypes := ts })
    (hx : opv st.tm x = some (.v (.c (.f f)))) (ha : argsOf st az.toList = some (p, args, false)) (hp : p) (hD : DoesQ P G f args sz rows) (hf : st.free lo = true) (hd : dstOk nt o.dst = true)
    (next : runs P G nt md ops Q lab l ⟨setv o.dst (some (.v (.c (.r lo rows.length)))) st.tm, put lo (.sr sz rows) st.ob⟩) : DoL P G nt ops (o :: l) st Q := by
  intro cx a W hn ⟨m, hr⟩ Q' hQ
  refine wpList_plain hg fun K hK => ?_
  unfold Oper.wp
  have hxv : a.eval x = .func (.func f) #[] #[] := hr.opv hx
  have hargs := argsOf_run hr ha hp false id
  have hok : ∀ b, okC cx m st W false b → b < W.heap.size := by
    rintro b (h | ⟨e, _⟩)
    · exact h.2.1
    · cases e
  have hexec : execOp a.eval o = callFunc f (az.toList.map a.eval).toArray := by
    have e1 : (az.toList.map a.eval).toArray = az.map a.eval := by apply Array.ext'; simp
    unfold execOp
    simp [hop, resolve, hxv, Deferred.ofValue, invoke, e1]
  obtain ⟨h1, h2⟩ := hD W (okC cx m st W false) _ hok hr.glOk hargs
  rw [hexec, h1]
  refine h2.mono ?_
  rintro e W' ⟨sv, bo, rfl, hb, hbo, q1, q2⟩
  have he := enO_en hr hb (lab := lo) (bo := bo) (o := .sr sz rows)
  have hro : RO (en cx (upd m lo bo) (put lo (.sr sz rows) st.ob) W') lo (.sr sz rows) := by
    rcases q2 with ⟨y1, y2⟩ | ⟨b', vs, e2, r1, r2, r3⟩
    · exact .inl ⟨y1, by show upd m lo bo lo = none; rw [upd_self]; exact y2⟩
    · exact .inr ⟨b', vs, e2, by show upd m lo bo lo = _; rw [upd_self]; exact r1, r2, fun i cs hi => let ⟨g1, us', g2, g3⟩ := r3 i cs hi; ⟨g1, us', g2.mono he, g3⟩⟩
  have hr2 := hr.adopt hb hf hbo hro
  have hsv : RC (en cx (upd m lo bo) (put lo (.sr sz rows) st.ob) W') (.r lo rows.length) sv := by
    refine ⟨q1.1, fun o' ho' hle => ?_⟩
    have ho2 : lk lo (put lo (.sr sz rows) st.ob) = some o' := ho'
    rw [lk_put_self] at ho2; injection ho2 with ho2; subst ho2
    obtain ⟨k1, k2⟩ := q1.2 (.sr sz rows) rfl (Nat.le_refl _)
    refine ⟨rfl, ?_⟩
    show (_ ∧ _ ∧ upd m lo bo lo = none) ∨ ∃ b cap e, upd m lo bo lo = some b ∧ _
    rw [upd_self]
    exact k2
  have hput := Rel.put (st := ⟨st.tm, put lo (.sr sz rows) st.ob⟩) hr2 hn hd (x := .v (.c (.r lo rows.length))) (v := sv) hsv
  exact hK _ _ (DoL.run next cx _ _ hn hput Q' hQ)
end
end Go.Proofs.YtdaecibpkhcllaaGreatDoor
/- The reference's Rest: what sums leave, as a float. No condition. -/
namespace Go.Proofs.YtdaecibpkhcllaaGreatDoor
set_option linter.unusedVariables false
set_option linter.unusedSimpArgs false
variable {G : Gl}
set_option maxHeartbeats 4000000
set_option maxRecDepth 10000
theorem canonical17_own {l : List Fla} (hl : l.length < 1099511627776) (ho : ∀ x ∈ l, Rt x) {L : List Flt} (hL : (l.map fun x => rcanon x.flt) = L) : DoesQ Tryz.prog G 51 [Rows l] 4 (L.map Flt.cs) := by
  have hll : L.length = l.length := by rw [← hL]; simp
  have hget : ∀ (i : Nat) (x : Fla), l[i]? = some x → L[i]? = some (rcanon x.flt) := fun i x h => by rw [← hL]; simp [h]
  clear hL
  refine DoesQ.of (nt := 20) Tryz.func51 rfl rfl rfl (by simp) ?_
  simp only [argTm, PV.ext, Ce.ext]
  refine Do.seqk fun _ k1_ => ?_
  refine Do.region [0] true ?_
  simp [go_sem]
  apply k1_; clear k1_
  refine Do.seqk fun _ k2_ => ?_
  refine Do.region [0,3] true ?_
  simp [go_sem]
  apply k2_; clear k2_
  refine Do.seqk fun _ k3_ => ?_
  refine Do.seqk fun _ k4_ => ?_
  refine Do.region [0,3,4] true ?_
  simp [go_sem]
  apply k4_; clear k4_
  refine Do.block ?_
  refine Do.own 3 900 4 rfl rfl (by decide) ?_
  simp [go_sem]
  refine Do.loopF [0,3,4] (fun (i : Nat) => [(3, .v (.c (.r 900 i))), (4, .int .i64 i)]) (fun (i : Nat) => [(900, .sr 4 ((L.map Flt.cs).take i))]) (fun (i : Nat) => i ≤ l.length) (fun (i : Nat) => l.length - i) (0) (fun _ => by first | (simp [go_sem, mixS]; done) | (simp [go_sem, mixS]; rfl)) (St.le_of (by first | rfl | simp [keep]) (by first | rfl | simp [keep])) (Nat.zero_le _) ?_
  intro i hi
  refine Do.seqk fun _ k5_ => ?_
  refine Do.seqk fun _ k6_ => ?_
  refine Do.region [0,3,4,8] true ?_
  simp [go_sem]
  repeat (refine And.intro (by first | omega | (intros; omega) | (intros; exact And.intro (by assumption) (by omega)) | grind) ?_)
  apply k6_; clear k6_
  refine Do.cond [0,3,4] rfl (fun h2 => ?_) (fun h2 => ?_) <;> simp [go_sem] at h2 ⊢
  · obtain ⟨x, hx⟩ : ∃ x, l[i]? = some x := ⟨_, List.getElem?_eq_getElem h2⟩
    have hmin : min i L.length = i := by omega
    have hg := hget i x hx
    have hxo := ho x (List.mem_of_getElem? hx)
    have hC : Does Tryz.prog G 55 [Fl x.k x.n x.e x.m] (.v (rcanon x.flt).pv) := @Canonical_does G x.k x.e x.n x.m (by have := hxo.len; omega) hxo.ws hxo.md
    refine Do.skip ?_
    simp [go_sem]
    apply k5_; clear k5_
    refine Do.seqk fun _ k7_ => ?_
    refine Do.block ?_
    refine Do.region [0,3,4] true ?_
    simp [go_sem, hx, hmin]
    repeat (refine And.intro (by first | omega | (intros; omega) | (intros; exact And.intro (by assumption) (by omega)) | grind) ?_)
    refine DoL.call true 506 rfl rfl rfl rfl (by first | exact trivial | omega | (simp; done) | (simp; omega)) (hC) rfl (by first | exact .inl rfl | exact .inr rfl) rfl ?_
    simp [go_sem, hx, hmin]
    repeat (refine And.intro (by first | omega | (intros; omega) | (intros; exact And.intro (by assumption) (by omega)) | grind) ?_)
    apply k7_; clear k7_
    refine Do.region [0,3,4] true ?_
    simp [go_sem, hx, hmin]
    repeat (refine And.intro (by first | omega | (intros; omega) | (intros; exact And.intro (by assumption) (by omega)) | grind) ?_)
    refine ⟨i + 1, St.le_of rfl (by simp [keep, List.take_add_one, hg]), by omega, by simp; omega⟩
  · refine Do.exit ?_
    simp [go_sem]
    apply k3_; clear k3_
    refine Do.seqk fun _ k8_ => ?_
    refine Do.region [2] true ?_
    simp [go_sem]
    apply k8_; clear k8_
    refine Do.ret ?_
    simp [endOne, rets, ret1, go_sem]
    repeat (refine And.intro (by first | omega | (intros; omega) | (intros; exact And.intro (by assumption) (by omega)) | grind) ?_)
    have e : i = l.length := by omega
    rw [List.take_of_length_le (by simp; omega)]
theorem lows_ge {l : List Flt} {z : Int} (hz : z ≤ 0) (h : ∀ x ∈ l, x.k = 1 → z ≤ x.e) : z ≤ (lows l).1 := by
  suffices H : ∀ i, z ≤ (lows (l.take i)).1 by have := H l.length; rwa [List.take_length] at this
  intro i
  induction i with
  | zero => simpa [lows] using hz
  | succ i ih =>
    cases hx : l[i]? with
    | none =>
      have hl : l.length ≤ i := List.getElem?_eq_none_iff.1 hx
      rw [List.take_of_length_le (by omega)] at ih ⊢
      exact ih
    | some x =>
      rw [lows_take hx]
      have := h x (List.mem_of_getElem? hx)
      generalize lows (l.take i) = a at *
      unfold lowStep
      split
      · rename_i hc; exact this hc.1
      · exact ih
theorem restP_low {z z' : Int} (hz : z' ≤ z) (S : Int) : restP z' (S * 2 ^ (z - z').toNat) = restP z S := by
  have hp : 0 < 2 ^ (z - z').toNat := Nat.pow_pos (by decide)
  have e2 : (2 : Int) ^ (z - z').toNat = ((2 ^ (z - z').toNat : Nat) : Int) := by simp
  unfold restP
  by_cases hS : S = 0
  · subst hS; simp
  · have h0 : S * 2 ^ (z - z').toNat ≠ 0 := by
      intro h
      rcases Int.mul_eq_zero.1 h with h | h
      · exact hS h
      · rw [e2] at h; omega
    rw [if_neg h0, if_neg hS]
    have ha : (S * 2 ^ (z - z').toNat).natAbs = S.natAbs * 2 ^ (z - z').toNat := by rw [e2, Int.natAbs_mul, Int.natAbs_natCast]
    have hs : decide (S * 2 ^ (z - z').toNat < 0) = decide (S < 0) := by
      rw [decide_eq_decide]
      constructor
      · intro h
        apply Classical.byContradiction
        intro hn
        have := Int.mul_nonneg (show 0 ≤ S by omega) (show (0 : Int) ≤ 2 ^ (z - z').toNat by rw [e2]; omega)
        omega
      · intro h
        exact Int.mul_neg_of_neg_of_pos h (by rw [e2]; omega)
    rw [ha, hs, ← rcanon_scale (decide (S < 0)) (show 0 < S.natAbs by omega) z (z - z').toNat, show z - ((z - z').toNat : Int) = z' by omega]
theorem Tame.rest {A B : List Flt} (ha : Tame A) (hb : Tame B) (hl : A.length + B.length < 1099511627776) : Tame (A ++ B.map Flt.neg) := by
  refine ⟨by simpa using hl, fun x hx hk => ?_⟩
  rcases List.mem_append.1 hx with hx | hx
  · exact ha.2 x hx hk
  · obtain ⟨y, hy, rfl⟩ := List.mem_map.1 hx
    exact hb.2 y hy hk
theorem Rest_new {l o : List Fla} (hl : l.length + o.length < 1099511627776) (h : ∀ x ∈ l, Rt x) (h' : ∀ x ∈ o, Rt x) {A B : List Flt} (hA : (l.map fun x => rcanon x.flt) = A) (hB : (o.map fun x => rcanon x.flt) = B) {z : Int} (hz : z ≤ 0) (hz' : ∀ x ∈ A ++ B.map Flt.neg, x.k = 1 → z ≤ x.e) : Does Tryz.prog G 64 [Rows l, Rows o] (.v (restP z (svs z (A ++ B.map Flt.neg))).pw) := by
  have hC := @canonical17_own G l (by omega) h A hA
  have hla : A.length = l.length := by rw [← hA]; simp
  have hlb : B.length = o.length := by rw [← hB]; simp
  have hget : ∀ (i : Nat) (x : Fla), o[i]? = some x → (A ++ B.map Flt.neg)[l.length + i]? = some (rcanon x.flt).neg := fun i x hx => by
    rw [List.getElem?_append_right (by omega), ← hB, hla]; simp [hx]
  have hAt : A = (A ++ B.map Flt.neg).take l.length := by rw [← hla]; simp
  have hll : (A ++ B.map Flt.neg).length = l.length + o.length := by simp [hla, hlb]
  have ht : Tame (A ++ B.map Flt.neg) := Tame.rest (hA ▸ (Rt.tame (by omega) h).1) (hB ▸ (Rt.tame (by omega) h').1) (by omega)
  clear hA hB
  rw [hAt] at hC
  generalize A ++ B.map Flt.neg = L at *
  have hzl := lows_ge hz hz'
  have hle := @lows_le L L.length
  rw [List.take_length] at hle
  have hsv := svs_low hzl (l := L) fun x hx hk => (hle x hx hk).2
  rw [hsv, restP_low hzl]
  have hE := @Exactly_does G L ht
  have hin := @lows_in L 1048576 (by omega) (fun x hx hk => ⟨(ht.2 x hx hk).1, (ht.2 x hx hk).2.1⟩) L.length
  rw [List.take_length] at hin
  have hsm := ht.sum hin.1 (fun x hx hk => (hle x hx hk).2) L.length
  rw [List.take_length] at hsm
  have hI := @ISign_does G (decide (svs (lows L).1 L < 0)) (nat (svs (lows L).1 L).natAbs) (by have := len_bl hsm; omega) (nat_ws _)
  rw [val_nat, sgn_of] at hI
  have hK := @Canonical_new G 1 (lows L).1 (decide (svs (lows L).1 L < 0)) (nat (svs (lows L).1 L).natAbs) (by have := len_bl hsm; omega) (nat_ws _) (by constructor <;> omega)
  rw [val_nat] at hK
  have hr : restP (lows L).1 (svs (lows L).1 L) = if svs (lows L).1 L = 0 then ⟨0, false, 0, 0⟩ else rcanon ⟨1, decide (svs (lows L).1 L < 0), (lows L).1, (svs (lows L).1 L).natAbs⟩ := rfl
  generalize restP (lows L).1 (svs (lows L).1 L) = z at *
  clear hsv hzl hle
  generalize svs (lows L).1 L = S at *
  generalize (lows L).1 = w at *
  refine Does.of (nt := 41) Tryz.func64 rfl rfl rfl (by simp) ?_
  simp only [argTm, PV.ext, Ce.ext]
  refine Do.seqk fun _ k1_ => ?_
  refine Do.region [0,1,4] true ?_
  simp [go_sem]
  apply k1_; clear k1_
  refine Do.seqk fun _ k2_ => ?_
  refine Do.region [1,4,5] true ?_
  simp [go_sem]
  refine DoL.callQ true 102 3000 rfl rfl rfl rfl (by first | exact trivial | omega | (simp; done) | (simp; omega)) (hC) rfl rfl ?_
  simp [go_sem]
  apply k2_; clear k2_
  refine Do.seqk fun _ k3_ => ?_
  refine Do.seqk fun _ k4_ => ?_
  refine Do.region [1,4,5,6] true ?_
  simp [go_sem]
  apply k4_; clear k4_
  refine Do.block ?_
  refine Do.loopF [1,4,5,6] (fun (i : Nat) => [(5, .v (.c (.r 3000 (l.length + i)))), (6, .int .i64 i)]) (fun (i : Nat) => [(3000, .sr 4 ((L.map Flt.cs).take (l.length + i)))]) (fun (i : Nat) => i ≤ o.length) (fun (i : Nat) => o.length - i) (0) (fun _ => by first | (simp [go_sem, mixS]; done) | (simp [go_sem, mixS]; rfl)) (St.le_of (by simp [keep, hll]) (by simp [keep])) (Nat.zero_le _) ?_
  intro i hi
  refine Do.seqk fun _ k5_ => ?_
  refine Do.seqk fun _ k6_ => ?_
  refine Do.region [1,4,5,6,14] true ?_
  simp [go_sem]
  repeat (refine And.intro (by first | omega | (intros; omega) | (intros; exact And.intro (by assumption) (by omega)) | grind) ?_)
  apply k6_; clear k6_
  refine Do.cond [1,4,5,6] rfl (fun h2 => ?_) (fun h2 => ?_) <;> simp [go_sem] at h2 ⊢
  · obtain ⟨x, hx⟩ : ∃ x, o[i]? = some x := ⟨_, List.getElem?_eq_getElem h2⟩
    have hmin : min (l.length + i) L.length = l.length + i := by omega
    have hg := hget i x hx
    have hxo := h' x (List.mem_of_getElem? hx)
    have hM : Does Tryz.prog G 19 [Fl x.k x.n x.e x.m] (.v (rcanon x.flt).neg.pv) := (@RMinus_does G x.k x.e x.n x.m (by have := hxo.len; omega) hxo.ws hxo.md).mono (TLe.v (Flt.pw_le _))
    refine Do.skip ?_
    simp [go_sem]
    apply k5_; clear k5_
    refine Do.seqk fun _ k7_ => ?_
    refine Do.block ?_
    refine Do.region [1,4,5,6] true ?_
    simp [go_sem, hx, hmin]
    repeat (refine And.intro (by first | omega | (intros; omega) | (intros; exact And.intro (by assumption) (by omega)) | grind) ?_)
    refine DoL.call true 506 rfl rfl rfl rfl (by first | exact trivial | omega | (simp; done) | (simp; omega)) (hM) rfl (by first | exact .inl rfl | exact .inr rfl) rfl ?_
    simp [go_sem, hx, hmin]
    repeat (refine And.intro (by first | omega | (intros; omega) | (intros; exact And.intro (by assumption) (by omega)) | grind) ?_)
    apply k7_; clear k7_
    refine Do.region [1,4,5,6] true ?_
    simp [go_sem, hx, hmin]
    repeat (refine And.intro (by first | omega | (intros; omega) | (intros; exact And.intro (by assumption) (by omega)) | grind) ?_)
    refine ⟨i + 1, St.le_of (by simp [keep, ← Nat.add_assoc]) (by simp [keep, ← Nat.add_assoc, List.take_add_one, hg]), by omega, by simp; omega⟩
  · obtain rfl : i = o.length := by omega
    rw [List.take_of_length_le (show (L.map Flt.cs).length ≤ l.length + o.length by simp; omega)]
    refine Do.exit ?_
    simp [go_sem]
    apply k3_; clear k3_
    refine Do.seqk fun _ k8_ => ?_
    refine Do.region [4,7,8] true ?_
    simp [go_sem]
    refine DoL.sealS true 601 3000 rfl ?_
    simp [go_sem, hll]
    refine DoL.call true 602 rfl rfl rfl rfl (by first | exact trivial | omega | (simp; done) | (simp; omega)) (hE) rfl (by first | exact .inl rfl | exact .inr rfl) rfl ?_
    simp [go_sem]
    repeat (refine And.intro (by first | omega | (intros; omega) | (intros; exact And.intro (by assumption) (by omega)) | grind) ?_)
    apply k8_; clear k8_
    refine Do.seqk fun _ k9_ => ?_
    refine Do.seqk fun _ k10_ => ?_
    refine Do.region [4,7,8,32] true ?_
    simp [go_sem]
    repeat (refine And.intro (by first | omega | (intros; omega) | (intros; exact And.intro (by assumption) (by omega)) | grind) ?_)
    refine DoL.call true 702 rfl rfl rfl rfl (by first | exact trivial | omega | (simp; done) | (simp; omega)) (hI) rfl (by first | exact .inl rfl | exact .inr rfl) rfl ?_
    simp [go_sem]
    apply k10_; clear k10_
    refine Do.cond [4,7,8] rfl (fun h4 => ?_) (fun h4 => ?_) <;> simp [go_sem] at h4 ⊢
    · refine Do.seqk fun _ k11_ => ?_
      refine Do.region [4] true ?_
      simp [go_sem]
      repeat (refine And.intro (by first | omega | (intros; omega) | (intros; exact And.intro (by assumption) (by omega)) | grind) ?_)
      apply k11_; clear k11_
      refine Do.ret ?_
      simp [endQ, rets, ret1, go_sem]
      repeat (refine And.intro (by first | omega | (intros; omega) | (intros; exact And.intro (by assumption) (by omega)) | grind) ?_)
      rw [hr, if_pos (by omega)]
      exact TLe.v (PLe.flw (ret_zw rfl))
    · refine Do.skip ?_
      simp [go_sem]
      apply k9_; clear k9_
      refine Do.seqk fun _ k12_ => ?_
      refine Do.region [4] true ?_
      simp [go_sem]
      repeat (refine And.intro (by first | omega | (intros; omega) | (intros; exact And.intro (by assumption) (by omega)) | grind) ?_)
      refine DoL.call true 907 rfl rfl rfl rfl (by first | exact trivial | omega | (simp; done) | (simp; omega)) (hK) rfl (by first | exact .inl rfl | exact .inr rfl) rfl ?_
      simp [go_sem]
      repeat (refine And.intro (by first | omega | (intros; omega) | (intros; exact And.intro (by assumption) (by omega)) | grind) ?_)
      apply k12_; clear k12_
      refine Do.ret ?_
      simp [endQ, rets, ret1, go_sem]
      repeat (refine And.intro (by first | omega | (intros; omega) | (intros; exact And.intro (by assumption) (by omega)) | grind) ?_)
      rw [hr, if_neg (by omega)]
      exact TLe.refl _
end Go.Proofs.YtdaecibpkhcllaaGreatDoor
/- A box under another label; a pointer to cells, taken as one, within a region. No condition. -/
namespace Go.Proofs.YtdaecibpkhcllaaGreatDoor
set_option linter.unusedVariables false
set_option linter.unusedSimpArgs false
section
variable {P : Program} {G : Gl} {nt : Nat} {st : St} {cx : Cx} {a : Act} {W W' : World} {m : Nat → Option Nat} {QE : Exit → St → Prop} {ops l : List Oper} {Q : St → Prop}
theorem lk_all {α : Type} {p : Nat × α → Bool} {j : Nat} {x : α} : ∀ {l : List (Nat × α)}, l.all p = true → lk j l = some x → p (j, x) = true
  | [], _, h => by simp [lk] at h
  | (k, y) :: r, ha, h => by
    simp only [List.all_cons, Bool.and_eq_true] at ha
    simp only [lk] at h
    split at h
    · rename_i e; injection h with h; subst h; subst e; exact ha.1
    · exact lk_all ha.2 h
/-- A box under another label. -/
theorem RelM.rename (h : RelM G cx m st a W) {la lb t : Nat} {cs : List Ce} (ht : lk t st.tm = some (.v (.c (.p la 0)))) (ha : lk la st.ob = some (.box cs)) (hf : st.free lb = true) (h1 : ((del t st.tm).all fun x => !x.2.labs.contains la) = true) (h2 : (st.ob.all fun x => !x.2.labs.contains la) = true) (hp : la ≠ 7777777) :
    RelM G cx (upd m lb (m la)) ⟨put t (.v (.c (.p lb 0))) st.tm, put lb (.box cs) (del la st.ob)⟩ a W := by
  obtain ⟨f1, f2, f3⟩ := St.free_spec hf
  have hlb : lk lb st.ob = none := f2
  have hne : la ≠ lb := fun e => by rw [e, hlb] at ha; cases ha
  have hd : ∀ k o, lk k (put lb (.box cs) (del la st.ob)) = some o → (k = lb ∧ o = .box cs) ∨ (k ≠ lb ∧ k ≠ la ∧ lk k st.ob = some o) := fun k o hk => by
    rw [lk_put] at hk
    split at hk
    · rename_i e; injection hk with hk; exact .inl ⟨e, hk.symm⟩
    · rename_i e
      rw [lk_del] at hk
      split at hk
      · cases hk
      · rename_i e2; exact .inr ⟨e, e2, hk⟩
  have he : EnLe (fun j => j ≠ la ∧ j ≠ lb) (en cx m st.ob W) (en cx (upd m lb (m la)) (put lb (.box cs) (del la st.ob)) W) := by
    refine ⟨fun b ⟨g1, g2, g3⟩ => ⟨g1, g2, fun j o hj => ?_⟩, fun _ _ => rfl, Nat.le_refl _, fun j hj o' ho' => ?_⟩
    · rcases hd j o hj with ⟨rfl, rfl⟩ | ⟨k1, k2, k3⟩
      · rw [upd_self]; exact g3 la _ ha
      · rw [upd_ne _ _ k1]; exact g3 j o k3
    · rcases hd j o' ho' with ⟨e, _⟩ | ⟨k1, k2, k3⟩
      · exact absurd e hj.2
      · exact ⟨o', k3, rfl, rfl, Nat.le_refl _, fun _ => ⟨upd_ne _ _ k1, fun _ _ => rfl⟩⟩
  have hlab : ∀ j o, lk j st.ob = some o → ∀ k ∈ o.labs, k ≠ la ∧ k ≠ lb := fun j o hj k hk => by
    refine ⟨fun e => ?_, fun e => f3 j o hj (e ▸ hk)⟩
    have := lk_all h2 hj
    subst e
    simp at this; exact this hk
  have hro := h.ob la _ ha
  refine { h with tm := fun s x hx => ?_, ob := fun j o hj => ?_, inj := fun j j' o o' b g1 g2 g3 g4 => ?_, own := fun j o b g1 g2 => ?_, pin := fun o ho => ?_ }
  · rw [lk_put] at hx
    split at hx
    · rename_i e
      injection hx with hx; subst hx; subst e
      obtain ⟨v, hv, q1, q2⟩ := h.tm _ _ ht
      refine ⟨v, hv, q1, fun cs' hcs' => ?_⟩
      obtain ⟨b, q3, q4⟩ := q2 cs ha
      exact ⟨b, by show upd m lb (m la) lb = some b; rw [upd_self]; exact q3, q4⟩
    · rename_i e
      obtain ⟨v, hv, hr⟩ := h.tm s x hx
      refine ⟨v, hv, RT.mono he (fun j hj => ⟨fun e2 => ?_, fun e2 => f1 s x hx (e2 ▸ hj)⟩) hr⟩
      have hx2 : lk s (del t st.tm) = some x := by rw [lk_del, if_neg e]; exact hx
      have := lk_all h1 hx2
      subst e2
      simp at this; exact this hj
  · rcases hd j o hj with ⟨rfl, rfl⟩ | ⟨k1, k2, k3⟩
    · obtain ⟨b, vs, e, q1, q2, q3⟩ := hro
      refine ⟨b, vs, e, by show upd m j (m la) j = some b; rw [upd_self]; exact q1, q2, q3.mono' fun c hc v hv => RC.mono he (fun k hk => hlab la _ ha k ?_) hv⟩
      exact List.mem_flatMap.2 ⟨c, hc, hk⟩
    · exact RO.mono he (hlab j o k3) (upd_ne _ _ k1) (fun _ _ => rfl) (h.ob j o k3)
  · rcases hd j o g1 with ⟨rfl, rfl⟩ | ⟨k1, k2, k3⟩ <;> rcases hd j' o' g2 with ⟨rfl, rfl⟩ | ⟨u1, u2, u3⟩
    · rfl
    · rw [upd_self] at g3; rw [upd_ne _ _ u1] at g4
      exact absurd (h.inj la j' _ _ b ha u3 g3 g4) (Ne.symm u2)
    · rw [upd_self] at g4; rw [upd_ne _ _ k1] at g3
      exact absurd (h.inj j la _ _ b k3 ha g3 g4) k2
    · rw [upd_ne _ _ k1] at g3; rw [upd_ne _ _ u1] at g4
      exact h.inj j j' o o' b k3 u3 g3 g4
  · rcases hd j o g1 with ⟨rfl, rfl⟩ | ⟨k1, k2, k3⟩
    · rw [upd_self] at g2
      have := h.own la _ b ha g2
      exact ⟨this.1, this.2.elim .inl fun e => absurd e.2.2 hp⟩
    · rw [upd_ne _ _ k1] at g2; exact h.own j o b k3 g2
  · rcases hd _ o ho with ⟨e, _⟩ | ⟨k1, k2, k3⟩
    · exact absurd e.symm (St.free_pin hf)
    · obtain ⟨g1, b, g2, g3, g4⟩ := h.pin o k3
      exact ⟨g1, b, by rw [upd_ne _ _ k1]; exact g2, g3, g4⟩
theorem Do.rename {c : Code} (la lb t : Nat) {cs : List Ce} (ht : lk t st.tm = some (.v (.c (.p la 0)))) (ha : lk la st.ob = some (.box cs)) (hf : st.free lb = true) (h1 : ((del t st.tm).all fun x => !x.2.labs.contains la) = true) (h2 : (st.ob.all fun x => !x.2.labs.contains la) = true) (hp : la ≠ 7777777) (h : Do P G nt c ⟨put t (.v (.c (.p lb 0))) st.tm, put lb (.box cs) (del la st.ob)⟩ QE) : Do P G nt c st QE :=
  fun cx a W hn ⟨_, hr⟩ => h cx a W hn ⟨_, hr.rename ht ha hf h1 h2 hp⟩
/-- An object that nobody asks for any more. -/
theorem Do.drop {c : Code} (la : Nat) (h : Do P G nt c ⟨st.tm, del la st.ob⟩ QE) : Do P G nt c st QE :=
  fun cx a W hn ⟨m, hr⟩ => h cx a W hn ⟨m, hr.fewer (del la st.ob) fun j o hj => by
    rw [lk_del] at hj
    split at hj
    · cases hj
    · exact hj⟩
/-- A pointer to cells, taken as one. -/
theorem DoL.turn (md : Bool) (lab t : Nat) {cs : List Ce} (ht : lk t st.tm = some (.v (.c (.x (PtrSx cs))))) (h : runs P G nt md ops Q lab l ⟨put t (.e cs) st.tm, st.ob⟩) : DoL P G nt ops l st Q := by
  intro cx a W hn ⟨m, hr⟩
  refine DoL.run h cx a W hn ⟨m, { hr with tm := fun s x hx => ?_ }⟩
  rcases lk_le_put s x st.tm hx with ⟨rfl, rfl⟩ | ⟨_, hx⟩
  · obtain ⟨v, hv, ad, h1, h2, vs, h3, h4⟩ := hr.tm _ _ ht
    exact ⟨v, hv, ad, h1, h2, vs, RCs.same (E := enA W (okOf cx m st.ob W)) (E' := en cx m st.ob W) (fun _ h => h) rfl h3, h4⟩
  · exact hr.tm s x hx
/-- A call with a pointer to a box of this function's own, wherever it comes up. -/
theorem callP_core {f : FuncId} {y : Operand} {az : List Operand} {p : Prop} {args : List PV} {j : Nat} {cs cs' : List Ce} (hr : RelM G cx m st a W) (hy : opv st.tm y = some (.v (.c (.p j 0)))) (hj : lk j st.ob = some (.box cs)) (ha : argsOf st az = some (p, args, false)) (hp : p) (hD : DoesP P G f cs args cs') (hl : cs'.flatMap Ce.labs = []) (hl0 : cs.flatMap Ce.labs = []) :
    ∃ b : Nat, a.eval y = .pointer (some ⟨b, 0, none⟩) ∧ (callFunc f (.pointer (some ⟨b, 0, none⟩) :: az.map a.eval).toArray).run P W = .ok (.enter f (.pointer (some ⟨b, 0, none⟩) :: az.map a.eval).toArray) W ∧ Calls P f (.pointer (some ⟨b, 0, none⟩) :: az.map a.eval).toArray W (fun en W' => en = .returned (.tuple #[]) ∧ RelM G cx m ⟨st.tm, put j (.box cs') st.ob⟩ a W') := by
  have hargs := argsOf_run hr ha hp false id
  have hok : ∀ b, okC cx m st W false b → b < W.heap.size := by
    rintro b (h | ⟨e, _⟩)
    · exact h.2.1
    · cases e
  obtain ⟨b, hb, hyv⟩ := (hr.opv hy).2 cs hj
  have hyv : a.eval y = .pointer (some ⟨b, 0, none⟩) := hyv
  obtain ⟨vs, e, r2, r3⟩ : ∃ vs e, W.heap[b]? = some (.cells vs e (0, 0)) ∧ All2 (RC (en cx m st.ob W)) cs vs.toList := by
    obtain ⟨b', vs, e, r1, r2, r3⟩ := hr.ob j _ hj
    rw [← some_unique (show m j = some b from hb) (show m j = some b' from r1)]
    exact ⟨vs, e, r2, r3⟩
  have hnb : ¬ okC cx m st W false b := by
    rintro (h | ⟨e, _⟩)
    · exact h.2.2 j _ hj hb
    · cases e
  have hcs : All2 (RC (enA W (okC cx m st W false))) (exts cs) vs.toList := exts_RC (r3.mono' fun c hc v hv => RC.mono (okC_le cx m st W false) (fun _ _ => trivial) hv)
  have hgb : ∀ (b' off : Nat) (x : Ce), (G b')[off]? = some x → b' ≠ b := fun b' off x hx e => by
    subst e
    obtain ⟨k1, k2, _⟩ := hr.gl b' off x hx
    rcases (hr.own j _ b' hj hb).2 with k3 | k3
    · omega
    · exact k2 k3.1
  obtain ⟨h1, h2⟩ := hD W (okC cx m st W false) _ b vs e hok hr.glOk hgb hnb r2 hcs hargs
  refine ⟨b, hyv, h1, h2.mono ?_⟩
  rintro en' W' ⟨rfl, hX, hsh, vs', e', q1, q2⟩
  have hlt := lt_of_heap r2
  have he := enP hr hX hsh (cs' := cs') hj hb
  have hr2 : RelM G cx m ⟨st.tm, put j (.box cs') st.ob⟩ a W' := by
    refine hr.move he (fun _ _ _ _ _ => trivial) hX.size hX.os hX.tape hX.output (fun c hc hn => hX.block c (Nat.lt_of_lt_of_le hc hr.size) (fun e => by
        subst e; rcases (hr.own j _ c hj hb).2 with h' | h'
        · omega
        · exact hn h'.1)) (fun k o2 hk => ?_) (fun k k' o1 o2 c g1 g2 g3 g4 => ?_) (fun k o2 c g1 g2 => ?_) (fun o2 ho2 => ?_)
    · by_cases hkj : k = j
      · subst hkj; rw [lk_put_self] at hk; injection hk with hk; subst hk
        refine ⟨b, vs', e', hb, q1, q2.mono' fun c hc v hv => RC.mono (L := fun _ => False) (E := enR W W' (okC cx m st W false)) (E' := en cx m (put k (.box cs') st.ob) W') ⟨fun c ⟨g1, g2⟩ => ?_, fun _ _ => rfl, hr.size, fun _ hF => hF.elim⟩ (fun i hi => ?_) hv⟩
        · have hnew : ∀ i o', lk i (put k (.box cs') st.ob) = some o' → ∃ o3, lk i st.ob = some o3 := fun i o' hi => by
            by_cases hik : i = k
            · subst hik; exact ⟨_, hj⟩
            · rw [lk_put_ne _ _ hik] at hi; exact ⟨_, hi⟩
          rcases g1 with (g1 | ⟨e, _⟩) | g1
          · exact ⟨g1.1, g2, fun i o' hi => let ⟨o3, h3⟩ := hnew i o' hi; g1.2.2 i o3 h3⟩
          · cases e
          · exact ⟨.inr (Nat.le_trans hr.size g1), g2, fun i o' hi e => by obtain ⟨o3, h3⟩ := hnew i o' hi; have := (hr.own i o3 c h3 e).1; omega⟩
        · have : i ∈ cs'.flatMap Ce.labs := List.mem_flatMap.2 ⟨c, hc, hi⟩
          rw [hl] at this; cases this
      · rw [lk_put_ne _ _ hkj] at hk
        exact RO.mono he (fun _ _ => trivial) rfl (fun c hc => hX.block c (hr.own k o2 c hk hc).1 (fun e => hkj (by subst e; exact hr.inj k j o2 _ c hk hj hc hb))) (hr.ob k o2 hk)
    · have f : ∀ {k o2}, lk k (put j (.box cs') st.ob) = some o2 → ∃ o3, lk k st.ob = some o3 := fun {k o2} hk => by
        by_cases hkj : k = j
        · subst hkj; exact ⟨_, hj⟩
        · rw [lk_put_ne _ _ hkj] at hk; exact ⟨_, hk⟩
      obtain ⟨o3, q1⟩ := f g1
      obtain ⟨o4, q2⟩ := f g2
      exact hr.inj k k' o3 o4 c q1 q2 g3 g4
    · by_cases hkj : k = j
      · subst hkj
        rw [lk_put_self] at g1; injection g1 with g1; subst g1
        exact ⟨Nat.lt_of_lt_of_le (hr.own k _ c hj g2).1 hX.size, (hr.own k _ c hj g2).2⟩
      · rw [lk_put_ne _ _ hkj] at g1; exact ⟨Nat.lt_of_lt_of_le (hr.own k o2 c g1 g2).1 hX.size, (hr.own k o2 c g1 g2).2⟩
    · have key : ∀ o3, lk 7777777 st.ob = some o3 → ∃ b, m 7777777 = some b ∧ cx.bo b ∧ W'.shape? b = cx.W0.shape? b := fun o3 h3 => by
        obtain ⟨_, c, g2, g3, g4⟩ := hr.pin o3 h3
        refine ⟨c, g2, g3, ?_⟩
        by_cases hc : c = b
        · subst hc; exact hsh.trans g4
        · exact (shape_of_heap (hX.block c (hr.own _ o3 c h3 g2).1 hc)).trans g4
      by_cases hkj : 7777777 = j
      · subst hkj; rw [lk_put_self] at ho2; injection ho2 with ho2; subst ho2
        exact ⟨rfl, key _ hj⟩
      · rw [lk_put_ne _ _ hkj] at ho2; exact ⟨(hr.pin o2 ho2).1, key _ ho2⟩
  exact ⟨rfl, hr2⟩
theorem opOk_callP {B : List Nat} {o : Oper} {f : FuncId} {x y : Operand} {az : List Operand} {ts : Array TypeId} {p : Prop} {args : List PV} {j : Nat} {cs cs' : List Ce} (lab : Nat) (hg : o.guard = none) (hop : o.op = .call { callee := .value x, args := (y :: az).toArray, argTypes := ts })
    (hx : opv st.tm x = some (.v (.c (.f f)))) (hy : opv st.tm y = some (.v (.c (.p j 0)))) (hj : lk j st.ob = some (.box cs)) (ha : argsOf st az = some (p, args, false)) (hp : p) (hD : DoesP P G f cs args cs') (hl : cs'.flatMap Ce.labs = []) (hl0 : cs.flatMap Ce.labs = []) (hd : o.dst = none) :
    OpOk P G nt ops B o st ⟨o.dst, none, .upd j (.box cs'), lab, j :: labsOf st.tm az⟩ := by
  refine ⟨rfl, fun cx a W m S hn _ hrd hus hfree hr Q' K hK => ?_⟩
  have hmem : ∀ t, (.tmp t = x ∨ .tmp t ∈ y :: az) → t ∈ rdOf ops o := fun t ht => by
    unfold rdOf
    simp only [List.mem_append]
    refine .inl (.inl (tmpsOf_mem ?_))
    rw [hop]
    rcases ht with e | e
    · simp [Op.operands, Call.operands, e]
    · simp only [Op.operands, Call.operands, Array.toList_append, List.mem_append]; exact .inr (by simpa using e)
  have hx' : opv S.tm x = some (.v (.c (.f f))) := by rw [← hx]; exact opv_congr fun t e => hrd t (hmem t (.inl e.symm))
  have hy' : opv S.tm y = some (.v (.c (.p j 0))) := by rw [← hy]; exact opv_congr fun t e => hrd t (hmem t (.inr (e ▸ List.mem_cons_self)))
  have hj' : lk j S.ob = some (.box cs) := by rw [← hj]; exact hus j (by simp)
  have ha' : argsOf S az = some (p, args, false) := by rw [← ha]; exact argsOf_congr (fun z hz => opv_congr fun t e => hrd t (hmem t (.inr (e ▸ List.mem_cons_of_mem _ hz)))) (fun k hk => hus k (by simp only [List.mem_cons]; exact .inr hk))
  rw [wanted_none hg, if_pos rfl]
  unfold Oper.wp
  have hxv : a.eval x = .func (.func f) #[] #[] := hr.opv hx'
  obtain ⟨b, hyv, h1, h2⟩ := callP_core hr hy' hj' ha' hp hD hl hl0
  have hexec : execOp a.eval o = callFunc f (.pointer (some ⟨b, 0, none⟩) :: az.map a.eval).toArray := by
    unfold execOp
    simp [hop, resolve, hxv, Deferred.ofValue, invoke, hyv]
  rw [hexec, h1]
  refine h2.mono ?_
  rintro en' W' ⟨rfl, hr2⟩
  refine hK _ _ ?_
  rw [hd]
  exact ⟨m, hr2⟩
theorem DoLD.callP {st0 : St} {acc : List Sm} {Q : List Sm → St → Prop} {o : Oper} {f : FuncId} {x y : Operand} {az : List Operand} {ts : Array TypeId} {p : Prop} {args : List PV} {j : Nat} {cs cs' : List Ce} (md : Bool) (lab : Nat) (hg : o.guard = none) (hop : o.op = .call { callee := .value x, args := (y :: az).toArray, argTypes := ts })
    (hx : opv st.tm x = some (.v (.c (.f f)))) (hy : opv st.tm y = some (.v (.c (.p j 0)))) (hj : lk j st.ob = some (.box cs)) (ha : argsOf st az = some (p, args, false)) (hp : p) (hD : DoesP P G f cs args cs') (hl : cs'.flatMap Ce.labs = []) (hl0 : cs.flatMap Ce.labs = []) (hd : o.dst = none)
    (next : runsD P G nt md ops st0 Q lab l (acc ++ [(Tr.mk o.dst none (.upd j (.box cs')) 0 (j :: labsOf st.tm az)).sm]) ⟨st.tm, put j (.box cs') st.ob⟩) : DoLD P G nt ops st0 Q (o :: l) acc st := by
  refine DoLD.cons (opOk_callP 0 hg hop hx hy hj ha hp hD hl hl0 hd) (fun l hl => by simp [Tr.nw, Eff.isNew] at hl) rfl ?_
  have e : (Tr.mk o.dst none (.upd j (.box cs')) 0 (j :: labsOf st.tm az)).app st = ⟨st.tm, put j (.box cs') st.ob⟩ := by rw [hd]; rfl
  rw [e]
  exact DoLD.run next
theorem DoL.callP2 {o : Oper} {f : FuncId} {x y : Operand} {az : List Operand} {ts : Array TypeId} {p : Prop} {args : List PV} {j : Nat} {cs cs' : List Ce} (md : Bool) (lab : Nat) (hg : o.guard = none) (hop : o.op = .call { callee := .value x, args := (y :: az).toArray, argTypes := ts })
    (hx : opv st.tm x = some (.v (.c (.f f)))) (hy : opv st.tm y = some (.v (.c (.p j 0)))) (hj : lk j st.ob = some (.box cs)) (ha : argsOf st az = some (p, args, false)) (hp : p) (hD : DoesP P G f cs args cs') (hl : cs'.flatMap Ce.labs = []) (hl0 : cs.flatMap Ce.labs = []) (hd : dstOk nt o.dst = true)
    (next : runs P G nt md ops Q lab l ⟨setv o.dst (some (.t [])) st.tm, put j (.box cs') st.ob⟩) : DoL P G nt ops (o :: l) st Q := by
  intro cx a W hn ⟨m, hr⟩ Q' hQ
  refine wpList_plain hg fun K hK => ?_
  unfold Oper.wp
  have hxv : a.eval x = .func (.func f) #[] #[] := hr.opv hx
  obtain ⟨b, hyv, h1, h2⟩ := callP_core hr hy hj ha hp hD hl hl0
  have hexec : execOp a.eval o = callFunc f (.pointer (some ⟨b, 0, none⟩) :: az.map a.eval).toArray := by
    unfold execOp
    simp [hop, resolve, hxv, Deferred.ofValue, invoke, hyv]
  rw [hexec, h1]
  refine h2.mono ?_
  rintro en' W' ⟨rfl, hr2⟩
  have hput := Rel.put (st := ⟨st.tm, put j (.box cs') st.ob⟩) hr2 hn hd (x := .t []) (v := .tuple #[]) ⟨_, rfl, .nil⟩
  exact hK _ _ (DoL.run next cx _ _ hn hput Q' hQ)
theorem opOk_callP2 {B : List Nat} {o : Oper} {f : FuncId} {x y : Operand} {az : List Operand} {ts : Array TypeId} {p : Prop} {args : List PV} {j : Nat} {cs cs' : List Ce} (lab : Nat) (hg : o.guard = none) (hop : o.op = .call { callee := .value x, args := (y :: az).toArray, argTypes := ts })
    (hx : opv st.tm x = some (.v (.c (.f f)))) (hy : opv st.tm y = some (.v (.c (.p j 0)))) (hj : lk j st.ob = some (.box cs)) (ha : argsOf st az = some (p, args, false)) (hp : p) (hD : DoesP P G f cs args cs') (hl : cs'.flatMap Ce.labs = []) (hl0 : cs.flatMap Ce.labs = []) (hd : dstOk nt o.dst = true) :
    OpOk P G nt ops B o st ⟨o.dst, some (.t []), .upd j (.box cs'), lab, j :: labsOf st.tm az⟩ := by
  refine ⟨rfl, fun cx a W m S hn _ hrd hus hfree hr Q' K hK => ?_⟩
  have hmem : ∀ t, (.tmp t = x ∨ .tmp t ∈ y :: az) → t ∈ rdOf ops o := fun t ht => by
    unfold rdOf
    simp only [List.mem_append]
    refine .inl (.inl (tmpsOf_mem ?_))
    rw [hop]
    rcases ht with e | e
    · simp [Op.operands, Call.operands, e]
    · simp only [Op.operands, Call.operands, Array.toList_append, List.mem_append]; exact .inr (by simpa using e)
  have hx' : opv S.tm x = some (.v (.c (.f f))) := by rw [← hx]; exact opv_congr fun t e => hrd t (hmem t (.inl e.symm))
  have hy' : opv S.tm y = some (.v (.c (.p j 0))) := by rw [← hy]; exact opv_congr fun t e => hrd t (hmem t (.inr (e ▸ List.mem_cons_self)))
  have hj' : lk j S.ob = some (.box cs) := by rw [← hj]; exact hus j (by simp)
  have ha' : argsOf S az = some (p, args, false) := by rw [← ha]; exact argsOf_congr (fun z hz => opv_congr fun t e => hrd t (hmem t (.inr (e ▸ List.mem_cons_of_mem _ hz)))) (fun k hk => hus k (by simp only [List.mem_cons]; exact .inr hk))
  rw [wanted_none hg, if_pos rfl]
  unfold Oper.wp
  have hxv : a.eval x = .func (.func f) #[] #[] := hr.opv hx'
  obtain ⟨b, hyv, h1, h2⟩ := callP_core hr hy' hj' ha' hp hD hl hl0
  have hexec : execOp a.eval o = callFunc f (.pointer (some ⟨b, 0, none⟩) :: az.map a.eval).toArray := by
    unfold execOp
    simp [hop, resolve, hxv, Deferred.ofValue, invoke, hyv]
  rw [hexec, h1]
  refine h2.mono ?_
  rintro en' W' ⟨rfl, hr2⟩
  refine hK _ _ ?_
  exact Rel.put (st := ⟨S.tm, put j (.box cs') S.ob⟩) hr2 hn hd (x := .t []) (v := .tuple #[]) ⟨_, rfl, .nil⟩
theorem DoLD.callP2 {st0 : St} {acc : List Sm} {Q : List Sm → St → Prop} {o : Oper} {f : FuncId} {x y : Operand} {az : List Operand} {ts : Array TypeId} {p : Prop} {args : List PV} {j : Nat} {cs cs' : List Ce} (md : Bool) (lab : Nat) (hg : o.guard = none) (hop : o.op = .call { callee := .value x, args := (y :: az).toArray, argTypes := ts })
    (hx : opv st.tm x = some (.v (.c (.f f)))) (hy : opv st.tm y = some (.v (.c (.p j 0)))) (hj : lk j st.ob = some (.box cs)) (ha : argsOf st az = some (p, args, false)) (hp : p) (hD : DoesP P G f cs args cs') (hl : cs'.flatMap Ce.labs = []) (hl0 : cs.flatMap Ce.labs = []) (hd : dstOk nt o.dst = true)
    (next : runsD P G nt md ops st0 Q lab l (acc ++ [(Tr.mk o.dst (some (.t [])) (.upd j (.box cs')) 0 (j :: labsOf st.tm az)).sm]) ⟨setv o.dst (some (.t [])) st.tm, put j (.box cs') st.ob⟩) : DoLD P G nt ops st0 Q (o :: l) acc st := by
  refine DoLD.cons (opOk_callP2 0 hg hop hx hy hj ha hp hD hl hl0 hd) (fun l hl => by simp [Tr.nw, Eff.isNew] at hl) rfl ?_
  exact DoLD.run next
theorem ple_run {E : En} {cs cs' : List Ce} (hle : All2 (fun c d => PLe (.c c) (.c d)) cs cs') : ∀ {us : List Value}, All2 (RC E) cs us → All2 (RC E) cs' us := by
  induction hle with
  | nil => intro us h; exact h
  | cons h _ ih =>
    intro us h2
    obtain ⟨v, vs', rfl, g1, g2⟩ := h2.cons_iff
    exact .cons (h _ _ g1) (ih g2)
/-- A box whose cells are taken as less. -/
theorem RelM.weakB (hr : RelM G cx m st a W) {j : Nat} {cs cs' : List Ce} (hj : lk j st.ob = some (.box cs)) (hle : All2 (fun c d => PLe (.c c) (.c d)) cs cs') : RelM G cx m ⟨st.tm, put j (.box cs') st.ob⟩ a W := by
  obtain ⟨b, vs, e, hb, r2, r3⟩ := hr.ob j _ hj
  have hb : m j = some b := hb
  have hX : BelowX b W W := ⟨rfl, rfl, rfl, Nat.le_refl _, fun _ _ _ => rfl⟩
  have he := enP hr hX rfl (cs' := cs') hj hb
  have hd : ∀ k o, lk k (put j (.box cs') st.ob) = some o → (k = j ∧ o = .box cs') ∨ (k ≠ j ∧ lk k st.ob = some o) := fun k o hk => by
    rw [lk_put] at hk
    split at hk
    · rename_i e; injection hk with hk; exact .inl ⟨e, hk.symm⟩
    · rename_i e; exact .inr ⟨e, hk⟩
  refine hr.move he (fun _ _ _ _ _ => trivial) (Nat.le_refl _) rfl rfl rfl (fun _ _ _ => rfl) (fun k o hk => ?_) (fun k k' o o' c g1 g2 g3 g4 => ?_) (fun k o c g1 g2 => ?_) (fun o ho => ?_)
  · rcases hd k o hk with ⟨rfl, rfl⟩ | ⟨_, hk⟩
    · refine ⟨b, vs, e, hb, r2, ?_⟩
      have h2 : All2 (RC (en cx m (put k (.box cs') st.ob) W)) cs vs.toList := r3.mono' fun c hc v hv => RC.mono he (fun _ _ => trivial) hv
      exact ple_run hle h2
    · exact RO.mono he (fun _ _ => trivial) rfl (fun _ _ => rfl) (hr.ob k o hk)
  · have f : ∀ {k o}, lk k (put j (.box cs') st.ob) = some o → ∃ o3, lk k st.ob = some o3 := fun {k o} hk => by
      rcases hd k o hk with ⟨rfl, _⟩ | ⟨_, hk⟩
      · exact ⟨_, hj⟩
      · exact ⟨_, hk⟩
    obtain ⟨o3, q1⟩ := f g1
    obtain ⟨o4, q2⟩ := f g2
    exact hr.inj k k' o3 o4 c q1 q2 g3 g4
  · rcases hd k o g1 with ⟨rfl, rfl⟩ | ⟨_, hk⟩
    · have q := hr.own k _ c hj g2
      exact ⟨q.1, q.2.elim .inl fun e => .inr ⟨e.1, rfl, e.2.2⟩⟩
    · exact hr.own k o c hk g2
  · rcases hd _ o ho with ⟨rfl, rfl⟩ | ⟨_, hk⟩
    · exact ⟨rfl, (hr.pin _ hj).2⟩
    · exact hr.pin o hk
theorem Do.weakB {c : Code} (j : Nat) {cs : List Ce} (cs' : List Ce) (hj : lk j st.ob = some (.box cs)) (hle : All2 (fun c d => PLe (.c c) (.c d)) cs cs') (h : Do P G nt c ⟨st.tm, put j (.box cs') st.ob⟩ QE) : Do P G nt c st QE :=
  fun cx a W hn ⟨m, hr⟩ => h cx a W hn ⟨m, hr.weakB hj hle⟩
/-- A box given away: its pointer is read alone from here on. -/
theorem RelM.lend (h : RelM G cx m st a W) {t j : Nat} {cs : List Ce} (ht : lk t st.tm = some (.v (.c (.p j 0)))) (hj : lk j st.ob = some (.box cs)) (hpure : cs.all Ce.pure = true) (hp : j ≠ 7777777) : RelM G cx m ⟨put t (.v (.c (.x (PtrSx cs)))) st.tm, del j st.ob⟩ a W := by
  have hs : ∀ k o, lk k (del j st.ob) = some o → k ≠ j ∧ lk k st.ob = some o := fun k o hk => by
    rw [lk_del] at hk
    split at hk
    · cases hk
    · rename_i e; exact ⟨e, hk⟩
  have h1 := h.fewer (del j st.ob) fun k o hk => (hs k o hk).2
  refine { h1 with tm := fun s x hx => ?_ }
  rcases lk_le_put s x st.tm hx with ⟨rfl, rfl⟩ | ⟨_, hx⟩
  · obtain ⟨v, hv, q1, q2⟩ := h.tm _ _ ht
    obtain ⟨b, q3, q4⟩ := q2 cs hj
    obtain ⟨b', vs, e, r1, r2, r3⟩ := h.ob j _ hj
    obtain rfl := some_unique (show m j = some b' from r1) (show m j = some b from q3)
    have hown := h.own j _ b hj q3
    have hB : cx.B ≤ b := hown.2.elim id fun e => absurd e.2.2 hp
    refine ⟨v, hv, ⟨b, 0, none⟩, q4, ⟨.inr hB, hown.1, fun k o hk e => ?_⟩, vs.toList, ⟨fun c hc => List.all_eq_true.1 hpure c hc, r3.mono' fun c hc v hv => RC.mono (L := fun _ => False) (E := en cx m st.ob W) (E' := enA W (okOf cx m (del j st.ob) W)) ⟨fun b ⟨g1, g2, g3⟩ => ⟨g1, g2, fun k o hk => g3 k o (hs k o hk).2⟩, fun _ _ => rfl, Nat.zero_le _, fun _ hF => hF.elim⟩ (by rw [Ce.labs_of_pure (List.all_eq_true.1 hpure c hc)]; intro k hk; cases hk) hv⟩, fun q u hq => ?_⟩
    · obtain ⟨hne, hk⟩ := hs k o hk
      exact hne (h.inj k j o _ b hk hj e q3)
    · rw [addr_add0]
      simp only [World.cell?]
      rw [show (en cx m (del j st.ob) W).W.heap[b]? = _ from r2]
      simpa using hq
  · exact h1.tm s x hx
theorem DoL.lend (md : Bool) (lab t j : Nat) {cs : List Ce} (ht : lk t st.tm = some (.v (.c (.p j 0)))) (hj : lk j st.ob = some (.box cs)) (hpure : cs.all Ce.pure = true) (hp : j ≠ 7777777) (h : runs P G nt md ops Q lab l ⟨put t (.v (.c (.x (PtrSx cs)))) st.tm, del j st.ob⟩) : DoL P G nt ops l st Q :=
  fun cx a W hn ⟨m, hr⟩ => DoL.run h cx a W hn ⟨m, hr.lend ht hj hpure hp⟩
end
end Go.Proofs.YtdaecibpkhcllaaGreatDoor
/- Pairs of floats: the rounded sum, and what it drops. No condition. -/
namespace Go.Proofs.YtdaecibpkhcllaaGreatDoor
set_option linter.unusedVariables false
set_option linter.unusedSimpArgs false
set_option maxHeartbeats 4000000
set_option maxRecDepth 10000
theorem tiny_le {f p : Int} (hf : fmOk f p = true) : tiny f p ≤ 0 ∧ -100000 ≤ tiny f p := by
  obtain ⟨b1, b2, b3, b4⟩ := fmOk_spec hf
  obtain ⟨b5, b6⟩ := gOfE_le b1 b2
  show 1 - gOfE f - (p - 1) ≤ 0 ∧ -100000 ≤ 1 - gOfE f - (p - 1)
  omega
theorem sv_abs (z D : Int) : Nu.sv z ⟨decide (D < 0), D.natAbs, z⟩ = D := by
  unfold Nu.sv
  simp only [Int.sub_self, Int.toNat_zero, Nat.pow_zero, Nat.mul_one]
  split <;> rename_i h <;> simp at h <;> omega
/-- What a step of rounding leaves. -/
theorem round_step {f p : Int} (hf : fmOk f p = true) {R : Int} (hR : R ≠ 0) (hk : (roundP f p 0 (decide (R < 0)) R.natAbs (tiny f p) false).1.k ≠ 2) : ∃ q j : Nat, Near f p (tiny f p) R.natAbs q j ∧ (roundP f p 0 (decide (R < 0)) R.natAbs (tiny f p) false).1 = mkP (decide (R < 0)) q (tiny f p + j) ∧ fv (tiny f p) (roundP f p 0 (decide (R < 0)) R.natAbs (tiny f p) false).1 = sgn (decide (R < 0)) (q * 2 ^ j) := by
  obtain ⟨q, j, h1, h2, h3, h4, h5⟩ := roundP_near hf (Int.le_refl _) (show 0 < R.natAbs by omega) hk
  exact ⟨q, j, ⟨h1, h2, h3, h4⟩, h5, by rw [h5]; exact mkP_fv⟩
theorem float_number {f p : Int} (hf : fmOk f p = true) {L : List Flt} (hL : ∀ x ∈ L, x.k = 1 → tiny f p ≤ x.e) (hk : ((gatherP L).float f p 0).1.k = 0 ∨ ((gatherP L).float f p 0).1.k = 1) : (∀ x ∈ L, x.k ≠ 2 ∧ x.k ≠ 3) ∧ (svs (tiny f p) L = 0 → ∃ n, ((gatherP L).float f p 0).1 = ⟨0, n, 0, 0⟩) ∧ (svs (tiny f p) L ≠ 0 → ((gatherP L).float f p 0).1 = (roundP f p 0 (decide (svs (tiny f p) L < 0)) (svs (tiny f p) L).natAbs (tiny f p) false).1) := by
  have hG := gather_is (tiny_le hf).1 hL
  have hr := fun q => Nu.round_sv hG.low (b := ⟨decide (svs (tiny f p) L < 0), (svs (tiny f p) L).natAbs, tiny f p⟩) (Int.le_refl _) (by rw [hG.sum, sv_abs]) f p 0 q
  unfold Ga.float at hk ⊢
  have hn := hG.nan
  have hp := hG.plus
  have hm := hG.minus
  cases h3 : (gatherP L).nan with
  | true => rw [h3] at hk; simp at hk
  | false =>
    cases h2 : (gatherP L).plus with
    | true =>
      exfalso
      rw [h3, h2, hG.inv] at hk
      cases h1 : (gatherP L).minus with
      | true => rw [h1] at hk; simp at hk
      | false => rw [h1] at hk; simp at hk
    | false =>
      cases h1 : (gatherP L).minus with
      | true => rw [h3, h2, h1, hG.inv] at hk; simp at hk
      | false =>
        rw [h3] at hn
        rw [h2] at hp
        rw [h1] at hm
        refine ⟨fun x hx => ⟨fun e => ?_, fun e => ?_⟩, fun hS => ?_, fun hS => ?_⟩
        · have q1 := List.any_eq_false.1 hp.symm x hx
          have q2 := List.any_eq_false.1 hm.symm x hx
          simp [e] at q1 q2
          rw [q1] at q2; cases q2
        · have q1 := List.any_eq_false.1 hn.symm x hx
          simp [e] at q1
        · simp only [hG.inv, Bool.or_self, Bool.false_and, Bool.false_eq_true, if_false, hr]
          exact ⟨_, by rw [Nu.round, if_pos (by simp only []; omega)]⟩
        · simp only [hG.inv, Bool.or_self, Bool.false_and, Bool.false_eq_true, if_false, hr]
          rw [Nu.round, if_neg (by simp only []; omega)]
/-- A canonical float that is a number. -/
def Numb (x : Flt) : Prop := x.k = 1 ∨ (x.k = 0 ∧ x.e = 0 ∧ x.v = 0)
theorem Numb.sv {x : Flt} (h : Numb x) (z : Int) : Nu.sv z ⟨x.n, x.v, x.e⟩ = fv z x := by
  unfold fv
  rcases h with h | ⟨h1, h2, h3⟩
  · rw [if_pos h]
  · rw [if_neg (by omega), h3]; simp [Nu.sv]
theorem Numb.neg_sv {x : Flt} (h : Numb x) (z : Int) : Nu.sv z ⟨!x.n, x.v, x.e⟩ = -fv z x := by
  rw [← h.sv]; unfold Nu.sv; cases x.n <;> simp
theorem rcanon_numb {x : Flt} (h : rcanon x = x) (hk : x.k = 0 ∨ x.k = 1) : Numb x := by
  rcases hk with hk | hk
  · right
    unfold rcanon at h
    rw [if_neg (by omega)] at h
    exact ⟨hk, by rw [← h], by rw [← h]⟩
  · exact .inl hk
/-- What is left of two floats. -/
def leftP (f p : Int) (a b s : Flt) : Int := fv (tiny f p) a + fv (tiny f p) b - fv (tiny f p) s
theorem left_svs (f p : Int) (a b s : Flt) : svs (tiny f p) ([a, b] ++ [s].map Flt.neg) = leftP f p a b s := by
  rw [svs_fv]
  simp only [List.cons_append, List.nil_append, List.map_cons, List.map_nil, List.sum_cons, List.sum_nil, fv_neg, leftP]
  omega
theorem pair_left {f p : Int} (hf : fmOk f p = true) {a b : Flt} (ha : ∃ w k, OfF f p (tiny f p) (fv (tiny f p) a) w k) (hb : ∃ w k, OfF f p (tiny f p) (fv (tiny f p) b) w k) (hL : ∀ x ∈ [a, b], x.k = 1 → tiny f p ≤ x.e) (hk : ((gatherP [a, b]).float f p 0).1.k = 0 ∨ ((gatherP [a, b]).float f p 0).1.k = 1) : ∃ d k, OfF f p (tiny f p) (leftP f p a b ((gatherP [a, b]).float f p 0).1) d k := by
  obtain ⟨b1, b2, b3, b4⟩ := fmOk_spec hf
  obtain ⟨b5, b6⟩ := gOfE_le b1 b2
  obtain ⟨h1, h2, h3⟩ := float_number hf hL hk
  have hS : svs (tiny f p) [a, b] = fv (tiny f p) a + fv (tiny f p) b := by rw [svs_fv]; simp
  rw [hS] at h2 h3
  obtain ⟨wa, ka, oa⟩ := ha
  obtain ⟨wb, kb, ob⟩ := hb
  have htn : tiny f p = 1 - gOfE f - (p - 1) := rfl
  unfold leftP
  by_cases h0 : fv (tiny f p) a + fv (tiny f p) b = 0
  · obtain ⟨n, e⟩ := h2 h0
    rw [e, h0]
    exact ⟨0, tiny f p, Int.le_refl _, by rw [bl_zero]; omega, by rw [bl_zero]; omega, by simp [fv]⟩
  · have e := h3 h0
    rw [e] at hk ⊢
    obtain ⟨q, j, hn, hm, hv⟩ := round_step hf h0 (by omega)
    rw [hv]
    exact err_two b3 (Int.le_refl _) oa ob (by rw [sgn_of]) hn
theorem restP_round {f p z : Int} (hf : fmOk f p = true) (hz : z ≤ tiny f p) {D : Int} (h : ∃ d k, OfF f p z D d k) {y : Nu} (hy : z ≤ y.e) (hs : y.sv z = D) : y.round f p 0 false = (restP z D, 0) := by
  obtain ⟨d, k, h⟩ := h
  rw [← round_exact hf hz h]
  exact Nu.round_sv hy (Int.le_refl _) (by rw [sv_abs, hs]) f p 0 false
theorem restP_fine {f p z : Int} (hf : fmOk f p = true) (hz : z ≤ tiny f p) {D : Int} (h : ∃ d k, OfF f p z D d k) : Fine (restP z D) := by
  obtain ⟨d, k, h⟩ := h
  have e := round_exact (r := 0) hf hz h
  unfold Nu.round at e
  split at e
  · rw [← (Prod.mk.inj e).1]; exact fine_zero
  · have := @roundP_fine f p 0 hf (decide (D < 0)) D.natAbs z false
    rw [e] at this
    exact this
theorem restP_fix (z D : Int) : rcanon (restP z D) = restP z D := by
  unfold restP
  split
  · rfl
  · exact rcanon_idem _
theorem exact_does {f p : Int} (hf : fmOk f p = true) {y : Nu} (hy : y.Ok) : Does Tryz.prog Gv 60 [Fm f p, y.pv] (.t [(y.round f p 0 false).1.pv, .c (.b ((y.round f p 0 false).2 == 0))]) := by
  have h := @NFloat_does f p 0 hf (by decide) (by decide) y false hy
  obtain ⟨n, v, e⟩ := y
  generalize Nu.round ⟨n, v, e⟩ f p 0 false = r at *
  refine Does.of (nt := 17) Tryz.func60 rfl rfl rfl (by simp) ?_
  simp only [argTm, PV.ext, Ce.ext]
  refine Do.seqk fun _ k1_ => ?_
  refine Do.region [2,3,4] true ?_
  simp [go_sem]
  apply k1_; clear k1_
  refine Do.seqk fun _ k2_ => ?_
  refine Do.region [4,6,7] true ?_
  simp [go_sem]
  repeat (refine And.intro (by first | omega | (intros; omega) | (intros; exact And.intro (by assumption) (by omega)) | grind) ?_)
  refine DoL.call true 103 rfl rfl rfl rfl (by first | exact trivial | omega | (simp; done) | (simp; omega)) (h) rfl (by first | exact .inl rfl | exact .inr rfl) rfl ?_
  simp [go_sem]
  repeat (refine And.intro (by first | omega | (intros; omega) | (intros; exact And.intro (by assumption) (by omega)) | grind) ?_)
  apply k2_; clear k2_
  refine Do.seqk fun _ k3_ => ?_
  refine Do.region [4,5] true ?_
  simp [go_sem]
  repeat (refine And.intro (by first | omega | (intros; omega) | (intros; exact And.intro (by assumption) (by omega)) | grind) ?_)
  apply k3_; clear k3_
  refine Do.ret ?_
  simp [endQ, rets, ret1, go_sem]
  repeat (refine And.intro (by first | omega | (intros; omega) | (intros; exact And.intro (by assumption) (by omega)) | grind) ?_)
  exact TLe.refl _
theorem number_does {G : Gl} {k e : Int} {n : Bool} {m : List Nat} : Does Tryz.prog G 56 [Fl k n e m] (.v (.c (.b (decide (k = 1) || decide (k = 0))))) := by
  refine Does.of (nt := 11) Tryz.func56 rfl rfl rfl (by simp) ?_
  simp only [argTm, PV.ext, Ce.ext]
  refine Do.seqk fun _ k1_ => ?_
  refine Do.region [1] true ?_
  simp [go_sem]
  apply k1_; clear k1_
  refine Do.seqk fun _ k2_ => ?_
  refine Do.region [2] true ?_
  simp [go_sem]
  repeat (refine And.intro (by first | omega | (intros; omega) | (intros; exact And.intro (by assumption) (by omega)) | grind) ?_)
  apply k2_; clear k2_
  refine Do.ret ?_
  simp [endQ, rets, ret1, go_sem]
  repeat (refine And.intro (by first | omega | (intros; omega) | (intros; exact And.intro (by assumption) (by omega)) | grind) ?_)
  exact ret_b (by grind)
theorem Fine.ok {x : Flt} (h : Fine x) (hn : Numb x) (n : Bool) : (⟨n, x.v, x.e⟩ : Nu).Ok := by
  have h1 := h.v
  rcases hn with hk | ⟨hk, h2, h3⟩
  · have := canon_one h.can hk
    exact ⟨by simp only []; omega, by simp only []; omega⟩
  · exact ⟨by simp only []; omega, by simp only []; omega⟩
end Go.Proofs.YtdaecibpkhcllaaGreatDoor
/- The law SumPairs. No condition. -/
namespace Go.Proofs.YtdaecibpkhcllaaGreatDoor
set_option linter.unusedVariables false
set_option linter.unusedSimpArgs false
set_option maxHeartbeats 4000000
set_option maxRecDepth 10000
theorem held_low {f p : Int} {x : Flt} (h : (holdsP f p x).2 = true) (hk : (holdsP f p x).1.k = 1) : tiny f p ≤ (holdsP f p x).1.e := by
  unfold holdsP at *
  split at h
  · rename_i hc
    rw [if_pos hc] at hk
    rcases hc with hc | hc
    · rw [h] at hc; cases hc
    · exact absurd hk hc
  · rename_i hc
    rw [if_neg hc]
    simp only [Bool.and_eq_true, decide_eq_true_eq] at h
    exact h.1.2
theorem float_low {f p : Int} (hf : fmOk f p = true) {L : List Flt} (hL : ∀ x ∈ L, x.k = 1 → tiny f p ≤ x.e) (hk : ((gatherP L).float f p 0).1.k = 1) : tiny f p ≤ ((gatherP L).float f p 0).1.e := by
  obtain ⟨_, h2, h3⟩ := float_number hf hL (.inr hk)
  by_cases h0 : svs (tiny f p) L = 0
  · obtain ⟨n, e⟩ := h2 h0
    rw [e] at hk; simp at hk
  · have e := h3 h0
    rw [e] at hk ⊢
    obtain ⟨q, j, hn, hm, hv⟩ := round_step hf h0 (by omega)
    rw [hm] at hk ⊢
    unfold mkP at hk ⊢
    split at hk
    · simp at hk
    · rename_i hq
      rw [if_neg hq]; simp only []; omega
section
variable {f p : Int} {x y : Fla}
theorem SPair_does (hx : x.Ok) (hy : y.Ok) (he : argsE f p 0 false [x, y] = 0) {a b s : Flt} (ea : (holdsP f p x.flt).1 = a) (eb : (holdsP f p y.flt).1 = b) (es : ((gatherP [a, b]).float f p 0).1 = s) :
    ((s.k = 0 ∨ s.k = 1) → Does Tryz.prog Gv 22 [Fm f p, Fl x.k x.n x.e x.m, Fl y.k y.n y.e y.m] (.t [s.pv, (restP (tiny f p) (leftP f p a b s)).pv, .c (.i .i64 0)])) ∧
    (¬ (s.k = 0 ∨ s.k = 1) → Does Tryz.prog Gv 22 [Fm f p, Fl x.k x.n x.e x.m, Fl y.k y.n y.e y.m] (.t [Flt.pv ⟨0, false, 0, 0⟩, Flt.pv ⟨0, false, 0, 0⟩, .c (.i .i64 4)])) := by
  have hl : [x, y].length < 1099511627776 := by simp
  have ho : ∀ u ∈ [x, y], u.Ok := by simp [hx, hy]
  have hA : DoesO Tryz.prog Gv 48 [Fm f p, .c (.i .i64 0), .c (.b false), .s false [x.cs, y.cs]] 4 [(holdsP f p x.flt).1.cs, (holdsP f p y.flt).1.cs] [.c (.i .i64 0)] := Args_own hl ho he
  obtain ⟨h1, h2, h3, h4, h5, h6⟩ := argsE_zero he
  have hfine := heldL_fine h5 h6
  simp only [heldL, List.map_cons, List.map_nil, List.mem_cons, List.not_mem_nil, or_false, forall_eq_or_imp, forall_eq] at hfine
  have hhx : (holdsP f p x.flt).2 = true := by simpa using List.all_eq_true.1 h6 x (by simp)
  have hhy : (holdsP f p y.flt).2 = true := by simpa using List.all_eq_true.1 h6 y (by simp)
  have oa := held_ofF h5 hhx
  have ob := held_ofF h5 hhy
  have la := @held_low f p x.flt hhx
  have lb := @held_low f p y.flt hhy
  have fa : rcanon (holdsP f p x.flt).1 = (holdsP f p x.flt).1 := by rw [← (held_rcanon hhx).1]; exact rcanon_idem _
  have fb : rcanon (holdsP f p y.flt).1 = (holdsP f p y.flt).1 := by rw [← (held_rcanon hhy).1]; exact rcanon_idem _
  have ka0 : (holdsP f p x.flt).1.k = 0 ∨ (holdsP f p x.flt).1.k = 1 ∨ (holdsP f p x.flt).1.k = 2 ∨ (holdsP f p x.flt).1.k = 3 := by rw [← (held_rcanon hhx).1, rcanon_k]; exact (canon_kind (held_rcanon hhx).2).1
  have kb0 : (holdsP f p y.flt).1.k = 0 ∨ (holdsP f p y.flt).1.k = 1 ∨ (holdsP f p y.flt).1.k = 2 ∨ (holdsP f p y.flt).1.k = 3 := by rw [← (held_rcanon hhy).1, rcanon_k]; exact (canon_kind (held_rcanon hhy).2).1
  rw [ea] at hA hfine oa la fa ka0
  rw [eb] at hA hfine ob lb fb kb0
  clear ea eb
  obtain ⟨hG, hS⟩ := gather_fine (l := [a, b]) (by simp only [List.mem_cons, List.not_mem_nil, or_false, forall_eq_or_imp, forall_eq]; exact hfine) (by simp)
  have hT : Does Tryz.prog Gv 49 [Fm f p, .c (.i .i64 0), .s false [a.cs, b.cs]] (.t [((gatherP [a, b]).float f p 0).1.pv, .c (.i .i64 ((gatherP [a, b]).float f p 0).2)]) := total_does (l := [a, b]) h5 h2 h3 (by simp) hG hS
  have hL : ∀ u ∈ [a, b], u.k = 1 → tiny f p ≤ u.e := by simp only [List.mem_cons, List.not_mem_nil, or_false, forall_eq_or_imp, forall_eq]; exact ⟨la, lb⟩
  have hleft := @pair_left f p h5 a b oa ob hL
  have hnum := @float_number f p h5 [a, b] hL
  have hslow := @float_low f p h5 [a, b] hL
  have hsf := @float_fine f p 0 h5 (gatherP [a, b])
  have hsx := @float_fix f p 0 h5 (gatherP [a, b])
  rw [es] at hT hleft hnum hslow hsf hsx
  generalize ((gatherP [a, b]).float f p 0).2 = fl at *
  refine ⟨fun hk => ?_, fun hk => ?_⟩
  · obtain ⟨hkind, _⟩ := hnum hk
    simp only [List.mem_cons, List.not_mem_nil, or_false, forall_eq_or_imp, forall_eq] at hkind
    have na := rcanon_numb fa (by omega)
    have nb := rcanon_numb fb (by omega)
    have ns := rcanon_numb hsx hk
    obtain ⟨t0, t1⟩ := tiny_le h5
    have oka : -4194304 ≤ a.e ∧ a.e + bl a.v ≤ 1148576 := by
      rcases na with h | ⟨_, h, h'⟩
      · have := hfine.1 h; omega
      · rw [h, h', bl_zero]; omega
    have okb : -4194304 ≤ b.e ∧ b.e + bl b.v ≤ 1148576 := by
      rcases nb with h | ⟨_, h, h'⟩
      · have := hfine.2 h; omega
      · rw [h, h', bl_zero]; omega
    have oks : -4194304 ≤ s.e ∧ s.e + bl s.v ≤ 1148576 := by
      have hv := hsf.v
      rcases ns with h | ⟨_, h, h'⟩
      · have := canon_one hsf.can h; omega
      · rw [h, h', bl_zero]; omega
    have za : tiny f p ≤ a.e := by
      rcases na with h | ⟨_, h, h'⟩
      · exact la h
      · omega
    have zb : tiny f p ≤ b.e := by
      rcases nb with h | ⟨_, h, h'⟩
      · exact lb h
      · omega
    have zs : tiny f p ≤ s.e := by
      rcases ns with h | ⟨_, h, h'⟩
      · exact hslow h
      · omega
    have p1 := @Nu.plus_sv (tiny f p) ⟨a.n, a.v, a.e⟩ ⟨b.n, b.v, b.e⟩ za zb
    have q1 := @Nu.plus_ok ⟨a.n, a.v, a.e⟩ ⟨b.n, b.v, b.e⟩ 1148576 oka okb
    have P1 := @Plus_does Gv ⟨a.n, a.v, a.e⟩ ⟨b.n, b.v, b.e⟩ ⟨oka.1, by simp only []; omega⟩ ⟨okb.1, by simp only []; omega⟩
    generalize (⟨a.n, a.v, a.e⟩ : Nu).plus ⟨b.n, b.v, b.e⟩ = y1 at *
    have p2 := @Nu.plus_sv (tiny f p) y1 ⟨!s.n, s.v, s.e⟩ p1.2 zs
    have q2 := @Nu.plus_ok y1 ⟨!s.n, s.v, s.e⟩ 1148577 q1 (by simp only []; omega)
    have P2 := @Plus_does Gv y1 ⟨!s.n, s.v, s.e⟩ ⟨q1.1, by omega⟩ ⟨oks.1, by simp only []; omega⟩
    generalize y1.plus ⟨!s.n, s.v, s.e⟩ = y2 at *
    rw [p1.1, na.sv, nb.sv, ns.neg_sv] at p2
    have hX := @exact_does f p h5 y2 ⟨q2.1, by omega⟩
    rw [restP_round h5 (Int.le_refl _) (hleft hk) p2.2 (by rw [p2.1, leftP]; omega)] at hX
    generalize restP (tiny f p) (leftP f p a b s) = u at *
    refine Does.of (nt := 58) Tryz.func22 rfl rfl rfl (by simp) ?_
    simp only [argTm, PV.ext, Ce.ext]
    refine Do.seqk fun _ k1_ => ?_
    refine Do.region [3,4,5,6,7] true ?_
    simp [go_sem]
    apply k1_; clear k1_
    refine Do.seqk fun _ k2_ => ?_
    refine Do.region [3,6,7,8,9] true ?_
    simp [go_sem]
    repeat (refine And.intro (by first | omega | (intros; omega) | (intros; exact And.intro (by assumption) (by omega)) | grind) ?_)
    refine DoL.sealS true 104 103 rfl ?_
    simp [go_sem]
    refine DoL.callO true 105 3000 rfl rfl rfl rfl (by first | exact trivial | omega | (simp; done) | (simp; omega)) (hA) rfl rfl rfl ?_
    simp [go_sem]
    apply k2_; clear k2_
    refine Do.seqk fun _ k3_ => ?_
    refine Do.seqk fun _ k4_ => ?_
    refine Do.region [3,6,7,8,9,22] true ?_
    simp [go_sem]
    apply k4_; clear k4_
    refine Do.cond [3,6,7,8,9] rfl (fun h => ?_) (fun h => ?_) <;> simp [go_sem] at h ⊢
    refine Do.skip ?_
    simp [go_sem]
    apply k3_; clear k3_
    refine Do.seqk fun _ k5_ => ?_
    refine Do.seqk fun _ k6_ => ?_
    refine Do.region [3,6,7,9] true ?_
    simp [go_sem]
    repeat (refine And.intro (by first | omega | (intros; omega) | (intros; exact And.intro (by assumption) (by omega)) | grind) ?_)
    refine DoL.sealS true 402 3000 rfl ?_
    simp [go_sem]
    refine DoL.call true 403 rfl rfl rfl rfl (by first | exact trivial | omega | (simp; done) | (simp; omega)) (hT) rfl (by first | exact .inl rfl | exact .inr rfl) rfl ?_
    simp [go_sem]
    repeat (refine And.intro (by first | omega | (intros; omega) | (intros; exact And.intro (by assumption) (by omega)) | grind) ?_)
    apply k6_; clear k6_
    refine Do.seqk fun _ k7_ => ?_
    refine Do.region [3,6,7,9,33] true ?_
    simp [go_sem]
    repeat (refine And.intro (by first | omega | (intros; omega) | (intros; exact And.intro (by assumption) (by omega)) | grind) ?_)
    refine DoL.call true 502 rfl rfl rfl rfl (by first | exact trivial | omega | (simp; done) | (simp; omega)) (number_does) rfl (by first | exact .inl rfl | exact .inr rfl) rfl ?_
    simp [go_sem]
    apply k7_; clear k7_
    refine Do.cond [3,6,7,9] rfl (fun h2 => ?_) (fun h2 => ?_) <;> simp [go_sem] at h2 ⊢
    · refine Do.seqk fun _ k8_ => ?_
      refine Do.draw [3,6,7,10] true (by kernel_rfl) ?_
      simp [go_sem]
      repeat (refine And.intro (by first | omega | (intros; omega) | (intros; exact And.intro (by assumption) (by omega)) | kernel_rfl | grind) ?_)
      refine DoLD.call true 604 rfl rfl rfl rfl (by first | exact trivial | omega | (simp; done) | (simp; omega)) (Of_does) rfl (by first | exact .inl rfl | exact .inr rfl) rfl ?_
      simp [go_sem]
      repeat (refine And.intro (by first | omega | (intros; omega) | (intros; exact And.intro (by assumption) (by omega)) | kernel_rfl | grind) ?_)
      refine DoLD.call true 608 rfl rfl rfl rfl (by first | exact trivial | omega | (simp; done) | (simp; omega)) (Of_does) rfl (by first | exact .inl rfl | exact .inr rfl) rfl ?_
      simp [go_sem]
      refine DoLD.call true 609 rfl rfl rfl rfl (by first | exact trivial | omega | (simp; done) | (simp; omega)) (P1) rfl (by first | exact .inl rfl | exact .inr rfl) rfl ?_
      simp [go_sem]
      repeat (refine And.intro (by first | omega | (intros; omega) | (intros; exact And.intro (by assumption) (by omega)) | kernel_rfl | grind) ?_)
      refine DoLD.call true 611 rfl rfl rfl rfl (by first | exact trivial | omega | (simp; done) | (simp; omega)) (Of_does) rfl (by first | exact .inl rfl | exact .inr rfl) rfl ?_
      simp [go_sem]
      refine DoLD.call true 612 rfl rfl rfl rfl (by first | exact trivial | omega | (simp; done) | (simp; omega)) (Minus_does) rfl (by first | exact .inl rfl | exact .inr rfl) rfl ?_
      simp [go_sem]
      refine DoLD.call true 613 rfl rfl rfl rfl (by first | exact trivial | omega | (simp; done) | (simp; omega)) (P2) rfl (by first | exact .inl rfl | exact .inr rfl) rfl ?_
      simp [go_sem]
      repeat (refine And.intro (by first | omega | (intros; omega) | (intros; exact And.intro (by assumption) (by omega)) | kernel_rfl | grind) ?_)
      try (refine And.intro (by kernel_rfl) ?_)
      apply k8_; clear k8_
      refine Do.seqk fun _ k9_ => ?_
      refine Do.region [6,7,11,12] true ?_
      simp [go_sem]
      repeat (refine And.intro (by first | omega | (intros; omega) | (intros; exact And.intro (by assumption) (by omega)) | grind) ?_)
      refine DoL.call true 703 rfl rfl rfl rfl (by first | exact trivial | omega | (simp; done) | (simp; omega)) (hX) rfl (by first | exact .inl rfl | exact .inr rfl) rfl ?_
      simp [go_sem]
      repeat (refine And.intro (by first | omega | (intros; omega) | (intros; exact And.intro (by assumption) (by omega)) | grind) ?_)
      apply k9_; clear k9_
      refine Do.seqk fun _ k10_ => ?_
      refine Do.region [6,7,11,53] true ?_
      simp [go_sem]
      apply k10_; clear k10_
      refine Do.cond [6,7,11] rfl (fun h3 => ?_) (fun h3 => ?_) <;> simp [go_sem] at h3 ⊢
      refine Do.seqk fun _ k11_ => ?_
      refine Do.draw [6,7,8] true (by kernel_rfl) ?_
      simp [go_sem]
      repeat (refine And.intro (by first | omega | (intros; omega) | (intros; exact And.intro (by assumption) (by omega)) | kernel_rfl | grind) ?_)
      try (refine And.intro (by kernel_rfl) ?_)
      apply k11_; clear k11_
      refine Do.ret ?_
      simp [endQ, rets, ret1, go_sem]
      repeat (refine And.intro (by first | omega | (intros; omega) | (intros; exact And.intro (by assumption) (by omega)) | grind) ?_)
      exact TLe.refl _
    · omega
  ·
    refine Does.of (nt := 58) Tryz.func22 rfl rfl rfl (by simp) ?_
    simp only [argTm, PV.ext, Ce.ext]
    refine Do.seqk fun _ k1_ => ?_
    refine Do.region [3,4,5,6,7] true ?_
    simp [go_sem]
    apply k1_; clear k1_
    refine Do.seqk fun _ k2_ => ?_
    refine Do.region [3,6,7,8,9] true ?_
    simp [go_sem]
    repeat (refine And.intro (by first | omega | (intros; omega) | (intros; exact And.intro (by assumption) (by omega)) | grind) ?_)
    refine DoL.sealS true 104 103 rfl ?_
    simp [go_sem]
    refine DoL.callO true 105 3000 rfl rfl rfl rfl (by first | exact trivial | omega | (simp; done) | (simp; omega)) (hA) rfl rfl rfl ?_
    simp [go_sem]
    apply k2_; clear k2_
    refine Do.seqk fun _ k3_ => ?_
    refine Do.seqk fun _ k4_ => ?_
    refine Do.region [3,6,7,8,9,22] true ?_
    simp [go_sem]
    apply k4_; clear k4_
    refine Do.cond [3,6,7,8,9] rfl (fun h => ?_) (fun h => ?_) <;> simp [go_sem] at h ⊢
    refine Do.skip ?_
    simp [go_sem]
    apply k3_; clear k3_
    refine Do.seqk fun _ k5_ => ?_
    refine Do.seqk fun _ k6_ => ?_
    refine Do.region [3,6,7,9] true ?_
    simp [go_sem]
    repeat (refine And.intro (by first | omega | (intros; omega) | (intros; exact And.intro (by assumption) (by omega)) | grind) ?_)
    refine DoL.sealS true 402 3000 rfl ?_
    simp [go_sem]
    refine DoL.call true 403 rfl rfl rfl rfl (by first | exact trivial | omega | (simp; done) | (simp; omega)) (hT) rfl (by first | exact .inl rfl | exact .inr rfl) rfl ?_
    simp [go_sem]
    repeat (refine And.intro (by first | omega | (intros; omega) | (intros; exact And.intro (by assumption) (by omega)) | grind) ?_)
    apply k6_; clear k6_
    refine Do.seqk fun _ k7_ => ?_
    refine Do.region [3,6,7,9,33] true ?_
    simp [go_sem]
    repeat (refine And.intro (by first | omega | (intros; omega) | (intros; exact And.intro (by assumption) (by omega)) | grind) ?_)
    refine DoL.call true 502 rfl rfl rfl rfl (by first | exact trivial | omega | (simp; done) | (simp; omega)) (number_does) rfl (by first | exact .inl rfl | exact .inr rfl) rfl ?_
    simp [go_sem]
    apply k7_; clear k7_
    refine Do.cond [3,6,7,9] rfl (fun h2 => ?_) (fun h2 => ?_) <;> simp [go_sem] at h2 ⊢
    · omega
    · refine Do.skip ?_
      simp [go_sem]
      apply k5_; clear k5_
      refine Do.seqk fun _ k8_ => ?_
      refine Do.region [6,7,8] true ?_
      simp [go_sem]
      repeat (refine And.intro (by first | omega | (intros; omega) | (intros; exact And.intro (by assumption) (by omega)) | grind) ?_)
      apply k8_; clear k8_
      refine Do.ret ?_
      simp [endQ, rets, ret1, go_sem]
      repeat (refine And.intro (by first | omega | (intros; omega) | (intros; exact And.intro (by assumption) (by omega)) | grind) ?_)
      exact TLe.t (.cons (PLe.flt (ret_z rfl)) (.cons (PLe.flt (ret_z rfl)) (.cons (PLe.refl _) .nil)))
theorem RPair_does (hx : Rt x) (hy : Rt y) (hf : fmOk f p = true) {a b s : Flt} (ea : rcanon x.flt = a) (eb : rcanon y.flt = b) (la : a.k = 1 → tiny f p ≤ a.e) (lb : b.k = 1 → tiny f p ≤ b.e) (es : ((gatherP [a, b]).float f p 0).1 = s) :
    ((s.k = 0 ∨ s.k = 1) → Does Tryz.prog Gv 25 [Fm f p, Fl x.k x.n x.e x.m, Fl y.k y.n y.e y.m] (.t [s.pw, (restP (tiny f p) (leftP f p a b s)).pw, .c (.b true)])) ∧
    (¬ (s.k = 0 ∨ s.k = 1) → Does Tryz.prog Gv 25 [Fm f p, Fl x.k x.n x.e x.m, Fl y.k y.n y.e y.m] (.t [Flt.pw ⟨0, false, 0, 0⟩, Flt.pw ⟨0, false, 0, 0⟩, .c (.b false)])) := by
  have hL : ∀ u ∈ [a, b], u.k = 1 → tiny f p ≤ u.e := by simp only [List.mem_cons, List.not_mem_nil, or_false, forall_eq_or_imp, forall_eq]; exact ⟨la, lb⟩
  have hR := @RTotal_right Gv f p 0 hf (by decide) (by decide) [x, y] (by simp) (by simp [hx, hy])
  rw [show ([x, y].map fun x => rcanon x.flt) = [a, b] by simp [ea, eb]] at hR
  have hslow := @float_low f p hf [a, b] hL
  have hsf := @float_fine f p 0 hf (gatherP [a, b])
  have hsx := @float_fix f p 0 hf (gatherP [a, b])
  have hkinds : ((gatherP [a, b]).float f p 0).1.k = 0 ∨ ((gatherP [a, b]).float f p 0).1.k = 1 ∨ ((gatherP [a, b]).float f p 0).1.k = 2 ∨ ((gatherP [a, b]).float f p 0).1.k = 3 := (canon_kind hsf.can).1
  rw [es] at hR hslow hsf hsx hkinds
  generalize ((gatherP [a, b]).float f p 0).2 = fl at *
  have hrs : Rt s.fla := ⟨by rw [Flt.fla_flt]; exact hsf.can, nat_ws _, by have := len_bl hsf.v; show (nat s.v).length ≤ 4096; omega⟩
  have hZ := @Rest_new Gv [x, y] [s.fla] (by simp) (by simp [hx, hy]) (by simp [hrs]) [a, b] [s] (by simp [ea, eb]) (by simp [Flt.fla_flt, hsx]) (tiny f p) (tiny_le hf).1 (by
    intro u hu hk
    simp only [List.cons_append, List.nil_append, List.map_cons, List.map_nil, List.mem_cons, List.not_mem_nil, or_false] at hu
    rcases hu with rfl | rfl | rfl
    · exact la hk
    · exact lb hk
    · exact hslow hk)
  rw [left_svs] at hZ
  generalize restP (tiny f p) (leftP f p a b s) = u at *
  have hR : Does Tryz.prog Gv 16 [Fm f p, .c (.i .i64 0), .s false [x.cs, y.cs]] (.t [s.pw, .c (.i .i64 fl)]) := hR
  have hZ : Does Tryz.prog Gv 64 [.s false [x.cs, y.cs], .s false [s.cs]] (.v u.pw) := hZ
  refine ⟨fun hk => ?_, fun hk => ?_⟩
  ·
    refine Does.of (nt := 36) Tryz.func25 rfl rfl rfl (by simp) ?_
    simp only [argTm, PV.ext, Ce.ext]
    refine Do.seqk fun _ k1_ => ?_
    refine Do.region [3,4,5,6,7] true ?_
    simp [go_sem]
    apply k1_; clear k1_
    refine Do.seqk fun _ k2_ => ?_
    refine Do.region [3,6,7,9] true ?_
    simp [go_sem]
    repeat (refine And.intro (by first | omega | (intros; omega) | (intros; exact And.intro (by assumption) (by omega)) | grind) ?_)
    apply k2_; clear k2_
    refine Do.seqk fun _ k3_ => ?_
    refine Do.region [6,7,9,10] true ?_
    simp [go_sem]
    repeat (refine And.intro (by first | omega | (intros; omega) | (intros; exact And.intro (by assumption) (by omega)) | grind) ?_)
    refine DoL.sealS true 202 102 rfl ?_
    simp [go_sem]
    refine DoL.call true 203 rfl rfl rfl rfl (by first | exact trivial | omega | (simp; done) | (simp; omega)) (hR) rfl (by first | exact .inl rfl | exact .inr rfl) rfl ?_
    simp [go_sem]
    repeat (refine And.intro (by first | omega | (intros; omega) | (intros; exact And.intro (by assumption) (by omega)) | grind) ?_)
    apply k3_; clear k3_
    refine Do.seqk fun _ k4_ => ?_
    refine Do.seqk fun _ k5_ => ?_
    refine Do.region [6,7,9,10,28] true ?_
    simp [go_sem]
    repeat (refine And.intro (by first | omega | (intros; omega) | (intros; exact And.intro (by assumption) (by omega)) | grind) ?_)
    apply k5_; clear k5_
    refine Do.cond [6,7,9,10] rfl (fun h => ?_) (fun h => ?_) <;> simp [go_sem] at h ⊢
    · omega
    · refine Do.skip ?_
      simp [go_sem]
      apply k4_; clear k4_
      refine Do.seqk fun _ k6_ => ?_
      refine Do.draw [6,7,8] true (by kernel_rfl) ?_
      simp [go_sem]
      repeat (refine And.intro (by first | omega | (intros; omega) | (intros; exact And.intro (by assumption) (by omega)) | kernel_rfl | grind) ?_)
      refine DoLD.call true 505 rfl rfl rfl rfl (by first | exact trivial | omega | (simp; done) | (simp; omega)) (hZ) rfl (by first | exact .inl rfl | exact .inr rfl) rfl ?_
      simp [go_sem]
      repeat (refine And.intro (by first | omega | (intros; omega) | (intros; exact And.intro (by assumption) (by omega)) | kernel_rfl | grind) ?_)
      try (refine And.intro (by kernel_rfl) ?_)
      apply k6_; clear k6_
      refine Do.ret ?_
      simp [endQ, rets, ret1, go_sem]
      repeat (refine And.intro (by first | omega | (intros; omega) | (intros; exact And.intro (by assumption) (by omega)) | grind) ?_)
      exact TLe.refl _
  ·
    refine Does.of (nt := 36) Tryz.func25 rfl rfl rfl (by simp) ?_
    simp only [argTm, PV.ext, Ce.ext]
    refine Do.seqk fun _ k1_ => ?_
    refine Do.region [3,4,5,6,7] true ?_
    simp [go_sem]
    apply k1_; clear k1_
    refine Do.seqk fun _ k2_ => ?_
    refine Do.region [3,6,7,9] true ?_
    simp [go_sem]
    repeat (refine And.intro (by first | omega | (intros; omega) | (intros; exact And.intro (by assumption) (by omega)) | grind) ?_)
    apply k2_; clear k2_
    refine Do.seqk fun _ k3_ => ?_
    refine Do.region [6,7,9,10] true ?_
    simp [go_sem]
    repeat (refine And.intro (by first | omega | (intros; omega) | (intros; exact And.intro (by assumption) (by omega)) | grind) ?_)
    refine DoL.sealS true 202 102 rfl ?_
    simp [go_sem]
    refine DoL.call true 203 rfl rfl rfl rfl (by first | exact trivial | omega | (simp; done) | (simp; omega)) (hR) rfl (by first | exact .inl rfl | exact .inr rfl) rfl ?_
    simp [go_sem]
    repeat (refine And.intro (by first | omega | (intros; omega) | (intros; exact And.intro (by assumption) (by omega)) | grind) ?_)
    apply k3_; clear k3_
    refine Do.seqk fun _ k4_ => ?_
    refine Do.seqk fun _ k5_ => ?_
    refine Do.region [6,7,9,10,28] true ?_
    simp [go_sem]
    repeat (refine And.intro (by first | omega | (intros; omega) | (intros; exact And.intro (by assumption) (by omega)) | grind) ?_)
    apply k5_; clear k5_
    refine Do.cond [6,7,9,10] rfl (fun h => ?_) (fun h => ?_) <;> simp [go_sem] at h ⊢
    · refine Do.seqk fun _ k6_ => ?_
      refine Do.region [6,7,8] true ?_
      simp [go_sem]
      repeat (refine And.intro (by first | omega | (intros; omega) | (intros; exact And.intro (by assumption) (by omega)) | grind) ?_)
      apply k6_; clear k6_
      refine Do.ret ?_
      simp [endQ, rets, ret1, go_sem]
      repeat (refine And.intro (by first | omega | (intros; omega) | (intros; exact And.intro (by assumption) (by omega)) | grind) ?_)
      exact TLe.t (.cons (PLe.flw (ret_zw rfl)) (.cons (PLe.flw (ret_zw rfl)) (.cons (PLe.refl _) .nil)))
    · omega
end
theorem LIs_same {G : Gl} {x : Flt} (hx : Fine x) (h : rcanon x = x) : Does Tryz.prog G 26 [x.pv, x.pv] (.v (.c (.b true))) := by
  have hl : (nat x.v).length ≤ 1073741824 := by have := nat_len_bl x.v; have := hx.v; omega
  have := @LIs_does G x.k x.e x.n (nat x.v) x.k x.e x.n (nat x.v) hl (nat_ws _) hl (nat_ws _) (good_md hx.can)
  rw [val_nat, show (⟨x.k, x.n, x.e, x.v⟩ : Flt) = x from rfl, h, show isP x.k x.n x.e (nat x.v) x = true by simp [isP]] at this
  exact this
theorem SumPairs_does {f p : Int} {x y : Fla} (hx : Ws x.m) (ex : I64 x.e) (hy : Ws y.m) (ey : I64 y.e) : Does Tryz.prog Gv 5 [Fm f p, Fl x.k x.n x.e x.m, Fl y.k y.n y.e y.m] (.v (.c (.b true))) := by
  have hS : Does Tryz.prog Gv 10 [.s false [x.cs, y.cs]] (.v (.c (.b (shortP [x, y])))) := Short15_does (l := [x, y]) (by simp)
  cases hs : shortP [x, y] with
  | false =>
    rw [hs] at hS
    refine Does.of (nt := 93) Tryz.func5 rfl rfl rfl (by simp) ?_
    simp only [argTm, PV.ext, Ce.ext]
    refine Do.seqk fun _ k1_ => ?_
    refine Do.region [3,4,5] true ?_
    simp [go_sem]
    apply k1_; clear k1_
    refine Do.seqk fun _ k2_ => ?_
    refine Do.seqk fun _ k3_ => ?_
    refine Do.region [3,4,5,18] true ?_
    simp [go_sem]
    repeat (refine And.intro (by first | omega | (intros; omega) | (intros; exact And.intro (by assumption) (by omega)) | grind) ?_)
    refine DoL.sealS true 103 102 rfl ?_
    simp [go_sem]
    refine DoL.call true 104 rfl rfl rfl rfl (by first | exact trivial | omega | (simp; done) | (simp; omega)) (hS) rfl (by first | exact .inl rfl | exact .inr rfl) rfl ?_
    simp [go_sem]
    repeat (refine And.intro (by first | omega | (intros; omega) | (intros; exact And.intro (by assumption) (by omega)) | grind) ?_)
    apply k3_; clear k3_
    refine Do.cond [3,4,5] rfl (fun h => ?_) (fun h => ?_) <;> simp [go_sem] at h ⊢
    refine Do.seqk fun _ k4_ => ?_
    refine Do.region [6] true ?_
    simp [go_sem]
    refine DoL.call true 201 rfl rfl rfl rfl (by first | exact trivial | omega | (simp; done) | (simp; omega)) (awake_does) rfl (by first | exact .inl rfl | exact .inr rfl) rfl ?_
    simp [go_sem]
    apply k4_; clear k4_
    refine Do.ret ?_
    simp [endQ, rets, ret1, go_sem]
    repeat (refine And.intro (by first | omega | (intros; omega) | (intros; exact And.intro (by assumption) (by omega)) | grind) ?_)
    exact TLe.refl _
  | true =>
    rw [hs] at hS
    have hsx : x.m.length ≤ 40 ∧ y.m.length ≤ 40 := by simpa [shortP] using hs
    have ox : x.Ok := ⟨by simp [Sh]; omega, hx, ex⟩
    have oy : y.Ok := ⟨by simp [Sh]; omega, hy, ey⟩
    have ho : ∀ u ∈ [x, y], u.Ok := by simp [ox, oy]
    have hC : Does Tryz.prog Gv 23 [Fm f p, .s false [x.cs, y.cs]] (.int .i64 (argsE f p 0 false [x, y])) := @RCheck_does Gv f p [x, y] (by simp) ho
    have hN := @None_does Gv 0 0 false [] (by simp [Sh])
    by_cases he : argsE f p 0 false [x, y] = 0
    · obtain ⟨h1, h2, h3, h4, h5, h6⟩ := argsE_zero he
      have hrt := held_rt h6 ho h1
      have hhx : (holdsP f p x.flt).2 = true := by simpa using List.all_eq_true.1 h6 x (by simp)
      have hhy : (holdsP f p y.flt).2 = true := by simpa using List.all_eq_true.1 h6 y (by simp)
      have oa := held_ofF h5 hhx
      have ob := held_ofF h5 hhy
      have la := @held_low f p x.flt hhx
      have lb := @held_low f p y.flt hhy
      have ca := (held_rcanon hhx).1
      have cb := (held_rcanon hhy).1
      have hP := fun s => @SPair_does f p x y ox oy he _ _ s rfl rfl
      have hQ := fun s => @RPair_does f p x y (hrt x (by simp)) (hrt y (by simp)) h5 _ _ s ca cb la lb
      rw [he] at hC
      generalize (holdsP f p x.flt).1 = a at *
      generalize (holdsP f p y.flt).1 = b at *
      have hL : ∀ u ∈ [a, b], u.k = 1 → tiny f p ≤ u.e := by simp only [List.mem_cons, List.not_mem_nil, or_false, forall_eq_or_imp, forall_eq]; exact ⟨la, lb⟩
      have hleft := @pair_left f p h5 a b oa ob hL
      have hsf := @float_fine f p 0 h5 (gatherP [a, b])
      have hfx := @float_fix f p 0 h5 (gatherP [a, b])
      have hP := hP _ rfl
      have hQ := hQ _ rfl
      generalize ((gatherP [a, b]).float f p 0).1 = s at *
      have hI1 := @LIs_same Gv s hsf hfx
      by_cases hk : s.k = 0 ∨ s.k = 1
      · have hP := hP.1 hk
        have hQ := hQ.1 hk
        have hI2 := @LIs_same Gv _ (restP_fine h5 (Int.le_refl _) (hleft hk)) (restP_fix _ _)
        generalize restP (tiny f p) (leftP f p a b s) = u at *
        refine Does.of (nt := 93) Tryz.func5 rfl rfl rfl (by simp) ?_
        simp only [argTm, PV.ext, Ce.ext]
        refine Do.seqk fun _ k1_ => ?_
        refine Do.region [3,4,5] true ?_
        simp [go_sem]
        apply k1_; clear k1_
        refine Do.seqk fun _ k2_ => ?_
        refine Do.seqk fun _ k3_ => ?_
        refine Do.region [3,4,5,18] true ?_
        simp [go_sem]
        repeat (refine And.intro (by first | omega | (intros; omega) | (intros; exact And.intro (by assumption) (by omega)) | grind) ?_)
        refine DoL.sealS true 103 102 rfl ?_
        simp [go_sem]
        refine DoL.call true 104 rfl rfl rfl rfl (by first | exact trivial | omega | (simp; done) | (simp; omega)) (hS) rfl (by first | exact .inl rfl | exact .inr rfl) rfl ?_
        simp [go_sem]
        repeat (refine And.intro (by first | omega | (intros; omega) | (intros; exact And.intro (by assumption) (by omega)) | grind) ?_)
        apply k3_; clear k3_
        refine Do.cond [3,4,5] rfl (fun h => ?_) (fun h => ?_) <;> simp [go_sem] at h ⊢
        refine Do.skip ?_
        simp [go_sem]
        apply k2_; clear k2_
        refine Do.seqk fun _ k4_ => ?_
        refine Do.region [3,4,5,7,8,9] true ?_
        simp [go_sem]
        repeat (refine And.intro (by first | omega | (intros; omega) | (intros; exact And.intro (by assumption) (by omega)) | grind) ?_)
        refine DoL.call true 304 rfl rfl rfl rfl (by first | exact trivial | omega | (simp; done) | (simp; omega)) (hP) rfl (by first | exact .inl rfl | exact .inr rfl) rfl ?_
        simp [go_sem]
        repeat (refine And.intro (by first | omega | (intros; omega) | (intros; exact And.intro (by assumption) (by omega)) | grind) ?_)
        apply k4_; clear k4_
        refine Do.seqk fun _ k5_ => ?_
        refine Do.draw [3,4,5,7,8,9,10] true (by kernel_rfl) ?_
        simp [go_sem]
        repeat (refine And.intro (by first | omega | (intros; omega) | (intros; exact And.intro (by assumption) (by omega)) | kernel_rfl | grind) ?_)
        refine DoLD.call true 402 rfl rfl rfl rfl (by first | exact trivial | omega | (simp; done) | (simp; omega)) (Fmt_does) rfl (by first | exact .inl rfl | exact .inr rfl) rfl ?_
        simp [go_sem]
        repeat (refine And.intro (by first | omega | (intros; omega) | (intros; exact And.intro (by assumption) (by omega)) | kernel_rfl | grind) ?_)
        refine DoLD.call true 404 rfl rfl rfl rfl (by first | exact trivial | omega | (simp; done) | (simp; omega)) (Their_does) rfl (by first | exact .inl rfl | exact .inr rfl) rfl ?_
        simp [go_sem]
        repeat (refine And.intro (by first | omega | (intros; omega) | (intros; exact And.intro (by assumption) (by omega)) | kernel_rfl | grind) ?_)
        refine DoLD.call true 406 rfl rfl rfl rfl (by first | exact trivial | omega | (simp; done) | (simp; omega)) (Their_does) rfl (by first | exact .inl rfl | exact .inr rfl) rfl ?_
        simp [go_sem]
        refine DoLD.call true 408 rfl rfl rfl rfl (by first | exact trivial | omega | (simp; done) | (simp; omega)) (hC) rfl (by first | exact .inl rfl | exact .inr rfl) rfl ?_
        simp [go_sem]
        try (refine And.intro (by kernel_rfl) ?_)
        apply k5_; clear k5_
        refine Do.seqk fun _ k6_ => ?_
        refine Do.seqk fun _ k7_ => ?_
        refine Do.region [3,4,5,7,8,9,10,37] true ?_
        simp [go_sem]
        apply k7_; clear k7_
        refine Do.cond [3,4,5,7,8,9,10] rfl (fun h => ?_) (fun h => ?_) <;> simp [go_sem] at h ⊢
        refine Do.skip ?_
        simp [go_sem]
        apply k6_; clear k6_
        refine Do.seqk fun _ k8_ => ?_
        refine Do.draw [7,8,9,11,12,13] true (by kernel_rfl) ?_
        simp [go_sem]
        repeat (refine And.intro (by first | omega | (intros; omega) | (intros; exact And.intro (by assumption) (by omega)) | kernel_rfl | grind) ?_)
        refine DoLD.call true 702 rfl rfl rfl rfl (by first | exact trivial | omega | (simp; done) | (simp; omega)) (Fmt_does) rfl (by first | exact .inl rfl | exact .inr rfl) rfl ?_
        simp [go_sem]
        repeat (refine And.intro (by first | omega | (intros; omega) | (intros; exact And.intro (by assumption) (by omega)) | kernel_rfl | grind) ?_)
        refine DoLD.call true 704 rfl rfl rfl rfl (by first | exact trivial | omega | (simp; done) | (simp; omega)) (Their_does) rfl (by first | exact .inl rfl | exact .inr rfl) rfl ?_
        simp [go_sem]
        repeat (refine And.intro (by first | omega | (intros; omega) | (intros; exact And.intro (by assumption) (by omega)) | kernel_rfl | grind) ?_)
        refine DoLD.call true 706 rfl rfl rfl rfl (by first | exact trivial | omega | (simp; done) | (simp; omega)) (Their_does) rfl (by first | exact .inl rfl | exact .inr rfl) rfl ?_
        simp [go_sem]
        refine DoLD.call true 707 rfl rfl rfl rfl (by first | exact trivial | omega | (simp; done) | (simp; omega)) (hQ) rfl (by first | exact .inl rfl | exact .inr rfl) rfl ?_
        simp [go_sem]
        repeat (refine And.intro (by first | omega | (intros; omega) | (intros; exact And.intro (by assumption) (by omega)) | kernel_rfl | grind) ?_)
        try (refine And.intro (by kernel_rfl) ?_)
        apply k8_; clear k8_
        refine Do.seqk fun _ k9_ => ?_
        refine Do.seqk fun _ k10_ => ?_
        refine Do.region [7,8,9,11,12,64] true ?_
        simp [go_sem]
        repeat (refine And.intro (by first | omega | (intros; omega) | (intros; exact And.intro (by assumption) (by omega)) | grind) ?_)
        apply k10_; clear k10_
        refine Do.cond [7,8,9,11,12] rfl (fun h => ?_) (fun h => ?_) <;> simp [go_sem] at h ⊢
        refine Do.skip ?_
        simp [go_sem]
        apply k9_; clear k9_
        refine Do.seqk fun _ k11_ => ?_
        refine Do.region [6] true ?_
        simp [go_sem]
        repeat (refine And.intro (by first | omega | (intros; omega) | (intros; exact And.intro (by assumption) (by omega)) | grind) ?_)
        refine DoL.callg true 1006 rfl rfl rfl rfl rfl (by simp [go_sem] <;> omega) (fun _ => hI1) rfl (by first | exact .inl rfl | exact .inr rfl) rfl ?_
        simp [go_sem]
        repeat (refine And.intro (by first | omega | (intros; omega) | (intros; exact And.intro (by assumption) (by omega)) | grind) ?_)
        refine DoL.callg true 1011 rfl rfl rfl rfl rfl (by simp [go_sem] <;> omega) (fun _ => hI2) rfl (by first | exact .inl rfl | exact .inr rfl) rfl ?_
        simp [go_sem]
        refine DoL.callg true 1014 rfl rfl rfl rfl rfl (by simp [go_sem] <;> omega) (fun _ => awake_does) rfl (by first | exact .inl rfl | exact .inr rfl) rfl ?_
        simp [go_sem]
        apply k11_; clear k11_
        refine Do.ret ?_
        simp [endQ, rets, ret1, go_sem]
        repeat (refine And.intro (by first | omega | (intros; omega) | (intros; exact And.intro (by assumption) (by omega)) | grind) ?_)
        exact TLe.refl _
      · have hP : Does Tryz.prog Gv 22 [Fm f p, Fl x.k x.n x.e x.m, Fl y.k y.n y.e y.m] (.t [Fl 0 false 0 (nat 0), Fl 0 false 0 (nat 0), .c (.i .i64 4)]) := hP.2 hk
        have hQ := hQ.2 hk
        rw [nat_zero] at hP
        refine Does.of (nt := 93) Tryz.func5 rfl rfl rfl (by simp) ?_
        simp only [argTm, PV.ext, Ce.ext]
        refine Do.seqk fun _ k1_ => ?_
        refine Do.region [3,4,5] true ?_
        simp [go_sem]
        apply k1_; clear k1_
        refine Do.seqk fun _ k2_ => ?_
        refine Do.seqk fun _ k3_ => ?_
        refine Do.region [3,4,5,18] true ?_
        simp [go_sem]
        repeat (refine And.intro (by first | omega | (intros; omega) | (intros; exact And.intro (by assumption) (by omega)) | grind) ?_)
        refine DoL.sealS true 103 102 rfl ?_
        simp [go_sem]
        refine DoL.call true 104 rfl rfl rfl rfl (by first | exact trivial | omega | (simp; done) | (simp; omega)) (hS) rfl (by first | exact .inl rfl | exact .inr rfl) rfl ?_
        simp [go_sem]
        repeat (refine And.intro (by first | omega | (intros; omega) | (intros; exact And.intro (by assumption) (by omega)) | grind) ?_)
        apply k3_; clear k3_
        refine Do.cond [3,4,5] rfl (fun h => ?_) (fun h => ?_) <;> simp [go_sem] at h ⊢
        refine Do.skip ?_
        simp [go_sem]
        apply k2_; clear k2_
        refine Do.seqk fun _ k4_ => ?_
        refine Do.region [3,4,5,7,8,9] true ?_
        simp [go_sem]
        repeat (refine And.intro (by first | omega | (intros; omega) | (intros; exact And.intro (by assumption) (by omega)) | grind) ?_)
        refine DoL.call true 304 rfl rfl rfl rfl (by first | exact trivial | omega | (simp; done) | (simp; omega)) (hP) rfl (by first | exact .inl rfl | exact .inr rfl) rfl ?_
        simp [go_sem]
        repeat (refine And.intro (by first | omega | (intros; omega) | (intros; exact And.intro (by assumption) (by omega)) | grind) ?_)
        apply k4_; clear k4_
        refine Do.seqk fun _ k5_ => ?_
        refine Do.draw [3,4,5,7,8,9,10] true (by kernel_rfl) ?_
        simp [go_sem]
        repeat (refine And.intro (by first | omega | (intros; omega) | (intros; exact And.intro (by assumption) (by omega)) | kernel_rfl | grind) ?_)
        refine DoLD.call true 402 rfl rfl rfl rfl (by first | exact trivial | omega | (simp; done) | (simp; omega)) (Fmt_does) rfl (by first | exact .inl rfl | exact .inr rfl) rfl ?_
        simp [go_sem]
        repeat (refine And.intro (by first | omega | (intros; omega) | (intros; exact And.intro (by assumption) (by omega)) | kernel_rfl | grind) ?_)
        refine DoLD.call true 404 rfl rfl rfl rfl (by first | exact trivial | omega | (simp; done) | (simp; omega)) (Their_does) rfl (by first | exact .inl rfl | exact .inr rfl) rfl ?_
        simp [go_sem]
        repeat (refine And.intro (by first | omega | (intros; omega) | (intros; exact And.intro (by assumption) (by omega)) | kernel_rfl | grind) ?_)
        refine DoLD.call true 406 rfl rfl rfl rfl (by first | exact trivial | omega | (simp; done) | (simp; omega)) (Their_does) rfl (by first | exact .inl rfl | exact .inr rfl) rfl ?_
        simp [go_sem]
        refine DoLD.call true 408 rfl rfl rfl rfl (by first | exact trivial | omega | (simp; done) | (simp; omega)) (hC) rfl (by first | exact .inl rfl | exact .inr rfl) rfl ?_
        simp [go_sem]
        try (refine And.intro (by kernel_rfl) ?_)
        apply k5_; clear k5_
        refine Do.seqk fun _ k6_ => ?_
        refine Do.seqk fun _ k7_ => ?_
        refine Do.region [3,4,5,7,8,9,10,37] true ?_
        simp [go_sem]
        apply k7_; clear k7_
        refine Do.cond [3,4,5,7,8,9,10] rfl (fun h => ?_) (fun h => ?_) <;> simp [go_sem] at h ⊢
        refine Do.skip ?_
        simp [go_sem]
        apply k6_; clear k6_
        refine Do.seqk fun _ k8_ => ?_
        refine Do.draw [7,8,9,11,12,13] true (by kernel_rfl) ?_
        simp [go_sem]
        repeat (refine And.intro (by first | omega | (intros; omega) | (intros; exact And.intro (by assumption) (by omega)) | kernel_rfl | grind) ?_)
        refine DoLD.call true 702 rfl rfl rfl rfl (by first | exact trivial | omega | (simp; done) | (simp; omega)) (Fmt_does) rfl (by first | exact .inl rfl | exact .inr rfl) rfl ?_
        simp [go_sem]
        repeat (refine And.intro (by first | omega | (intros; omega) | (intros; exact And.intro (by assumption) (by omega)) | kernel_rfl | grind) ?_)
        refine DoLD.call true 704 rfl rfl rfl rfl (by first | exact trivial | omega | (simp; done) | (simp; omega)) (Their_does) rfl (by first | exact .inl rfl | exact .inr rfl) rfl ?_
        simp [go_sem]
        repeat (refine And.intro (by first | omega | (intros; omega) | (intros; exact And.intro (by assumption) (by omega)) | kernel_rfl | grind) ?_)
        refine DoLD.call true 706 rfl rfl rfl rfl (by first | exact trivial | omega | (simp; done) | (simp; omega)) (Their_does) rfl (by first | exact .inl rfl | exact .inr rfl) rfl ?_
        simp [go_sem]
        refine DoLD.call true 707 rfl rfl rfl rfl (by first | exact trivial | omega | (simp; done) | (simp; omega)) (hQ) rfl (by first | exact .inl rfl | exact .inr rfl) rfl ?_
        simp [go_sem]
        repeat (refine And.intro (by first | omega | (intros; omega) | (intros; exact And.intro (by assumption) (by omega)) | kernel_rfl | grind) ?_)
        try (refine And.intro (by kernel_rfl) ?_)
        apply k8_; clear k8_
        refine Do.seqk fun _ k9_ => ?_
        refine Do.seqk fun _ k10_ => ?_
        refine Do.region [7,8,9,11,12,64] true ?_
        simp [go_sem]
        repeat (refine And.intro (by first | omega | (intros; omega) | (intros; exact And.intro (by assumption) (by omega)) | grind) ?_)
        apply k10_; clear k10_
        refine Do.cond [7,8,9,11,12] rfl (fun h => ?_) (fun h => ?_) <;> simp [go_sem] at h ⊢
        refine Do.seqk fun _ k11_ => ?_
        refine Do.region [6] true ?_
        simp [go_sem]
        repeat (refine And.intro (by first | omega | (intros; omega) | (intros; exact And.intro (by assumption) (by omega)) | grind) ?_)
        refine DoL.callg true 905 rfl rfl rfl rfl rfl (by simp [go_sem] <;> omega) (fun _ => hN) rfl (by first | exact .inl rfl | exact .inr rfl) rfl ?_
        simp [go_sem]
        repeat (refine And.intro (by first | omega | (intros; omega) | (intros; exact And.intro (by assumption) (by omega)) | grind) ?_)
        refine DoL.callg true 909 rfl rfl rfl rfl rfl (by simp [go_sem] <;> omega) (fun _ => hN) rfl (by first | exact .inl rfl | exact .inr rfl) rfl ?_
        simp [go_sem]
        refine DoL.callg true 912 rfl rfl rfl rfl rfl (by simp [go_sem] <;> omega) (fun _ => awake_does) rfl (by first | exact .inl rfl | exact .inr rfl) rfl ?_
        simp [go_sem]
        apply k11_; clear k11_
        refine Do.ret ?_
        simp [endQ, rets, ret1, go_sem]
        repeat (refine And.intro (by first | omega | (intros; omega) | (intros; exact And.intro (by assumption) (by omega)) | grind) ?_)
        exact TLe.refl _
    · have hP : Does Tryz.prog Gv 22 [Fm f p, Fl x.k x.n x.e x.m, Fl y.k y.n y.e y.m] (.t [Fl 0 false 0 (nat 0), Fl 0 false 0 (nat 0), .c (.i .i64 (argsE f p 0 false [x, y]))]) := Pair_err ox oy he
      rw [nat_zero] at hP
      generalize argsE f p 0 false [x, y] = ae at *
      refine Does.of (nt := 93) Tryz.func5 rfl rfl rfl (by simp) ?_
      simp only [argTm, PV.ext, Ce.ext]
      refine Do.seqk fun _ k1_ => ?_
      refine Do.region [3,4,5] true ?_
      simp [go_sem]
      apply k1_; clear k1_
      refine Do.seqk fun _ k2_ => ?_
      refine Do.seqk fun _ k3_ => ?_
      refine Do.region [3,4,5,18] true ?_
      simp [go_sem]
      repeat (refine And.intro (by first | omega | (intros; omega) | (intros; exact And.intro (by assumption) (by omega)) | grind) ?_)
      refine DoL.sealS true 103 102 rfl ?_
      simp [go_sem]
      refine DoL.call true 104 rfl rfl rfl rfl (by first | exact trivial | omega | (simp; done) | (simp; omega)) (hS) rfl (by first | exact .inl rfl | exact .inr rfl) rfl ?_
      simp [go_sem]
      repeat (refine And.intro (by first | omega | (intros; omega) | (intros; exact And.intro (by assumption) (by omega)) | grind) ?_)
      apply k3_; clear k3_
      refine Do.cond [3,4,5] rfl (fun h => ?_) (fun h => ?_) <;> simp [go_sem] at h ⊢
      refine Do.skip ?_
      simp [go_sem]
      apply k2_; clear k2_
      refine Do.seqk fun _ k4_ => ?_
      refine Do.region [3,4,5,7,8,9] true ?_
      simp [go_sem]
      repeat (refine And.intro (by first | omega | (intros; omega) | (intros; exact And.intro (by assumption) (by omega)) | grind) ?_)
      refine DoL.call true 304 rfl rfl rfl rfl (by first | exact trivial | omega | (simp; done) | (simp; omega)) (hP) rfl (by first | exact .inl rfl | exact .inr rfl) rfl ?_
      simp [go_sem]
      repeat (refine And.intro (by first | omega | (intros; omega) | (intros; exact And.intro (by assumption) (by omega)) | grind) ?_)
      apply k4_; clear k4_
      refine Do.seqk fun _ k5_ => ?_
      refine Do.draw [3,4,5,7,8,9,10] true (by kernel_rfl) ?_
      simp [go_sem]
      repeat (refine And.intro (by first | omega | (intros; omega) | (intros; exact And.intro (by assumption) (by omega)) | kernel_rfl | grind) ?_)
      refine DoLD.call true 402 rfl rfl rfl rfl (by first | exact trivial | omega | (simp; done) | (simp; omega)) (Fmt_does) rfl (by first | exact .inl rfl | exact .inr rfl) rfl ?_
      simp [go_sem]
      repeat (refine And.intro (by first | omega | (intros; omega) | (intros; exact And.intro (by assumption) (by omega)) | kernel_rfl | grind) ?_)
      refine DoLD.call true 404 rfl rfl rfl rfl (by first | exact trivial | omega | (simp; done) | (simp; omega)) (Their_does) rfl (by first | exact .inl rfl | exact .inr rfl) rfl ?_
      simp [go_sem]
      repeat (refine And.intro (by first | omega | (intros; omega) | (intros; exact And.intro (by assumption) (by omega)) | kernel_rfl | grind) ?_)
      refine DoLD.call true 406 rfl rfl rfl rfl (by first | exact trivial | omega | (simp; done) | (simp; omega)) (Their_does) rfl (by first | exact .inl rfl | exact .inr rfl) rfl ?_
      simp [go_sem]
      refine DoLD.call true 408 rfl rfl rfl rfl (by first | exact trivial | omega | (simp; done) | (simp; omega)) (hC) rfl (by first | exact .inl rfl | exact .inr rfl) rfl ?_
      simp [go_sem]
      try (refine And.intro (by kernel_rfl) ?_)
      apply k5_; clear k5_
      refine Do.seqk fun _ k6_ => ?_
      refine Do.seqk fun _ k7_ => ?_
      refine Do.region [3,4,5,7,8,9,10,37] true ?_
      simp [go_sem]
      apply k7_; clear k7_
      refine Do.cond [3,4,5,7,8,9,10] rfl (fun h5 => ?_) (fun h5 => ?_) <;> simp [go_sem] at h5 ⊢
      · refine Do.seqk fun _ k8_ => ?_
        refine Do.region [6] true ?_
        simp [go_sem]
        repeat (refine And.intro (by first | omega | (intros; omega) | (intros; exact And.intro (by assumption) (by omega)) | grind) ?_)
        refine DoL.callg true 606 rfl rfl rfl rfl rfl (by simp [go_sem] <;> omega) (fun _ => hN) rfl (by first | exact .inl rfl | exact .inr rfl) rfl ?_
        simp [go_sem]
        repeat (refine And.intro (by first | omega | (intros; omega) | (intros; exact And.intro (by assumption) (by omega)) | grind) ?_)
        refine DoL.callg true 610 rfl rfl rfl rfl rfl (by simp [go_sem] <;> omega) (fun _ => hN) rfl (by first | exact .inl rfl | exact .inr rfl) rfl ?_
        simp [go_sem]
        refine DoL.callg true 613 rfl rfl rfl rfl rfl (by simp [go_sem] <;> omega) (fun _ => awake_does) rfl (by first | exact .inl rfl | exact .inr rfl) rfl ?_
        simp [go_sem]
        apply k8_; clear k8_
        refine Do.ret ?_
        simp [endQ, rets, ret1, go_sem]
        repeat (refine And.intro (by first | omega | (intros; omega) | (intros; exact And.intro (by assumption) (by omega)) | grind) ?_)
        exact TLe.refl _
      · exact absurd h5 he
end Go.Proofs.YtdaecibpkhcllaaGreatDoor
/- Products of floats, plain. No condition. -/
namespace Go.Proofs.YtdaecibpkhcllaaGreatDoor
set_option linter.unusedVariables false
set_option linter.unusedSimpArgs false
set_option maxHeartbeats 4000000
set_option maxRecDepth 10000
/-- A product: is it nothing, its kind, its number. -/
def timesP (x y : Flt) : Bool × Int × Nu :=
  if x.k = 3 ∨ y.k = 3 then (false, 3, ⟨!x.n == y.n, 0, 0⟩)
  else if x.k = 2 ∨ y.k = 2 then (x.k == 0 || y.k == 0, 2, ⟨!x.n == y.n, 0, 0⟩)
  else if x.k = 1 ∧ y.k = 1 then (false, 1, ⟨!x.n == y.n, x.v * y.v, x.e + y.e⟩)
  else (false, 0, ⟨!x.n == y.n, 0, 0⟩)
def roundT (t : Bool × Int × Nu) (f p r : Int) : Flt × Int :=
  if t.1 then (⟨3, false, 0, 0⟩, 16) else if t.2.1 = 3 then (⟨3, false, 0, 0⟩, 0) else if t.2.1 ≠ 1 then (⟨t.2.1, t.2.2.n, 0, 0⟩, 0) else t.2.2.round f p r false
/-- The reference's product, and whether it is one. -/
def prodF (x y : Flt) : Flt × Bool :=
  if x.k = 3 ∨ y.k = 3 then (⟨3, false, 0, 0⟩, true)
  else if x.k = 2 ∧ y.k = 0 ∨ x.k = 0 ∧ y.k = 2 then (⟨0, false, 0, 0⟩, false)
  else if x.k = 2 ∨ y.k = 2 then (⟨2, !x.n == y.n, 0, 0⟩, true)
  else if x.k = 0 ∨ y.k = 0 then (⟨0, !x.n == y.n, 0, 0⟩, true)
  else (⟨1, !x.n == y.n, (rcanon x).e + (rcanon y).e, (rcanon x).v * (rcanon y).v⟩, true)
def roundedF (x : Flt) (f p r : Int) : Flt × Int := if x.k ≠ 1 then (rcanon x, 0) else roundP f p r x.n x.v x.e false
def mulR (f p r : Int) (x y : Flt) : Flt × Int := if (prodF x y).2 = false then (⟨3, false, 0, 0⟩, 16) else roundedF (prodF x y).1 f p r
def K4 (x : Flt) : Prop := x.k = 0 ∨ x.k = 1 ∨ x.k = 2 ∨ x.k = 3
/-- A float as it is held: canonical. -/
structure Cf (x : Flt) : Prop where
  k : K4 x
  fix : rcanon x = x
  pos : x.k = 1 → x.v ≠ 0
theorem Cf.of {x : Flt} (h : (canon x).2 = true) : Cf (rcanon x) := by
  refine ⟨?_, rcanon_idem x, fun hk => ?_⟩
  · have := (canon_kind h).1
    unfold K4
    rw [rcanon_k]; exact this
  · rw [rcanon_k] at hk
    have h1 := (canon_one h hk).2.2
    obtain ⟨m, hm⟩ := tz_form (show 0 < x.v by omega)
    have e1 : x.v / 2 ^ tz x.v = 2 * m + 1 := by
      conv => lhs; arg 1; rw [hm]
      exact Nat.mul_div_cancel_left _ (Nat.pow_pos (by decide))
    simp only [rcanon, hk, if_true]
    omega
theorem times_mul {x y : Flt} (hx : Cf x) (hy : Cf y) (f p r : Int) : roundT (timesP x y) f p r = mulR f p r x y := by
  have px := hx.pos
  have py := hy.pos
  unfold roundT mulR timesP prodF roundedF
  rw [hx.fix, hy.fix]
  rcases hx.k with h | h | h | h <;> rcases hy.k with g | g | g | g <;> simp [h, g, rcanon]
  rw [Nu.round, if_neg]
  simp only [Nat.mul_eq_zero, not_or]
  exact ⟨px h, py g⟩
theorem timesP_comm (x y : Flt) : timesP y x = timesP x y := by
  unfold timesP
  rw [show (!y.n == x.n) = (!x.n == y.n) by cases x.n <;> cases y.n <;> rfl, Nat.mul_comm, Int.add_comm y.e]
  simp only [or_comm (a := y.k = 3), or_comm (a := y.k = 2), and_comm (a := y.k = 1), Bool.or_comm (y.k == 0)]
/-- Terms that are put in, one after the other. -/
def dotStep (g : Ga) (t : Bool × Int × Nu) : Ga := ({ g with inv := g.inv || t.1 } : Ga).put t.2.1 t.2.2
def dotG (ts : List (Bool × Int × Nu)) : Ga := ts.foldl dotStep .zero
def tFlt (t : Bool × Int × Nu) : Flt := ⟨t.2.1, t.2.2.n, t.2.2.e, t.2.2.v⟩
theorem put_inv (g : Ga) (b : Bool) (k : Int) (x : Nu) : ({ g with inv := b } : Ga).put k x = { g.put k x with inv := b } := by
  unfold Ga.put
  split
  · rfl
  · split
    · rfl
    · split <;> rfl
theorem put_inv_same (g : Ga) (k : Int) (x : Nu) : (g.put k x).inv = g.inv := by
  unfold Ga.put
  split
  · rfl
  · split
    · rfl
    · split <;> rfl
theorem dotG_is (ts : List (Bool × Int × Nu)) : dotG ts = { gatherP (ts.map tFlt) with inv := ts.any (·.1) } := by
  suffices H : ∀ (ts : List (Bool × Int × Nu)) (g h : Ga) (b : Bool), g = { h with inv := b } → ts.foldl dotStep g = { (ts.map tFlt).foldl (fun g x => g.put x.k ⟨x.n, x.v, x.e⟩) h with inv := b || ts.any (·.1) } by
    have := H ts .zero .zero false rfl
    rw [Bool.false_or] at this
    exact this
  intro ts
  induction ts with
  | nil => intro g h b e; simp [e]
  | cons t ts ih =>
    intro g h b e
    simp only [List.foldl_cons, List.map_cons, List.any_cons]
    rw [ih (dotStep g t) (h.put t.2.1 t.2.2) (b || t.1) (by rw [e]; exact put_inv h _ _ _), Bool.or_assoc]
    rfl
theorem dotG_take {ts : List (Bool × Int × Nu)} {i : Nat} {t : Bool × Int × Nu} (h : ts[i]? = some t) : dotG (ts.take (i + 1)) = dotStep (dotG (ts.take i)) t := by
  unfold dotG
  rw [List.take_add_one, h]; simp
/-- Sums of alike terms are alike. -/
theorem float_like {z : Int} {l m : List Flt} {g g' : Ga} (h : GaIs z l g) (h' : GaIs z m g') (hs : svs z l = svs z m) (hm : ∀ q : Int → Bool → Bool, (l.any fun x => q x.k x.n) = m.any fun x => q x.k x.n) (f p r : Int) : g.float f p r = g'.float f p r := by
  have e1 := hm fun k _ => k == 3
  have e2 := hm fun k n => k == 2 && !n
  have e3 := hm fun k n => k == 2 && n
  have e4 := hm fun _ _ => true
  have e5 := hm fun k n => k == 1 || (k != 2 && k != 3 && !n)
  have e6 := hm fun k n => k == 1 || (k != 2 && k != 3 && n)
  unfold Ga.float
  rw [h.nan, h'.nan, h.inv, h'.inv, h.plus, h'.plus, h.minus, h'.minus, h.seen, h'.seen, h.some_, h'.some_, h.other, h'.other]
  rw [e1, e2, e3, e4, e5, e6, Nu.round_sv h.low h'.low (by rw [h.sum, h'.sum, hs])]
/-- The sum of products and a float. -/
def dotP (f p r : Int) (ts : List (Bool × Int × Nu)) (z : Flt) : Flt × Int := ((dotG ts).put z.k ⟨z.n, z.v, z.e⟩).float f p r
theorem dotP_is (f p r : Int) (ts : List (Bool × Int × Nu)) (z : Flt) : dotP f p r ts z = if ((ts.map tFlt ++ [z]).any fun x => x.k == 3) = false ∧ (ts.any (·.1)) = true then (⟨3, false, 0, 0⟩, 16) else (gatherP (ts.map tFlt ++ [z])).float f p r := by
  have e : gatherP (ts.map tFlt ++ [z]) = (gatherP (ts.map tFlt)).put z.k ⟨z.n, z.v, z.e⟩ := by
    unfold gatherP
    rw [List.foldl_append]; rfl
  have hn : ∀ l : List Flt, (gatherP l).nan = (l.any fun x => x.k == 3) ∧ (gatherP l).inv = false := fun l => by
    suffices H : ∀ i, (gatherP (l.take i)).nan = ((l.take i).any fun x => x.k == 3) ∧ (gatherP (l.take i)).inv = false by have := H l.length; rwa [List.take_length] at this
    intro i
    induction i with
    | zero => exact ⟨rfl, rfl⟩
    | succ i ih =>
      cases hx : l[i]? with
      | none =>
        have hl : l.length ≤ i := List.getElem?_eq_none_iff.1 hx
        rw [List.take_of_length_le (by omega)] at ih ⊢
        exact ih
      | some x =>
        rw [gatherP_take hx, List.take_add_one, hx, put_inv_same]
        refine ⟨?_, ih.2⟩
        rw [List.any_append, ← ih.1]
        unfold Ga.put
        by_cases h3 : x.k = 3
        · simp [h3]
        · rw [if_neg h3]
          have : (x.k == 3) = false := by simp [h3]
          split
          · simp [this]
          · split <;> simp [this]
  unfold dotP
  rw [dotG_is, put_inv, ← e]
  have h1 := hn (ts.map tFlt ++ [z])
  generalize gatherP (ts.map tFlt ++ [z]) = g at *
  unfold Ga.float
  simp only [h1.2, Bool.false_or]
  rw [h1.1]
  cases ((ts.map tFlt ++ [z]).any fun x => x.k == 3) with
  | true => simp
  | false =>
    cases ts.any (·.1) with
    | true => simp
    | false => simp
end Go.Proofs.YtdaecibpkhcllaaGreatDoor

/- Functions whose one result is a row of the caller's. No condition. The reference's Rest: what sums leave, as a float. No condition. A box under another label; a pointer to cells, taken as one, within a region. No condition. Pairs of floats: the rounded sum, and what it drops. No condition. The law SumPairs. No condition. Expansions: the floats that add up to a sum. No condition. The program's Expand. No condition. -/
import Derived.Test.YtdaecibpkhcllaaGreatDoorMd
import Derived.Test.YtdaecibpkhcllaaGreatDoorMk
import Derived.Test.YtdaecibpkhcllaaGreatDoorMg
/- Functions whose one result is a row of the caller's. No condition. -/
namespace Go.Proofs.YtdaecibpkhcllaaGreatDoor
set_option linter.unusedVariables false
set_option linter.unusedSimpArgs false
section
variable {P : Program} {G : Gl} {nt : Nat} {st : St} {cx : Cx} {a : Act} {W W' : World} {m : Nat → Option Nat} {QE : Exit → St → Prop} {ops l : List Oper} {Q : St → Prop}
/-- What a call computes whose one result is a row that its caller alone holds. -/
def DoesQ (P : Program) (G : Gl) (f : FuncId) (args : List PV) (sz : Nat) (rows : List (List Ce)) : Prop :=
  ∀ (W : World) (ok : Nat → Prop) (vals : List Value), (∀ b, ok b → b < W.heap.size) → GlOk G W → All2 (RP (enA W ok)) args vals →
    (callFunc f vals.toArray).run P W = .ok (.enter f vals.toArray) W ∧ Calls P f vals.toArray W (fun e W' => ∃ sv bo, e = .returned sv ∧ RowKit.Below W.heap.size W W' ∧ (∀ b, bo = some b → W.heap.size ≤ b ∧ b < W'.heap.size) ∧
      RC (enO W W' ok bo (.sr sz rows)) (.r 0 rows.length) sv ∧ RO (enO W W' ok bo (.sr sz rows)) 0 (.sr sz rows))
def endOne (sz : Nat) (rows : List (List Ce)) (rs : List ResultVar) (e : Exit) (s : St) : Prop :=
  (e = .ret ∨ e = .normal) ∧ match rs with
    | [.tmp t] => (match lk t s.tm with
      | some (.v (.c (.r j n))) => n = rows.length ∧ lk j s.ob = some (.sr sz rows)
      | _ => False)
    | _ => False
theorem DoesQ.of {f : FuncId} {fn : Func} {c : Code} {args : List PV} {sz : Nat} {rows : List (List Ce)} (hf : P.funcs[f]? = some fn) (hname : (fn.name == "runtime.NumGoroutine") = false) (hb : fn.body = some c) (hnt : fn.ntmps = nt) (hal : args.length ≤ nt)
    (h : Do P G nt c ⟨argTm 0 args, []⟩ (endOne sz rows fn.results.toList)) : DoesQ P G f args sz rows := by
  intro W ok vals hok hgl hargs
  refine ⟨?_, ?_⟩
  · have hn' : fn.name ≠ "runtime.NumGoroutine" := by simpa using hname
    simp [callFunc, hf, hn', hb]
  · refine calls_of_wp hf hb ?_
    refine Code.wp_mono (fun e a' W' ⟨s, hq, m', hs⟩ => ?_) (h _ _ W rfl ⟨_, start_rel hok hgl hargs hal hnt⟩)
    obtain ⟨he, hret⟩ := hq
    split at hret
    case h_2 => exact hret.elim
    rename_i t hrs
    split at hret
    case h_2 => exact hret.elim
    rename_i j n ht
    obtain ⟨rfl, hj⟩ := hret
    obtain ⟨sv, hv, hrt⟩ := hs.tm t _ ht
    have hg : a'.tmps.getD t undef = sv := by simp [hv]
    have hres : (results fn a'.tmps).run P W' = .ok sv W' := by
      have hfun : results fn a'.tmps = (do let vs ← fn.results.mapM (resOf a'.tmps); pure (if h : vs.size = 1 then vs[0] else .tuple vs)) := by
        unfold results
        congr 1
      rw [hfun]
      have h1 : (resOf a'.tmps (.tmp t)).run P W' = .ok sv W' := by simp [resOf, hg]
      simp only [Sem.run_bind, Array.mapM_eq_mapM_toList, Sem.run_map, hrs, List.mapM_cons, List.mapM_nil, h1, Result.andThen_ok, Sem.run_pure]
      simp
    have hbelow : RowKit.Below W.heap.size W W' := ⟨hs.os, hs.tape, hs.output, hs.size, fun k hk => hs.keep k hk id⟩
    have hown : ∀ b, m' j = some b → W.heap.size ≤ b ∧ b < W'.heap.size := fun b hb => by
      obtain ⟨q1, q2⟩ := hs.own j _ b hj hb
      exact ⟨q2.elim id fun e => e.1.elim, q1⟩
    have hle : EnLe (fun _ => False) (en ⟨W.heap.size, W, ok, fun _ => False, nt⟩ m' s.ob W') (enO W W' ok (m' j) (.sr sz rows)) :=
      ⟨fun b ⟨q1, q2, q3⟩ => ⟨⟨q1, q2⟩, q3 j _ hj⟩, fun _ _ => rfl, Nat.le_refl _, fun _ hF => hF.elim⟩
    have hO : ∃ bo, (∀ b, bo = some b → W.heap.size ≤ b ∧ b < W'.heap.size) ∧ RC (enO W W' ok bo (.sr sz rows)) (.r 0 rows.length) sv ∧ RO (enO W W' ok bo (.sr sz rows)) 0 (.sr sz rows) := by
      refine ⟨m' j, hown, ⟨hrt.1, fun o' ho' hle' => ?_⟩, ?_⟩
      · obtain rfl : Ob.sr sz rows = o' := by simpa [enO] using ho'
        obtain ⟨_, k2⟩ := hrt.2 _ hj (Nat.le_refl _)
        exact ⟨rfl, k2⟩
      · rcases hs.ob j _ hj with ⟨y1, y2⟩ | ⟨b', vs, e2, r1, r2, r3⟩
        · exact .inl ⟨y1, y2⟩
        · exact .inr ⟨b', vs, e2, r1, r2, fun i cs hi => let ⟨k1, us', k2, k3⟩ := r3 i cs hi; ⟨k1, us', k2.mono hle, k3⟩⟩
    obtain ⟨bo, k1, k2, k3⟩ := hO
    have hfin : ∃ sv' bo, (Ending.returned sv) = .returned sv' ∧ RowKit.Below W.heap.size W W' ∧ (∀ b, bo = some b → W.heap.size ≤ b ∧ b < W'.heap.size) ∧
      RC (enO W W' ok bo (.sr sz rows)) (.r 0 rows.length) sv' ∧ RO (enO W W' ok bo (.sr sz rows)) 0 (.sr sz rows) :=
      ⟨sv, bo, rfl, hbelow, k1, k2, k3⟩
    rcases he with rfl | rfl
    · exact ⟨hs.df, _, hres, hfin⟩
    · exact ⟨hs.df, _, hres, hfin⟩
/-- A call whose one result is a row of this function's own from here on. -/
theorem DoL.callQ {o : Oper} {f : FuncId} {x : Operand} {az : Array Operand} {ts : Array TypeId} {p : Prop} {args : List PV} {sz : Nat} {rows : List (List Ce)} (md : Bool) (lab lo : Nat) (hg : o.guard = none) (hop : o.op = .call { callee := .value x, args := az, argTypes := ts })
    (hx : opv st.tm x = some (.v (.c (.f f)))) (ha : argsOf st az.toList = some (p, args, false)) (hp : p) (hD : DoesQ P G f args sz rows) (hf : st.free lo = true) (hd : dstOk nt o.dst = true)
    (next : runs P G nt md ops Q lab l ⟨setv o.dst (some (.v (.c (.r lo rows.length)))) st.tm, put lo (.sr sz rows) st.ob⟩) : DoL P G nt ops (o :: l) st Q := by
  intro cx a W hn ⟨m, hr⟩ Q' hQ
  refine wpList_plain hg fun K hK => ?_
  unfold Oper.wp
  have hxv : a.eval x = .func (.func f) #[] #[] := hr.opv hx
  have hargs := argsOf_run hr ha hp false id
  have hok : ∀ b, okC cx m st W false b → b < W.heap.size := by
    rintro b (h | ⟨e, _⟩)
    · exact h.2.1
    · cases e
  have hexec : execOp a.eval o = callFunc f (az.toList.map a.eval).toArray := by
    have e1 : (az.toList.map a.eval).toArray = az.map a.eval := by apply Array.ext'; simp
    unfold execOp
    simp [hop, resolve, hxv, Deferred.ofValue, invoke, e1]
  obtain ⟨h1, h2⟩ := hD W (okC cx m st W false) _ hok hr.glOk hargs
  rw [hexec, h1]
  refine h2.mono ?_
  rintro e W' ⟨sv, bo, rfl, hb, hbo, q1, q2⟩
  have he := enO_en hr hb (lab := lo) (bo := bo) (o := .sr sz rows)
  have hro : RO (en cx (upd m lo bo) (put lo (.sr sz rows) st.ob) W') lo (.sr sz rows) := by
    rcases q2 with ⟨y1, y2⟩ | ⟨b', vs, e2, r1, r2, r3⟩
    · exact .inl ⟨y1, by show upd m lo bo lo = none; rw [upd_self]; exact y2⟩
    · exact .inr ⟨b', vs, e2, by show upd m lo bo lo = _; rw [upd_self]; exact r1, r2, fun i cs hi => let ⟨g1, us', g2, g3⟩ := r3 i cs hi; ⟨g1, us', g2.mono he, g3⟩⟩
  have hr2 := hr.adopt hb hf hbo hro
  have hsv : RC (en cx (upd m lo bo) (put lo (.sr sz rows) st.ob) W') (.r lo rows.length) sv := by
    refine ⟨q1.1, fun o' ho' hle => ?_⟩
    have ho2 : lk lo (put lo (.sr sz rows) st.ob) = some o' := ho'
    rw [lk_put_self] at ho2; injection ho2 with ho2; subst ho2
    obtain ⟨k1, k2⟩ := q1.2 (.sr sz rows) rfl (Nat.le_refl _)
    refine ⟨rfl, ?_⟩
    show (_ ∧ _ ∧ upd m lo bo lo = none) ∨ ∃ b cap e, upd m lo bo lo = some b ∧ _
    rw [upd_self]
    exact k2
  have hput := Rel.put (st := ⟨st.tm, put lo (.sr sz rows) st.ob⟩) hr2 hn hd (x := .v (.c (.r lo rows.length))) (v := sv) hsv
  exact hK _ _ (DoL.run next cx _ _ hn hput Q' hQ)
end
end Go.Proofs.YtdaecibpkhcllaaGreatDoor
/- The reference's Rest: what sums leave, as a float. No condition. -/
namespace Go.Proofs.YtdaecibpkhcllaaGreatDoor
set_option linter.unusedVariables false
set_option linter.unusedSimpArgs false
variable {G : Gl}
set_option maxHeartbeats 4000000
set_option maxRecDepth 10000
theorem canonical17_own {l : List Fla} (hl : l.length < 1099511627776) (ho : ∀ x ∈ l, Rt x) {L : List Flt} (hL : (l.map fun x => rcanon x.flt) = L) : DoesQ Tryz.prog G 51 [Rows l] 4 (L.map Flt.cs) := by
  have hll : L.length = l.length := by rw [← hL]; simp
  have hget : ∀ (i : Nat) (x : Fla), l[i]? = some x → L[i]? = some (rcanon x.flt) := fun i x h => by rw [← hL]; simp [h]
  clear hL
  refine DoesQ.of (nt := 20) Tryz.func51 rfl rfl rfl (by simp) ?_
  simp only [argTm, PV.ext, Ce.ext]
  refine Do.seqk fun _ k1_ => ?_
  refine Do.region [0] true ?_
  simp [go_sem]
  apply k1_; clear k1_
  refine Do.seqk fun _ k2_ => ?_
  refine Do.region [0,3] true ?_
  simp [go_sem]
  apply k2_; clear k2_
  refine Do.seqk fun _ k3_ => ?_
  refine Do.seqk fun _ k4_ => ?_
  refine Do.region [0,3,4] true ?_
  simp [go_sem]
  apply k4_; clear k4_
  refine Do.block ?_
  refine Do.own 3 900 4 rfl rfl (by decide) ?_
  simp [go_sem]
  refine Do.loopF [0,3,4] (fun (i : Nat) => [(3, .v (.c (.r 900 i))), (4, .int .i64 i)]) (fun (i : Nat) => [(900, .sr 4 ((L.map Flt.cs).take i))]) (fun (i : Nat) => i ≤ l.length) (fun (i : Nat) => l.length - i) (0) (fun _ => by first | (simp [go_sem, mixS]; done) | (simp [go_sem, mixS]; rfl)) (St.le_of (by first | rfl | simp [keep]) (by first | rfl | simp [keep])) (Nat.zero_le _) ?_
  intro i hi
  refine Do.seqk fun _ k5_ => ?_
  refine Do.seqk fun _ k6_ => ?_
  refine Do.region [0,3,4,8] true ?_
  simp [go_sem]
  repeat (refine And.intro (by first | omega | (intros; omega) | (intros; exact And.intro (by assumption) (by omega)) | grind) ?_)
  apply k6_; clear k6_
  refine Do.cond [0,3,4] rfl (fun h2 => ?_) (fun h2 => ?_) <;> simp [go_sem] at h2 ⊢
  · obtain ⟨x, hx⟩ : ∃ x, l[i]? = some x := ⟨_, List.getElem?_eq_getElem h2⟩
    have hmin : min i L.length = i := by omega
    have hg := hget i x hx
    have hxo := ho x (List.mem_of_getElem? hx)
    have hC : Does Tryz.prog G 55 [Fl x.k x.n x.e x.m] (.v (rcanon x.flt).pv) := @Canonical_does G x.k x.e x.n x.m (by have := hxo.len; omega) hxo.ws hxo.md
    refine Do.skip ?_
    simp [go_sem]
    apply k5_; clear k5_
    refine Do.seqk fun _ k7_ => ?_
    refine Do.block ?_
    refine Do.region [0,3,4] true ?_
    simp [go_sem, hx, hmin]
    repeat (refine And.intro (by first | omega | (intros; omega) | (intros; exact And.intro (by assumption) (by omega)) | grind) ?_)
    refine DoL.call true 506 rfl rfl rfl rfl (by first | exact trivial | omega | (simp; done) | (simp; omega)) (hC) rfl (by first | exact .inl rfl | exact .inr rfl) rfl ?_
    simp [go_sem, hx, hmin]
    repeat (refine And.intro (by first | omega | (intros; omega) | (intros; exact And.intro (by assumption) (by omega)) | grind) ?_)
    apply k7_; clear k7_
    refine Do.region [0,3,4] true ?_
    simp [go_sem, hx, hmin]
    repeat (refine And.intro (by first | omega | (intros; omega) | (intros; exact And.intro (by assumption) (by omega)) | grind) ?_)
    refine ⟨i + 1, St.le_of rfl (by simp [keep, List.take_add_one, hg]), by omega, by simp; omega⟩
  · refine Do.exit ?_
    simp [go_sem]
    apply k3_; clear k3_
    refine Do.seqk fun _ k8_ => ?_
    refine Do.region [2] true ?_
    simp [go_sem]
    apply k8_; clear k8_
    refine Do.ret ?_
    simp [endOne, rets, ret1, go_sem]
    repeat (refine And.intro (by first | omega | (intros; omega) | (intros; exact And.intro (by assumption) (by omega)) | grind) ?_)
    have e : i = l.length := by omega
    rw [List.take_of_length_le (by simp; omega)]
theorem lows_ge {l : List Flt} {z : Int} (hz : z ≤ 0) (h : ∀ x ∈ l, x.k = 1 → z ≤ x.e) : z ≤ (lows l).1 := by
  suffices H : ∀ i, z ≤ (lows (l.take i)).1 by have := H l.length; rwa [List.take_length] at this
  intro i
  induction i with
  | zero => simpa [lows] using hz
  | succ i ih =>
    cases hx : l[i]? with
    | none =>
      have hl : l.length ≤ i := List.getElem?_eq_none_iff.1 hx
      rw [List.take_of_length_le (by omega)] at ih ⊢
      exact ih
    | some x =>
      rw [lows_take hx]
      have := h x (List.mem_of_getElem? hx)
      generalize lows (l.take i) = a at *
      unfold lowStep
      split
      · rename_i hc; exact this hc.1
      · exact ih
theorem restP_low {z z' : Int} (hz : z' ≤ z) (S : Int) : restP z' (S * 2 ^ (z - z').toNat) = restP z S := by
  have hp : 0 < 2 ^ (z - z').toNat := Nat.pow_pos (by decide)
  have e2 : (2 : Int) ^ (z - z').toNat = ((2 ^ (z - z').toNat : Nat) : Int) := by simp
  unfold restP
  by_cases hS : S = 0
  · subst hS; simp
  · have h0 : S * 2 ^ (z - z').toNat ≠ 0 := by
      intro h
      rcases Int.mul_eq_zero.1 h with h | h
      · exact hS h
      · rw [e2] at h; omega
    rw [if_neg h0, if_neg hS]
    have ha : (S * 2 ^ (z - z').toNat).natAbs = S.natAbs * 2 ^ (z - z').toNat := by rw [e2, Int.natAbs_mul, Int.natAbs_natCast]
    have hs : decide (S * 2 ^ (z - z').toNat < 0) = decide (S < 0) := by
      rw [decide_eq_decide]
      constructor
      · intro h
        apply Classical.byContradiction
        intro hn
        have := Int.mul_nonneg (show 0 ≤ S by omega) (show (0 : Int) ≤ 2 ^ (z - z').toNat by rw [e2]; omega)
        omega
      · intro h
        exact Int.mul_neg_of_neg_of_pos h (by rw [e2]; omega)
    rw [ha, hs, ← rcanon_scale (decide (S < 0)) (show 0 < S.natAbs by omega) z (z - z').toNat, show z - ((z - z').toNat : Int) = z' by omega]
theorem Tame.rest {A B : List Flt} (ha : Tame A) (hb : Tame B) (hl : A.length + B.length < 1099511627776) : Tame (A ++ B.map Flt.neg) := by
  refine ⟨by simpa using hl, fun x hx hk => ?_⟩
  rcases List.mem_append.1 hx with hx | hx
  · exact ha.2 x hx hk
  · obtain ⟨y, hy, rfl⟩ := List.mem_map.1 hx
    exact hb.2 y hy hk
theorem Rest_new {l o : List Fla} (hl : l.length + o.length < 1099511627776) (h : ∀ x ∈ l, Rt x) (h' : ∀ x ∈ o, Rt x) {A B : List Flt} (hA : (l.map fun x => rcanon x.flt) = A) (hB : (o.map fun x => rcanon x.flt) = B) {z : Int} (hz : z ≤ 0) (hz' : ∀ x ∈ A ++ B.map Flt.neg, x.k = 1 → z ≤ x.e) : Does Tryz.prog G 64 [Rows l, Rows o] (.v (restP z (svs z (A ++ B.map Flt.neg))).pw) := by
  have hC := @canonical17_own G l (by omega) h A hA
  have hla : A.length = l.length := by rw [← hA]; simp
  have hlb : B.length = o.length := by rw [← hB]; simp
  have hget : ∀ (i : Nat) (x : Fla), o[i]? = some x → (A ++ B.map Flt.neg)[l.length + i]? = some (rcanon x.flt).neg := fun i x hx => by
    rw [List.getElem?_append_right (by omega), ← hB, hla]; simp [hx]
  have hAt : A = (A ++ B.map Flt.neg).take l.length := by rw [← hla]; simp
  have hll : (A ++ B.map Flt.neg).length = l.length + o.length := by simp [hla, hlb]
  have ht : Tame (A ++ B.map Flt.neg) := Tame.rest (hA ▸ (Rt.tame (by omega) h).1) (hB ▸ (Rt.tame (by omega) h').1) (by omega)
  clear hA hB
  rw [hAt] at hC
  generalize A ++ B.map Flt.neg = L at *
  have hzl := lows_ge hz hz'
  have hle := @lows_le L L.length
  rw [List.take_length] at hle
  have hsv := svs_low hzl (l := L) fun x hx hk => (hle x hx hk).2
  rw [hsv, restP_low hzl]
  have hE := @Exactly_does G L ht
  have hin := @lows_in L 1048576 (by omega) (fun x hx hk => ⟨(ht.2 x hx hk).1, (ht.2 x hx hk).2.1⟩) L.length
  rw [List.take_length] at hin
  have hsm := ht.sum hin.1 (fun x hx hk => (hle x hx hk).2) L.length
  rw [List.take_length] at hsm
  have hI := @ISign_does G (decide (svs (lows L).1 L < 0)) (nat (svs (lows L).1 L).natAbs) (by have := len_bl hsm; omega) (nat_ws _)
  rw [val_nat, sgn_of] at hI
  have hK := @Canonical_new G 1 (lows L).1 (decide (svs (lows L).1 L < 0)) (nat (svs (lows L).1 L).natAbs) (by have := len_bl hsm; omega) (nat_ws _) (by constructor <;> omega)
  rw [val_nat] at hK
  have hr : restP (lows L).1 (svs (lows L).1 L) = if svs (lows L).1 L = 0 then ⟨0, false, 0, 0⟩ else rcanon ⟨1, decide (svs (lows L).1 L < 0), (lows L).1, (svs (lows L).1 L).natAbs⟩ := rfl
  generalize restP (lows L).1 (svs (lows L).1 L) = z at *
  clear hsv hzl hle
  generalize svs (lows L).1 L = S at *
  generalize (lows L).1 = w at *
  refine Does.of (nt := 41) Tryz.func64 rfl rfl rfl (by simp) ?_
  simp only [argTm, PV.ext, Ce.ext]
  refine Do.seqk fun _ k1_ => ?_
  refine Do.region [0,1,4] true ?_
  simp [go_sem]
  apply k1_; clear k1_
  refine Do.seqk fun _ k2_ => ?_
  refine Do.region [1,4,5] true ?_
  simp [go_sem]
  refine DoL.callQ true 102 3000 rfl rfl rfl rfl (by first | exact trivial | omega | (simp; done) | (simp; omega)) (hC) rfl rfl ?_
  simp [go_sem]
  apply k2_; clear k2_
  refine Do.seqk fun _ k3_ => ?_
  refine Do.seqk fun _ k4_ => ?_
  refine Do.region [1,4,5,6] true ?_
  simp [go_sem]
  apply k4_; clear k4_
  refine Do.block ?_
  refine Do.loopF [1,4,5,6] (fun (i : Nat) => [(5, .v (.c (.r 3000 (l.length + i)))), (6, .int .i64 i)]) (fun (i : Nat) => [(3000, .sr 4 ((L.map Flt.cs).take (l.length + i)))]) (fun (i : Nat) => i ≤ o.length) (fun (i : Nat) => o.length - i) (0) (fun _ => by first | (simp [go_sem, mixS]; done) | (simp [go_sem, mixS]; rfl)) (St.le_of (by simp [keep, hll]) (by simp [keep])) (Nat.zero_le _) ?_
  intro i hi
  refine Do.seqk fun _ k5_ => ?_
  refine Do.seqk fun _ k6_ => ?_
  refine Do.region [1,4,5,6,14] true ?_
  simp [go_sem]
  repeat (refine And.intro (by first | omega | (intros; omega) | (intros; exact And.intro (by assumption) (by omega)) | grind) ?_)
  apply k6_; clear k6_
  refine Do.cond [1,4,5,6] rfl (fun h2 => ?_) (fun h2 => ?_) <;> simp [go_sem] at h2 ⊢
  · obtain ⟨x, hx⟩ : ∃ x, o[i]? = some x := ⟨_, List.getElem?_eq_getElem h2⟩
    have hmin : min (l.length + i) L.length = l.length + i := by omega
    have hg := hget i x hx
    have hxo := h' x (List.mem_of_getElem? hx)
    have hM : Does Tryz.prog G 19 [Fl x.k x.n x.e x.m] (.v (rcanon x.flt).neg.pv) := (@RMinus_does G x.k x.e x.n x.m (by have := hxo.len; omega) hxo.ws hxo.md).mono (TLe.v (Flt.pw_le _))
    refine Do.skip ?_
    simp [go_sem]
    apply k5_; clear k5_
    refine Do.seqk fun _ k7_ => ?_
    refine Do.block ?_
    refine Do.region [1,4,5,6] true ?_
    simp [go_sem, hx, hmin]
    repeat (refine And.intro (by first | omega | (intros; omega) | (intros; exact And.intro (by assumption) (by omega)) | grind) ?_)
    refine DoL.call true 506 rfl rfl rfl rfl (by first | exact trivial | omega | (simp; done) | (simp; omega)) (hM) rfl (by first | exact .inl rfl | exact .inr rfl) rfl ?_
    simp [go_sem, hx, hmin]
    repeat (refine And.intro (by first | omega | (intros; omega) | (intros; exact And.intro (by assumption) (by omega)) | grind) ?_)
    apply k7_; clear k7_
    refine Do.region [1,4,5,6] true ?_
    simp [go_sem, hx, hmin]
    repeat (refine And.intro (by first | omega | (intros; omega) | (intros; exact And.intro (by assumption) (by omega)) | grind) ?_)
    refine ⟨i + 1, St.le_of (by simp [keep, ← Nat.add_assoc]) (by simp [keep, ← Nat.add_assoc, List.take_add_one, hg]), by omega, by simp; omega⟩
  · obtain rfl : i = o.length := by omega
    rw [List.take_of_length_le (show (L.map Flt.cs).length ≤ l.length + o.length by simp; omega)]
    refine Do.exit ?_
    simp [go_sem]
    apply k3_; clear k3_
    refine Do.seqk fun _ k8_ => ?_
    refine Do.region [4,7,8] true ?_
    simp [go_sem]
    refine DoL.sealS true 601 3000 rfl ?_
    simp [go_sem, hll]
    refine DoL.call true 602 rfl rfl rfl rfl (by first | exact trivial | omega | (simp; done) | (simp; omega)) (hE) rfl (by first | exact .inl rfl | exact .inr rfl) rfl ?_
    simp [go_sem]
    repeat (refine And.intro (by first | omega | (intros; omega) | (intros; exact And.intro (by assumption) (by omega)) | grind) ?_)
    apply k8_; clear k8_
    refine Do.seqk fun _ k9_ => ?_
    refine Do.seqk fun _ k10_ => ?_
    refine Do.region [4,7,8,32] true ?_
    simp [go_sem]
    repeat (refine And.intro (by first | omega | (intros; omega) | (intros; exact And.intro (by assumption) (by omega)) | grind) ?_)
    refine DoL.call true 702 rfl rfl rfl rfl (by first | exact trivial | omega | (simp; done) | (simp; omega)) (hI) rfl (by first | exact .inl rfl | exact .inr rfl) rfl ?_
    simp [go_sem]
    apply k10_; clear k10_
    refine Do.cond [4,7,8] rfl (fun h4 => ?_) (fun h4 => ?_) <;> simp [go_sem] at h4 ⊢
    · refine Do.seqk fun _ k11_ => ?_
      refine Do.region [4] true ?_
      simp [go_sem]
      repeat (refine And.intro (by first | omega | (intros; omega) | (intros; exact And.intro (by assumption) (by omega)) | grind) ?_)
      apply k11_; clear k11_
      refine Do.ret ?_
      simp [endQ, rets, ret1, go_sem]
      repeat (refine And.intro (by first | omega | (intros; omega) | (intros; exact And.intro (by assumption) (by omega)) | grind) ?_)
      rw [hr, if_pos (by omega)]
      exact TLe.v (PLe.flw (ret_zw rfl))
    · refine Do.skip ?_
      simp [go_sem]
      apply k9_; clear k9_
      refine Do.seqk fun _ k12_ => ?_
      refine Do.region [4] true ?_
      simp [go_sem]
      repeat (refine And.intro (by first | omega | (intros; omega) | (intros; exact And.intro (by assumption) (by omega)) | grind) ?_)
      refine DoL.call true 907 rfl rfl rfl rfl (by first | exact trivial | omega | (simp; done) | (simp; omega)) (hK) rfl (by first | exact .inl rfl | exact .inr rfl) rfl ?_
      simp [go_sem]
      repeat (refine And.intro (by first | omega | (intros; omega) | (intros; exact And.intro (by assumption) (by omega)) | grind) ?_)
      apply k12_; clear k12_
      refine Do.ret ?_
      simp [endQ, rets, ret1, go_sem]
      repeat (refine And.intro (by first | omega | (intros; omega) | (intros; exact And.intro (by assumption) (by omega)) | grind) ?_)
      rw [hr, if_neg (by omega)]
      exact TLe.refl _
end Go.Proofs.YtdaecibpkhcllaaGreatDoor
/- A box under another label; a pointer to cells, taken as one, within a region. No condition. -/
namespace Go.Proofs.YtdaecibpkhcllaaGreatDoor
set_option linter.unusedVariables false
set_option linter.unusedSimpArgs false
section
variable {P : Program} {G : Gl} {nt : Nat} {st : St} {cx : Cx} {a : Act} {W W' : World} {m : Nat → Option Nat} {QE : Exit → St → Prop} {ops l : List Oper} {Q : St → Prop}
theorem lk_all {α : Type} {p : Nat × α → Bool} {j : Nat} {x : α} : ∀ {l : List (Nat × α)}, l.all p = true → lk j l = some x → p (j, x) = true
  | [], _, h => by simp [lk] at h
  | (k, y) :: r, ha, h => by
    simp only [List.all_cons, Bool.and_eq_true] at ha
    simp only [lk] at h
    split at h
    · rename_i e; injection h with h; subst h; subst e; exact ha.1
    · exact lk_all ha.2 h
/-- A box under another label. -/
theorem RelM.rename (h : RelM G cx m st a W) {la lb t : Nat} {cs : List Ce} (ht : lk t st.tm = some (.v (.c (.p la 0)))) (ha : lk la st.ob = some (.box cs)) (hf : st.free lb = true) (h1 : ((del t st.tm).all fun x => !x.2.labs.contains la) = true) (h2 : (st.ob.all fun x => !x.2.labs.contains la) = true) (hp : la ≠ 7777777) :
    RelM G cx (upd m lb (m la)) ⟨put t (.v (.c (.p lb 0))) st.tm, put lb (.box cs) (del la st.ob)⟩ a W := by
  obtain ⟨f1, f2, f3⟩ := St.free_spec hf
  have hlb : lk lb st.ob = none := f2
  have hne : la ≠ lb := fun e => by rw [e, hlb] at ha; cases ha
  have hd : ∀ k o, lk k (put lb (.box cs) (del la st.ob)) = some o → (k = lb ∧ o = .box cs) ∨ (k ≠ lb ∧ k ≠ la ∧ lk k st.ob = some o) := fun k o hk => by
    rw [lk_put] at hk
    split at hk
    · rename_i e; injection hk with hk; exact .inl ⟨e, hk.symm⟩
    · rename_i e
      rw [lk_del] at hk
      split at hk
      · cases hk
      · rename_i e2; exact .inr ⟨e, e2, hk⟩
  have he : EnLe (fun j => j ≠ la ∧ j ≠ lb) (en cx m st.ob W) (en cx (upd m lb (m la)) (put lb (.box cs) (del la st.ob)) W) := by
    refine ⟨fun b ⟨g1, g2, g3⟩ => ⟨g1, g2, fun j o hj => ?_⟩, fun _ _ => rfl, Nat.le_refl _, fun j hj o' ho' => ?_⟩
    · rcases hd j o hj with ⟨rfl, rfl⟩ | ⟨k1, k2, k3⟩
      · rw [upd_self]; exact g3 la _ ha
      · rw [upd_ne _ _ k1]; exact g3 j o k3
    · rcases hd j o' ho' with ⟨e, _⟩ | ⟨k1, k2, k3⟩
      · exact absurd e hj.2
      · exact ⟨o', k3, rfl, rfl, Nat.le_refl _, fun _ => ⟨upd_ne _ _ k1, fun _ _ => rfl⟩⟩
  have hlab : ∀ j o, lk j st.ob = some o → ∀ k ∈ o.labs, k ≠ la ∧ k ≠ lb := fun j o hj k hk => by
    refine ⟨fun e => ?_, fun e => f3 j o hj (e ▸ hk)⟩
    have := lk_all h2 hj
    subst e
    simp at this; exact this hk
  have hro := h.ob la _ ha
  refine { h with tm := fun s x hx => ?_, ob := fun j o hj => ?_, inj := fun j j' o o' b g1 g2 g3 g4 => ?_, own := fun j o b g1 g2 => ?_, pin := fun o ho => ?_ }
  · rw [lk_put] at hx
    split at hx
    · rename_i e
      injection hx with hx; subst hx; subst e
      obtain ⟨v, hv, q1, q2⟩ := h.tm _ _ ht
      refine ⟨v, hv, q1, fun cs' hcs' => ?_⟩
      obtain ⟨b, q3, q4⟩ := q2 cs ha
      exact ⟨b, by show upd m lb (m la) lb = some b; rw [upd_self]; exact q3, q4⟩
    · rename_i e
      obtain ⟨v, hv, hr⟩ := h.tm s x hx
      refine ⟨v, hv, RT.mono he (fun j hj => ⟨fun e2 => ?_, fun e2 => f1 s x hx (e2 ▸ hj)⟩) hr⟩
      have hx2 : lk s (del t st.tm) = some x := by rw [lk_del, if_neg e]; exact hx
      have := lk_all h1 hx2
      subst e2
      simp at this; exact this hj
  · rcases hd j o hj with ⟨rfl, rfl⟩ | ⟨k1, k2, k3⟩
    · obtain ⟨b, vs, e, q1, q2, q3⟩ := hro
      refine ⟨b, vs, e, by show upd m j (m la) j = some b; rw [upd_self]; exact q1, q2, q3.mono' fun c hc v hv => RC.mono he (fun k hk => hlab la _ ha k ?_) hv⟩
      exact List.mem_flatMap.2 ⟨c, hc, hk⟩
    · exact RO.mono he (hlab j o k3) (upd_ne _ _ k1) (fun _ _ => rfl) (h.ob j o k3)
  · rcases hd j o g1 with ⟨rfl, rfl⟩ | ⟨k1, k2, k3⟩ <;> rcases hd j' o' g2 with ⟨rfl, rfl⟩ | ⟨u1, u2, u3⟩
    · rfl
    · rw [upd_self] at g3; rw [upd_ne _ _ u1] at g4
      exact absurd (h.inj la j' _ _ b ha u3 g3 g4) (Ne.symm u2)
    · rw [upd_self] at g4; rw [upd_ne _ _ k1] at g3
      exact absurd (h.inj j la _ _ b k3 ha g3 g4) k2
    · rw [upd_ne _ _ k1] at g3; rw [upd_ne _ _ u1] at g4
      exact h.inj j j' o o' b k3 u3 g3 g4
  · rcases hd j o g1 with ⟨rfl, rfl⟩ | ⟨k1, k2, k3⟩
    · rw [upd_self] at g2; exact h.own la _ b ha g2
    · rw [upd_ne _ _ k1] at g2; exact h.own j o b k3 g2
  · rcases hd _ o ho with ⟨e, _⟩ | ⟨k1, k2, k3⟩
    · exact absurd e.symm (St.free_pin hf)
    · obtain ⟨g1, b, g2, g3, g4⟩ := h.pin o k3
      exact ⟨g1, b, by rw [upd_ne _ _ k1]; exact g2, g3, g4⟩
theorem Do.rename {c : Code} (la lb t : Nat) {cs : List Ce} (ht : lk t st.tm = some (.v (.c (.p la 0)))) (ha : lk la st.ob = some (.box cs)) (hf : st.free lb = true) (h1 : ((del t st.tm).all fun x => !x.2.labs.contains la) = true) (h2 : (st.ob.all fun x => !x.2.labs.contains la) = true) (hp : la ≠ 7777777) (h : Do P G nt c ⟨put t (.v (.c (.p lb 0))) st.tm, put lb (.box cs) (del la st.ob)⟩ QE) : Do P G nt c st QE :=
  fun cx a W hn ⟨_, hr⟩ => h cx a W hn ⟨_, hr.rename ht ha hf h1 h2 hp⟩
/-- An object that nobody asks for any more. -/
theorem Do.drop {c : Code} (la : Nat) (h : Do P G nt c ⟨st.tm, del la st.ob⟩ QE) : Do P G nt c st QE :=
  fun cx a W hn ⟨m, hr⟩ => h cx a W hn ⟨m, hr.fewer (del la st.ob) fun j o hj => by
    rw [lk_del] at hj
    split at hj
    · cases hj
    · exact hj⟩
/-- A pointer to cells, taken as one. -/
theorem DoL.turn (md : Bool) (lab t : Nat) {cs : List Ce} (ht : lk t st.tm = some (.v (.c (.x (PtrSx cs))))) (h : runs P G nt md ops Q lab l ⟨put t (.e cs) st.tm, st.ob⟩) : DoL P G nt ops l st Q := by
  intro cx a W hn ⟨m, hr⟩
  refine DoL.run h cx a W hn ⟨m, { hr with tm := fun s x hx => ?_ }⟩
  rcases lk_le_put s x st.tm hx with ⟨rfl, rfl⟩ | ⟨_, hx⟩
  · obtain ⟨v, hv, ad, h1, h2, vs, h3, h4⟩ := hr.tm _ _ ht
    exact ⟨v, hv, ad, h1, h2, vs, RCs.same (E := enA W (okOf cx m st.ob W)) (E' := en cx m st.ob W) (fun _ h => h) rfl h3, h4⟩
  · exact hr.tm s x hx
end
end Go.Proofs.YtdaecibpkhcllaaGreatDoor
/- Pairs of floats: the rounded sum, and what it drops. No condition. -/
namespace Go.Proofs.YtdaecibpkhcllaaGreatDoor
set_option linter.unusedVariables false
set_option linter.unusedSimpArgs false
set_option maxHeartbeats 4000000
set_option maxRecDepth 10000
theorem tiny_le {f p : Int} (hf : fmOk f p = true) : tiny f p ≤ 0 ∧ -100000 ≤ tiny f p := by
  obtain ⟨b1, b2, b3, b4⟩ := fmOk_spec hf
  obtain ⟨b5, b6⟩ := gOfE_le b1 b2
  show 1 - gOfE f - (p - 1) ≤ 0 ∧ -100000 ≤ 1 - gOfE f - (p - 1)
  omega
theorem sv_abs (z D : Int) : Nu.sv z ⟨decide (D < 0), D.natAbs, z⟩ = D := by
  unfold Nu.sv
  simp only [Int.sub_self, Int.toNat_zero, Nat.pow_zero, Nat.mul_one]
  split <;> rename_i h <;> simp at h <;> omega
/-- What a step of rounding leaves. -/
theorem round_step {f p : Int} (hf : fmOk f p = true) {R : Int} (hR : R ≠ 0) (hk : (roundP f p 0 (decide (R < 0)) R.natAbs (tiny f p) false).1.k ≠ 2) : ∃ q j : Nat, Near f p (tiny f p) R.natAbs q j ∧ (roundP f p 0 (decide (R < 0)) R.natAbs (tiny f p) false).1 = mkP (decide (R < 0)) q (tiny f p + j) ∧ fv (tiny f p) (roundP f p 0 (decide (R < 0)) R.natAbs (tiny f p) false).1 = sgn (decide (R < 0)) (q * 2 ^ j) := by
  obtain ⟨q, j, h1, h2, h3, h4, h5⟩ := roundP_near hf (Int.le_refl _) (show 0 < R.natAbs by omega) hk
  exact ⟨q, j, ⟨h1, h2, h3, h4⟩, h5, by rw [h5]; exact mkP_fv⟩
theorem float_number {f p : Int} (hf : fmOk f p = true) {L : List Flt} (hL : ∀ x ∈ L, x.k = 1 → tiny f p ≤ x.e) (hk : ((gatherP L).float f p 0).1.k = 0 ∨ ((gatherP L).float f p 0).1.k = 1) : (∀ x ∈ L, x.k ≠ 2 ∧ x.k ≠ 3) ∧ (svs (tiny f p) L = 0 → ∃ n, ((gatherP L).float f p 0).1 = ⟨0, n, 0, 0⟩) ∧ (svs (tiny f p) L ≠ 0 → ((gatherP L).float f p 0).1 = (roundP f p 0 (decide (svs (tiny f p) L < 0)) (svs (tiny f p) L).natAbs (tiny f p) false).1) := by
  have hG := gather_is (tiny_le hf).1 hL
  have hr := fun q => Nu.round_sv hG.low (b := ⟨decide (svs (tiny f p) L < 0), (svs (tiny f p) L).natAbs, tiny f p⟩) (Int.le_refl _) (by rw [hG.sum, sv_abs]) f p 0 q
  unfold Ga.float at hk ⊢
  have hn := hG.nan
  have hp := hG.plus
  have hm := hG.minus
  cases h3 : (gatherP L).nan with
  | true => rw [h3] at hk; simp at hk
  | false =>
    cases h2 : (gatherP L).plus with
    | true =>
      exfalso
      rw [h3, h2, hG.inv] at hk
      cases h1 : (gatherP L).minus with
      | true => rw [h1] at hk; simp at hk
      | false => rw [h1] at hk; simp at hk
    | false =>
      cases h1 : (gatherP L).minus with
      | true => rw [h3, h2, h1, hG.inv] at hk; simp at hk
      | false =>
        rw [h3] at hn
        rw [h2] at hp
        rw [h1] at hm
        refine ⟨fun x hx => ⟨fun e => ?_, fun e => ?_⟩, fun hS => ?_, fun hS => ?_⟩
        · have q1 := List.any_eq_false.1 hp.symm x hx
          have q2 := List.any_eq_false.1 hm.symm x hx
          simp [e] at q1 q2
          rw [q1] at q2; cases q2
        · have q1 := List.any_eq_false.1 hn.symm x hx
          simp [e] at q1
        · simp only [hG.inv, Bool.or_self, Bool.false_and, Bool.false_eq_true, if_false, hr]
          exact ⟨_, by rw [Nu.round, if_pos (by simp only []; omega)]⟩
        · simp only [hG.inv, Bool.or_self, Bool.false_and, Bool.false_eq_true, if_false, hr]
          rw [Nu.round, if_neg (by simp only []; omega)]
/-- A canonical float that is a number. -/
def Numb (x : Flt) : Prop := x.k = 1 ∨ (x.k = 0 ∧ x.e = 0 ∧ x.v = 0)
theorem Numb.sv {x : Flt} (h : Numb x) (z : Int) : Nu.sv z ⟨x.n, x.v, x.e⟩ = fv z x := by
  unfold fv
  rcases h with h | ⟨h1, h2, h3⟩
  · rw [if_pos h]
  · rw [if_neg (by omega), h3]; simp [Nu.sv]
theorem Numb.neg_sv {x : Flt} (h : Numb x) (z : Int) : Nu.sv z ⟨!x.n, x.v, x.e⟩ = -fv z x := by
  rw [← h.sv]; unfold Nu.sv; cases x.n <;> simp
theorem rcanon_numb {x : Flt} (h : rcanon x = x) (hk : x.k = 0 ∨ x.k = 1) : Numb x := by
  rcases hk with hk | hk
  · right
    unfold rcanon at h
    rw [if_neg (by omega)] at h
    exact ⟨hk, by rw [← h], by rw [← h]⟩
  · exact .inl hk
/-- What is left of two floats. -/
def leftP (f p : Int) (a b s : Flt) : Int := fv (tiny f p) a + fv (tiny f p) b - fv (tiny f p) s
theorem left_svs (f p : Int) (a b s : Flt) : svs (tiny f p) ([a, b] ++ [s].map Flt.neg) = leftP f p a b s := by
  rw [svs_fv]
  simp only [List.cons_append, List.nil_append, List.map_cons, List.map_nil, List.sum_cons, List.sum_nil, fv_neg, leftP]
  omega
theorem pair_left {f p : Int} (hf : fmOk f p = true) {a b : Flt} (ha : ∃ w k, OfF f p (tiny f p) (fv (tiny f p) a) w k) (hb : ∃ w k, OfF f p (tiny f p) (fv (tiny f p) b) w k) (hL : ∀ x ∈ [a, b], x.k = 1 → tiny f p ≤ x.e) (hk : ((gatherP [a, b]).float f p 0).1.k = 0 ∨ ((gatherP [a, b]).float f p 0).1.k = 1) : ∃ d k, OfF f p (tiny f p) (leftP f p a b ((gatherP [a, b]).float f p 0).1) d k := by
  obtain ⟨b1, b2, b3, b4⟩ := fmOk_spec hf
  obtain ⟨b5, b6⟩ := gOfE_le b1 b2
  obtain ⟨h1, h2, h3⟩ := float_number hf hL hk
  have hS : svs (tiny f p) [a, b] = fv (tiny f p) a + fv (tiny f p) b := by rw [svs_fv]; simp
  rw [hS] at h2 h3
  obtain ⟨wa, ka, oa⟩ := ha
  obtain ⟨wb, kb, ob⟩ := hb
  have htn : tiny f p = 1 - gOfE f - (p - 1) := rfl
  unfold leftP
  by_cases h0 : fv (tiny f p) a + fv (tiny f p) b = 0
  · obtain ⟨n, e⟩ := h2 h0
    rw [e, h0]
    exact ⟨0, tiny f p, Int.le_refl _, by rw [bl_zero]; omega, by rw [bl_zero]; omega, by simp [fv]⟩
  · have e := h3 h0
    rw [e] at hk ⊢
    obtain ⟨q, j, hn, hm, hv⟩ := round_step hf h0 (by omega)
    rw [hv]
    exact err_two b3 (Int.le_refl _) oa ob (by rw [sgn_of]) hn
theorem restP_round {f p z : Int} (hf : fmOk f p = true) (hz : z ≤ tiny f p) {D : Int} (h : ∃ d k, OfF f p z D d k) {y : Nu} (hy : z ≤ y.e) (hs : y.sv z = D) : y.round f p 0 false = (restP z D, 0) := by
  obtain ⟨d, k, h⟩ := h
  rw [← round_exact hf hz h]
  exact Nu.round_sv hy (Int.le_refl _) (by rw [sv_abs, hs]) f p 0 false
theorem restP_fine {f p z : Int} (hf : fmOk f p = true) (hz : z ≤ tiny f p) {D : Int} (h : ∃ d k, OfF f p z D d k) : Fine (restP z D) := by
  obtain ⟨d, k, h⟩ := h
  have e := round_exact (r := 0) hf hz h
  unfold Nu.round at e
  split at e
  · rw [← (Prod.mk.inj e).1]; exact fine_zero
  · have := @roundP_fine f p 0 hf (decide (D < 0)) D.natAbs z false
    rw [e] at this
    exact this
theorem restP_fix (z D : Int) : rcanon (restP z D) = restP z D := by
  unfold restP
  split
  · rfl
  · exact rcanon_idem _
theorem exact_does {f p : Int} (hf : fmOk f p = true) {y : Nu} (hy : y.Ok) : Does Tryz.prog Gv 60 [Fm f p, y.pv] (.t [(y.round f p 0 false).1.pv, .c (.b ((y.round f p 0 false).2 == 0))]) := by
  have h := @NFloat_does f p 0 hf (by decide) (by decide) y false hy
  obtain ⟨n, v, e⟩ := y
  generalize Nu.round ⟨n, v, e⟩ f p 0 false = r at *
  refine Does.of (nt := 17) Tryz.func60 rfl rfl rfl (by simp) ?_
  simp only [argTm, PV.ext, Ce.ext]
  refine Do.seqk fun _ k1_ => ?_
  refine Do.region [2,3,4] true ?_
  simp [go_sem]
  apply k1_; clear k1_
  refine Do.seqk fun _ k2_ => ?_
  refine Do.region [4,6,7] true ?_
  simp [go_sem]
  repeat (refine And.intro (by first | omega | (intros; omega) | (intros; exact And.intro (by assumption) (by omega)) | grind) ?_)
  refine DoL.call true 103 rfl rfl rfl rfl (by first | exact trivial | omega | (simp; done) | (simp; omega)) (h) rfl (by first | exact .inl rfl | exact .inr rfl) rfl ?_
  simp [go_sem]
  repeat (refine And.intro (by first | omega | (intros; omega) | (intros; exact And.intro (by assumption) (by omega)) | grind) ?_)
  apply k2_; clear k2_
  refine Do.seqk fun _ k3_ => ?_
  refine Do.region [4,5] true ?_
  simp [go_sem]
  repeat (refine And.intro (by first | omega | (intros; omega) | (intros; exact And.intro (by assumption) (by omega)) | grind) ?_)
  apply k3_; clear k3_
  refine Do.ret ?_
  simp [endQ, rets, ret1, go_sem]
  repeat (refine And.intro (by first | omega | (intros; omega) | (intros; exact And.intro (by assumption) (by omega)) | grind) ?_)
  exact TLe.refl _
theorem number_does {G : Gl} {k e : Int} {n : Bool} {m : List Nat} : Does Tryz.prog G 56 [Fl k n e m] (.v (.c (.b (decide (k = 1) || decide (k = 0))))) := by
  refine Does.of (nt := 11) Tryz.func56 rfl rfl rfl (by simp) ?_
  simp only [argTm, PV.ext, Ce.ext]
  refine Do.seqk fun _ k1_ => ?_
  refine Do.region [1] true ?_
  simp [go_sem]
  apply k1_; clear k1_
  refine Do.seqk fun _ k2_ => ?_
  refine Do.region [2] true ?_
  simp [go_sem]
  repeat (refine And.intro (by first | omega | (intros; omega) | (intros; exact And.intro (by assumption) (by omega)) | grind) ?_)
  apply k2_; clear k2_
  refine Do.ret ?_
  simp [endQ, rets, ret1, go_sem]
  repeat (refine And.intro (by first | omega | (intros; omega) | (intros; exact And.intro (by assumption) (by omega)) | grind) ?_)
  exact ret_b (by grind)
theorem Fine.ok {x : Flt} (h : Fine x) (hn : Numb x) (n : Bool) : (⟨n, x.v, x.e⟩ : Nu).Ok := by
  have h1 := h.v
  rcases hn with hk | ⟨hk, h2, h3⟩
  · have := canon_one h.can hk
    exact ⟨by simp only []; omega, by simp only []; omega⟩
  · exact ⟨by simp only []; omega, by simp only []; omega⟩
end Go.Proofs.YtdaecibpkhcllaaGreatDoor
/- The law SumPairs. No condition. -/
namespace Go.Proofs.YtdaecibpkhcllaaGreatDoor
set_option linter.unusedVariables false
set_option linter.unusedSimpArgs false
set_option maxHeartbeats 4000000
set_option maxRecDepth 10000
theorem held_low {f p : Int} {x : Flt} (h : (holdsP f p x).2 = true) (hk : (holdsP f p x).1.k = 1) : tiny f p ≤ (holdsP f p x).1.e := by
  unfold holdsP at *
  split at h
  · rename_i hc
    rw [if_pos hc] at hk
    rcases hc with hc | hc
    · rw [h] at hc; cases hc
    · exact absurd hk hc
  · rename_i hc
    rw [if_neg hc]
    simp only [Bool.and_eq_true, decide_eq_true_eq] at h
    exact h.1.2
theorem float_low {f p : Int} (hf : fmOk f p = true) {L : List Flt} (hL : ∀ x ∈ L, x.k = 1 → tiny f p ≤ x.e) (hk : ((gatherP L).float f p 0).1.k = 1) : tiny f p ≤ ((gatherP L).float f p 0).1.e := by
  obtain ⟨_, h2, h3⟩ := float_number hf hL (.inr hk)
  by_cases h0 : svs (tiny f p) L = 0
  · obtain ⟨n, e⟩ := h2 h0
    rw [e] at hk; simp at hk
  · have e := h3 h0
    rw [e] at hk ⊢
    obtain ⟨q, j, hn, hm, hv⟩ := round_step hf h0 (by omega)
    rw [hm] at hk ⊢
    unfold mkP at hk ⊢
    split at hk
    · simp at hk
    · rename_i hq
      rw [if_neg hq]; simp only []; omega
section
variable {f p : Int} {x y : Fla}
theorem SPair_does (hx : x.Ok) (hy : y.Ok) (he : argsE f p 0 false [x, y] = 0) {a b s : Flt} (ea : (holdsP f p x.flt).1 = a) (eb : (holdsP f p y.flt).1 = b) (es : ((gatherP [a, b]).float f p 0).1 = s) :
    ((s.k = 0 ∨ s.k = 1) → Does Tryz.prog Gv 22 [Fm f p, Fl x.k x.n x.e x.m, Fl y.k y.n y.e y.m] (.t [s.pv, (restP (tiny f p) (leftP f p a b s)).pv, .c (.i .i64 0)])) ∧
    (¬ (s.k = 0 ∨ s.k = 1) → Does Tryz.prog Gv 22 [Fm f p, Fl x.k x.n x.e x.m, Fl y.k y.n y.e y.m] (.t [Flt.pv ⟨0, false, 0, 0⟩, Flt.pv ⟨0, false, 0, 0⟩, .c (.i .i64 4)])) := by
  have hl : [x, y].length < 1099511627776 := by simp
  have ho : ∀ u ∈ [x, y], u.Ok := by simp [hx, hy]
  have hA : DoesO Tryz.prog Gv 48 [Fm f p, .c (.i .i64 0), .c (.b false), .s false [x.cs, y.cs]] 4 [(holdsP f p x.flt).1.cs, (holdsP f p y.flt).1.cs] [.c (.i .i64 0)] := Args_own hl ho he
  obtain ⟨h1, h2, h3, h4, h5, h6⟩ := argsE_zero he
  have hfine := heldL_fine h5 h6
  simp only [heldL, List.map_cons, List.map_nil, List.mem_cons, List.not_mem_nil, or_false, forall_eq_or_imp, forall_eq] at hfine
  have hhx : (holdsP f p x.flt).2 = true := by simpa using List.all_eq_true.1 h6 x (by simp)
  have hhy : (holdsP f p y.flt).2 = true := by simpa using List.all_eq_true.1 h6 y (by simp)
  have oa := held_ofF h5 hhx
  have ob := held_ofF h5 hhy
  have la := @held_low f p x.flt hhx
  have lb := @held_low f p y.flt hhy
  have fa : rcanon (holdsP f p x.flt).1 = (holdsP f p x.flt).1 := by rw [← (held_rcanon hhx).1]; exact rcanon_idem _
  have fb : rcanon (holdsP f p y.flt).1 = (holdsP f p y.flt).1 := by rw [← (held_rcanon hhy).1]; exact rcanon_idem _
  have ka0 : (holdsP f p x.flt).1.k = 0 ∨ (holdsP f p x.flt).1.k = 1 ∨ (holdsP f p x.flt).1.k = 2 ∨ (holdsP f p x.flt).1.k = 3 := by rw [← (held_rcanon hhx).1, rcanon_k]; exact (canon_kind (held_rcanon hhx).2).1
  have kb0 : (holdsP f p y.flt).1.k = 0 ∨ (holdsP f p y.flt).1.k = 1 ∨ (holdsP f p y.flt).1.k = 2 ∨ (holdsP f p y.flt).1.k = 3 := by rw [← (held_rcanon hhy).1, rcanon_k]; exact (canon_kind (held_rcanon hhy).2).1
  rw [ea] at hA hfine oa la fa ka0
  rw [eb] at hA hfine ob lb fb kb0
  clear ea eb
  obtain ⟨hG, hS⟩ := gather_fine (l := [a, b]) (by simp only [List.mem_cons, List.not_mem_nil, or_false, forall_eq_or_imp, forall_eq]; exact hfine) (by simp)
  have hT : Does Tryz.prog Gv 49 [Fm f p, .c (.i .i64 0), .s false [a.cs, b.cs]] (.t [((gatherP [a, b]).float f p 0).1.pv, .c (.i .i64 ((gatherP [a, b]).float f p 0).2)]) := total_does (l := [a, b]) h5 h2 h3 (by simp) hG hS
  have hL : ∀ u ∈ [a, b], u.k = 1 → tiny f p ≤ u.e := by simp only [List.mem_cons, List.not_mem_nil, or_false, forall_eq_or_imp, forall_eq]; exact ⟨la, lb⟩
  have hleft := @pair_left f p h5 a b oa ob hL
  have hnum := @float_number f p h5 [a, b] hL
  have hslow := @float_low f p h5 [a, b] hL
  have hsf := @float_fine f p 0 h5 (gatherP [a, b])
  have hsx := @float_fix f p 0 h5 (gatherP [a, b])
  rw [es] at hT hleft hnum hslow hsf hsx
  generalize ((gatherP [a, b]).float f p 0).2 = fl at *
  refine ⟨fun hk => ?_, fun hk => ?_⟩
  · obtain ⟨hkind, _⟩ := hnum hk
    simp only [List.mem_cons, List.not_mem_nil, or_false, forall_eq_or_imp, forall_eq] at hkind
    have na := rcanon_numb fa (by omega)
    have nb := rcanon_numb fb (by omega)
    have ns := rcanon_numb hsx hk
    obtain ⟨t0, t1⟩ := tiny_le h5
    have oka : -4194304 ≤ a.e ∧ a.e + bl a.v ≤ 1148576 := by
      rcases na with h | ⟨_, h, h'⟩
      · have := hfine.1 h; omega
      · rw [h, h', bl_zero]; omega
    have okb : -4194304 ≤ b.e ∧ b.e + bl b.v ≤ 1148576 := by
      rcases nb with h | ⟨_, h, h'⟩
      · have := hfine.2 h; omega
      · rw [h, h', bl_zero]; omega
    have oks : -4194304 ≤ s.e ∧ s.e + bl s.v ≤ 1148576 := by
      have hv := hsf.v
      rcases ns with h | ⟨_, h, h'⟩
      · have := canon_one hsf.can h; omega
      · rw [h, h', bl_zero]; omega
    have za : tiny f p ≤ a.e := by
      rcases na with h | ⟨_, h, h'⟩
      · exact la h
      · omega
    have zb : tiny f p ≤ b.e := by
      rcases nb with h | ⟨_, h, h'⟩
      · exact lb h
      · omega
    have zs : tiny f p ≤ s.e := by
      rcases ns with h | ⟨_, h, h'⟩
      · exact hslow h
      · omega
    have p1 := @Nu.plus_sv (tiny f p) ⟨a.n, a.v, a.e⟩ ⟨b.n, b.v, b.e⟩ za zb
    have q1 := @Nu.plus_ok ⟨a.n, a.v, a.e⟩ ⟨b.n, b.v, b.e⟩ 1148576 oka okb
    have P1 := @Plus_does Gv ⟨a.n, a.v, a.e⟩ ⟨b.n, b.v, b.e⟩ ⟨oka.1, by simp only []; omega⟩ ⟨okb.1, by simp only []; omega⟩
    generalize (⟨a.n, a.v, a.e⟩ : Nu).plus ⟨b.n, b.v, b.e⟩ = y1 at *
    have p2 := @Nu.plus_sv (tiny f p) y1 ⟨!s.n, s.v, s.e⟩ p1.2 zs
    have q2 := @Nu.plus_ok y1 ⟨!s.n, s.v, s.e⟩ 1148577 q1 (by simp only []; omega)
    have P2 := @Plus_does Gv y1 ⟨!s.n, s.v, s.e⟩ ⟨q1.1, by omega⟩ ⟨oks.1, by simp only []; omega⟩
    generalize y1.plus ⟨!s.n, s.v, s.e⟩ = y2 at *
    rw [p1.1, na.sv, nb.sv, ns.neg_sv] at p2
    have hX := @exact_does f p h5 y2 ⟨q2.1, by omega⟩
    rw [restP_round h5 (Int.le_refl _) (hleft hk) p2.2 (by rw [p2.1, leftP]; omega)] at hX
    generalize restP (tiny f p) (leftP f p a b s) = u at *
    refine Does.of (nt := 58) Tryz.func22 rfl rfl rfl (by simp) ?_
    simp only [argTm, PV.ext, Ce.ext]
    refine Do.seqk fun _ k1_ => ?_
    refine Do.region [3,4,5,6,7] true ?_
    simp [go_sem]
    apply k1_; clear k1_
    refine Do.seqk fun _ k2_ => ?_
    refine Do.region [3,6,7,8,9] true ?_
    simp [go_sem]
    repeat (refine And.intro (by first | omega | (intros; omega) | (intros; exact And.intro (by assumption) (by omega)) | grind) ?_)
    refine DoL.sealS true 104 103 rfl ?_
    simp [go_sem]
    refine DoL.callO true 105 3000 rfl rfl rfl rfl (by first | exact trivial | omega | (simp; done) | (simp; omega)) (hA) rfl rfl rfl ?_
    simp [go_sem]
    apply k2_; clear k2_
    refine Do.seqk fun _ k3_ => ?_
    refine Do.seqk fun _ k4_ => ?_
    refine Do.region [3,6,7,8,9,22] true ?_
    simp [go_sem]
    apply k4_; clear k4_
    refine Do.cond [3,6,7,8,9] rfl (fun h => ?_) (fun h => ?_) <;> simp [go_sem] at h ⊢
    refine Do.skip ?_
    simp [go_sem]
    apply k3_; clear k3_
    refine Do.seqk fun _ k5_ => ?_
    refine Do.seqk fun _ k6_ => ?_
    refine Do.region [3,6,7,9] true ?_
    simp [go_sem]
    repeat (refine And.intro (by first | omega | (intros; omega) | (intros; exact And.intro (by assumption) (by omega)) | grind) ?_)
    refine DoL.sealS true 402 3000 rfl ?_
    simp [go_sem]
    refine DoL.call true 403 rfl rfl rfl rfl (by first | exact trivial | omega | (simp; done) | (simp; omega)) (hT) rfl (by first | exact .inl rfl | exact .inr rfl) rfl ?_
    simp [go_sem]
    repeat (refine And.intro (by first | omega | (intros; omega) | (intros; exact And.intro (by assumption) (by omega)) | grind) ?_)
    apply k6_; clear k6_
    refine Do.seqk fun _ k7_ => ?_
    refine Do.region [3,6,7,9,33] true ?_
    simp [go_sem]
    repeat (refine And.intro (by first | omega | (intros; omega) | (intros; exact And.intro (by assumption) (by omega)) | grind) ?_)
    refine DoL.call true 502 rfl rfl rfl rfl (by first | exact trivial | omega | (simp; done) | (simp; omega)) (number_does) rfl (by first | exact .inl rfl | exact .inr rfl) rfl ?_
    simp [go_sem]
    apply k7_; clear k7_
    refine Do.cond [3,6,7,9] rfl (fun h2 => ?_) (fun h2 => ?_) <;> simp [go_sem] at h2 ⊢
    · refine Do.seqk fun _ k8_ => ?_
      refine Do.draw [3,6,7,10] true (by kernel_rfl) ?_
      simp [go_sem]
      repeat (refine And.intro (by first | omega | (intros; omega) | (intros; exact And.intro (by assumption) (by omega)) | kernel_rfl | grind) ?_)
      refine DoLD.call true 604 rfl rfl rfl rfl (by first | exact trivial | omega | (simp; done) | (simp; omega)) (Of_does) rfl (by first | exact .inl rfl | exact .inr rfl) rfl ?_
      simp [go_sem]
      repeat (refine And.intro (by first | omega | (intros; omega) | (intros; exact And.intro (by assumption) (by omega)) | kernel_rfl | grind) ?_)
      refine DoLD.call true 608 rfl rfl rfl rfl (by first | exact trivial | omega | (simp; done) | (simp; omega)) (Of_does) rfl (by first | exact .inl rfl | exact .inr rfl) rfl ?_
      simp [go_sem]
      refine DoLD.call true 609 rfl rfl rfl rfl (by first | exact trivial | omega | (simp; done) | (simp; omega)) (P1) rfl (by first | exact .inl rfl | exact .inr rfl) rfl ?_
      simp [go_sem]
      repeat (refine And.intro (by first | omega | (intros; omega) | (intros; exact And.intro (by assumption) (by omega)) | kernel_rfl | grind) ?_)
      refine DoLD.call true 611 rfl rfl rfl rfl (by first | exact trivial | omega | (simp; done) | (simp; omega)) (Of_does) rfl (by first | exact .inl rfl | exact .inr rfl) rfl ?_
      simp [go_sem]
      refine DoLD.call true 612 rfl rfl rfl rfl (by first | exact trivial | omega | (simp; done) | (simp; omega)) (Minus_does) rfl (by first | exact .inl rfl | exact .inr rfl) rfl ?_
      simp [go_sem]
      refine DoLD.call true 613 rfl rfl rfl rfl (by first | exact trivial | omega | (simp; done) | (simp; omega)) (P2) rfl (by first | exact .inl rfl | exact .inr rfl) rfl ?_
      simp [go_sem]
      repeat (refine And.intro (by first | omega | (intros; omega) | (intros; exact And.intro (by assumption) (by omega)) | kernel_rfl | grind) ?_)
      try (refine And.intro (by kernel_rfl) ?_)
      apply k8_; clear k8_
      refine Do.seqk fun _ k9_ => ?_
      refine Do.region [6,7,11,12] true ?_
      simp [go_sem]
      repeat (refine And.intro (by first | omega | (intros; omega) | (intros; exact And.intro (by assumption) (by omega)) | grind) ?_)
      refine DoL.call true 703 rfl rfl rfl rfl (by first | exact trivial | omega | (simp; done) | (simp; omega)) (hX) rfl (by first | exact .inl rfl | exact .inr rfl) rfl ?_
      simp [go_sem]
      repeat (refine And.intro (by first | omega | (intros; omega) | (intros; exact And.intro (by assumption) (by omega)) | grind) ?_)
      apply k9_; clear k9_
      refine Do.seqk fun _ k10_ => ?_
      refine Do.region [6,7,11,53] true ?_
      simp [go_sem]
      apply k10_; clear k10_
      refine Do.cond [6,7,11] rfl (fun h3 => ?_) (fun h3 => ?_) <;> simp [go_sem] at h3 ⊢
      refine Do.seqk fun _ k11_ => ?_
      refine Do.draw [6,7,8] true (by kernel_rfl) ?_
      simp [go_sem]
      repeat (refine And.intro (by first | omega | (intros; omega) | (intros; exact And.intro (by assumption) (by omega)) | kernel_rfl | grind) ?_)
      try (refine And.intro (by kernel_rfl) ?_)
      apply k11_; clear k11_
      refine Do.ret ?_
      simp [endQ, rets, ret1, go_sem]
      repeat (refine And.intro (by first | omega | (intros; omega) | (intros; exact And.intro (by assumption) (by omega)) | grind) ?_)
      exact TLe.refl _
    · omega
  ·
    refine Does.of (nt := 58) Tryz.func22 rfl rfl rfl (by simp) ?_
    simp only [argTm, PV.ext, Ce.ext]
    refine Do.seqk fun _ k1_ => ?_
    refine Do.region [3,4,5,6,7] true ?_
    simp [go_sem]
    apply k1_; clear k1_
    refine Do.seqk fun _ k2_ => ?_
    refine Do.region [3,6,7,8,9] true ?_
    simp [go_sem]
    repeat (refine And.intro (by first | omega | (intros; omega) | (intros; exact And.intro (by assumption) (by omega)) | grind) ?_)
    refine DoL.sealS true 104 103 rfl ?_
    simp [go_sem]
    refine DoL.callO true 105 3000 rfl rfl rfl rfl (by first | exact trivial | omega | (simp; done) | (simp; omega)) (hA) rfl rfl rfl ?_
    simp [go_sem]
    apply k2_; clear k2_
    refine Do.seqk fun _ k3_ => ?_
    refine Do.seqk fun _ k4_ => ?_
    refine Do.region [3,6,7,8,9,22] true ?_
    simp [go_sem]
    apply k4_; clear k4_
    refine Do.cond [3,6,7,8,9] rfl (fun h => ?_) (fun h => ?_) <;> simp [go_sem] at h ⊢
    refine Do.skip ?_
    simp [go_sem]
    apply k3_; clear k3_
    refine Do.seqk fun _ k5_ => ?_
    refine Do.seqk fun _ k6_ => ?_
    refine Do.region [3,6,7,9] true ?_
    simp [go_sem]
    repeat (refine And.intro (by first | omega | (intros; omega) | (intros; exact And.intro (by assumption) (by omega)) | grind) ?_)
    refine DoL.sealS true 402 3000 rfl ?_
    simp [go_sem]
    refine DoL.call true 403 rfl rfl rfl rfl (by first | exact trivial | omega | (simp; done) | (simp; omega)) (hT) rfl (by first | exact .inl rfl | exact .inr rfl) rfl ?_
    simp [go_sem]
    repeat (refine And.intro (by first | omega | (intros; omega) | (intros; exact And.intro (by assumption) (by omega)) | grind) ?_)
    apply k6_; clear k6_
    refine Do.seqk fun _ k7_ => ?_
    refine Do.region [3,6,7,9,33] true ?_
    simp [go_sem]
    repeat (refine And.intro (by first | omega | (intros; omega) | (intros; exact And.intro (by assumption) (by omega)) | grind) ?_)
    refine DoL.call true 502 rfl rfl rfl rfl (by first | exact trivial | omega | (simp; done) | (simp; omega)) (number_does) rfl (by first | exact .inl rfl | exact .inr rfl) rfl ?_
    simp [go_sem]
    apply k7_; clear k7_
    refine Do.cond [3,6,7,9] rfl (fun h2 => ?_) (fun h2 => ?_) <;> simp [go_sem] at h2 ⊢
    · omega
    · refine Do.skip ?_
      simp [go_sem]
      apply k5_; clear k5_
      refine Do.seqk fun _ k8_ => ?_
      refine Do.region [6,7,8] true ?_
      simp [go_sem]
      repeat (refine And.intro (by first | omega | (intros; omega) | (intros; exact And.intro (by assumption) (by omega)) | grind) ?_)
      apply k8_; clear k8_
      refine Do.ret ?_
      simp [endQ, rets, ret1, go_sem]
      repeat (refine And.intro (by first | omega | (intros; omega) | (intros; exact And.intro (by assumption) (by omega)) | grind) ?_)
      exact TLe.t (.cons (PLe.flt (ret_z rfl)) (.cons (PLe.flt (ret_z rfl)) (.cons (PLe.refl _) .nil)))
theorem RPair_does (hx : Rt x) (hy : Rt y) (hf : fmOk f p = true) {a b s : Flt} (ea : rcanon x.flt = a) (eb : rcanon y.flt = b) (la : a.k = 1 → tiny f p ≤ a.e) (lb : b.k = 1 → tiny f p ≤ b.e) (es : ((gatherP [a, b]).float f p 0).1 = s) :
    ((s.k = 0 ∨ s.k = 1) → Does Tryz.prog Gv 25 [Fm f p, Fl x.k x.n x.e x.m, Fl y.k y.n y.e y.m] (.t [s.pw, (restP (tiny f p) (leftP f p a b s)).pw, .c (.b true)])) ∧
    (¬ (s.k = 0 ∨ s.k = 1) → Does Tryz.prog Gv 25 [Fm f p, Fl x.k x.n x.e x.m, Fl y.k y.n y.e y.m] (.t [Flt.pw ⟨0, false, 0, 0⟩, Flt.pw ⟨0, false, 0, 0⟩, .c (.b false)])) := by
  have hL : ∀ u ∈ [a, b], u.k = 1 → tiny f p ≤ u.e := by simp only [List.mem_cons, List.not_mem_nil, or_false, forall_eq_or_imp, forall_eq]; exact ⟨la, lb⟩
  have hR := @RTotal_right Gv f p 0 hf (by decide) (by decide) [x, y] (by simp) (by simp [hx, hy])
  rw [show ([x, y].map fun x => rcanon x.flt) = [a, b] by simp [ea, eb]] at hR
  have hslow := @float_low f p hf [a, b] hL
  have hsf := @float_fine f p 0 hf (gatherP [a, b])
  have hsx := @float_fix f p 0 hf (gatherP [a, b])
  have hkinds : ((gatherP [a, b]).float f p 0).1.k = 0 ∨ ((gatherP [a, b]).float f p 0).1.k = 1 ∨ ((gatherP [a, b]).float f p 0).1.k = 2 ∨ ((gatherP [a, b]).float f p 0).1.k = 3 := (canon_kind hsf.can).1
  rw [es] at hR hslow hsf hsx hkinds
  generalize ((gatherP [a, b]).float f p 0).2 = fl at *
  have hrs : Rt s.fla := ⟨by rw [Flt.fla_flt]; exact hsf.can, nat_ws _, by have := len_bl hsf.v; show (nat s.v).length ≤ 4096; omega⟩
  have hZ := @Rest_new Gv [x, y] [s.fla] (by simp) (by simp [hx, hy]) (by simp [hrs]) [a, b] [s] (by simp [ea, eb]) (by simp [Flt.fla_flt, hsx]) (tiny f p) (tiny_le hf).1 (by
    intro u hu hk
    simp only [List.cons_append, List.nil_append, List.map_cons, List.map_nil, List.mem_cons, List.not_mem_nil, or_false] at hu
    rcases hu with rfl | rfl | rfl
    · exact la hk
    · exact lb hk
    · exact hslow hk)
  rw [left_svs] at hZ
  generalize restP (tiny f p) (leftP f p a b s) = u at *
  have hR : Does Tryz.prog Gv 16 [Fm f p, .c (.i .i64 0), .s false [x.cs, y.cs]] (.t [s.pw, .c (.i .i64 fl)]) := hR
  have hZ : Does Tryz.prog Gv 64 [.s false [x.cs, y.cs], .s false [s.cs]] (.v u.pw) := hZ
  refine ⟨fun hk => ?_, fun hk => ?_⟩
  ·
    refine Does.of (nt := 36) Tryz.func25 rfl rfl rfl (by simp) ?_
    simp only [argTm, PV.ext, Ce.ext]
    refine Do.seqk fun _ k1_ => ?_
    refine Do.region [3,4,5,6,7] true ?_
    simp [go_sem]
    apply k1_; clear k1_
    refine Do.seqk fun _ k2_ => ?_
    refine Do.region [3,6,7,9] true ?_
    simp [go_sem]
    repeat (refine And.intro (by first | omega | (intros; omega) | (intros; exact And.intro (by assumption) (by omega)) | grind) ?_)
    apply k2_; clear k2_
    refine Do.seqk fun _ k3_ => ?_
    refine Do.region [6,7,9,10] true ?_
    simp [go_sem]
    repeat (refine And.intro (by first | omega | (intros; omega) | (intros; exact And.intro (by assumption) (by omega)) | grind) ?_)
    refine DoL.sealS true 202 102 rfl ?_
    simp [go_sem]
    refine DoL.call true 203 rfl rfl rfl rfl (by first | exact trivial | omega | (simp; done) | (simp; omega)) (hR) rfl (by first | exact .inl rfl | exact .inr rfl) rfl ?_
    simp [go_sem]
    repeat (refine And.intro (by first | omega | (intros; omega) | (intros; exact And.intro (by assumption) (by omega)) | grind) ?_)
    apply k3_; clear k3_
    refine Do.seqk fun _ k4_ => ?_
    refine Do.seqk fun _ k5_ => ?_
    refine Do.region [6,7,9,10,28] true ?_
    simp [go_sem]
    repeat (refine And.intro (by first | omega | (intros; omega) | (intros; exact And.intro (by assumption) (by omega)) | grind) ?_)
    apply k5_; clear k5_
    refine Do.cond [6,7,9,10] rfl (fun h => ?_) (fun h => ?_) <;> simp [go_sem] at h ⊢
    · omega
    · refine Do.skip ?_
      simp [go_sem]
      apply k4_; clear k4_
      refine Do.seqk fun _ k6_ => ?_
      refine Do.draw [6,7,8] true (by kernel_rfl) ?_
      simp [go_sem]
      repeat (refine And.intro (by first | omega | (intros; omega) | (intros; exact And.intro (by assumption) (by omega)) | kernel_rfl | grind) ?_)
      refine DoLD.call true 505 rfl rfl rfl rfl (by first | exact trivial | omega | (simp; done) | (simp; omega)) (hZ) rfl (by first | exact .inl rfl | exact .inr rfl) rfl ?_
      simp [go_sem]
      repeat (refine And.intro (by first | omega | (intros; omega) | (intros; exact And.intro (by assumption) (by omega)) | kernel_rfl | grind) ?_)
      try (refine And.intro (by kernel_rfl) ?_)
      apply k6_; clear k6_
      refine Do.ret ?_
      simp [endQ, rets, ret1, go_sem]
      repeat (refine And.intro (by first | omega | (intros; omega) | (intros; exact And.intro (by assumption) (by omega)) | grind) ?_)
      exact TLe.refl _
  ·
    refine Does.of (nt := 36) Tryz.func25 rfl rfl rfl (by simp) ?_
    simp only [argTm, PV.ext, Ce.ext]
    refine Do.seqk fun _ k1_ => ?_
    refine Do.region [3,4,5,6,7] true ?_
    simp [go_sem]
    apply k1_; clear k1_
    refine Do.seqk fun _ k2_ => ?_
    refine Do.region [3,6,7,9] true ?_
    simp [go_sem]
    repeat (refine And.intro (by first | omega | (intros; omega) | (intros; exact And.intro (by assumption) (by omega)) | grind) ?_)
    apply k2_; clear k2_
    refine Do.seqk fun _ k3_ => ?_
    refine Do.region [6,7,9,10] true ?_
    simp [go_sem]
    repeat (refine And.intro (by first | omega | (intros; omega) | (intros; exact And.intro (by assumption) (by omega)) | grind) ?_)
    refine DoL.sealS true 202 102 rfl ?_
    simp [go_sem]
    refine DoL.call true 203 rfl rfl rfl rfl (by first | exact trivial | omega | (simp; done) | (simp; omega)) (hR) rfl (by first | exact .inl rfl | exact .inr rfl) rfl ?_
    simp [go_sem]
    repeat (refine And.intro (by first | omega | (intros; omega) | (intros; exact And.intro (by assumption) (by omega)) | grind) ?_)
    apply k3_; clear k3_
    refine Do.seqk fun _ k4_ => ?_
    refine Do.seqk fun _ k5_ => ?_
    refine Do.region [6,7,9,10,28] true ?_
    simp [go_sem]
    repeat (refine And.intro (by first | omega | (intros; omega) | (intros; exact And.intro (by assumption) (by omega)) | grind) ?_)
    apply k5_; clear k5_
    refine Do.cond [6,7,9,10] rfl (fun h => ?_) (fun h => ?_) <;> simp [go_sem] at h ⊢
    · refine Do.seqk fun _ k6_ => ?_
      refine Do.region [6,7,8] true ?_
      simp [go_sem]
      repeat (refine And.intro (by first | omega | (intros; omega) | (intros; exact And.intro (by assumption) (by omega)) | grind) ?_)
      apply k6_; clear k6_
      refine Do.ret ?_
      simp [endQ, rets, ret1, go_sem]
      repeat (refine And.intro (by first | omega | (intros; omega) | (intros; exact And.intro (by assumption) (by omega)) | grind) ?_)
      exact TLe.t (.cons (PLe.flw (ret_zw rfl)) (.cons (PLe.flw (ret_zw rfl)) (.cons (PLe.refl _) .nil)))
    · omega
end
theorem LIs_same {G : Gl} {x : Flt} (hx : Fine x) (h : rcanon x = x) : Does Tryz.prog G 26 [x.pv, x.pv] (.v (.c (.b true))) := by
  have hl : (nat x.v).length ≤ 1073741824 := by have := nat_len_bl x.v; have := hx.v; omega
  have := @LIs_does G x.k x.e x.n (nat x.v) x.k x.e x.n (nat x.v) hl (nat_ws _) hl (nat_ws _) (good_md hx.can)
  rw [val_nat, show (⟨x.k, x.n, x.e, x.v⟩ : Flt) = x from rfl, h, show isP x.k x.n x.e (nat x.v) x = true by simp [isP]] at this
  exact this
theorem SumPairs_does {f p : Int} {x y : Fla} (hx : Ws x.m) (ex : I64 x.e) (hy : Ws y.m) (ey : I64 y.e) : Does Tryz.prog Gv 5 [Fm f p, Fl x.k x.n x.e x.m, Fl y.k y.n y.e y.m] (.v (.c (.b true))) := by
  have hS : Does Tryz.prog Gv 10 [.s false [x.cs, y.cs]] (.v (.c (.b (shortP [x, y])))) := Short15_does (l := [x, y]) (by simp)
  cases hs : shortP [x, y] with
  | false =>
    rw [hs] at hS
    refine Does.of (nt := 93) Tryz.func5 rfl rfl rfl (by simp) ?_
    simp only [argTm, PV.ext, Ce.ext]
    refine Do.seqk fun _ k1_ => ?_
    refine Do.region [3,4,5] true ?_
    simp [go_sem]
    apply k1_; clear k1_
    refine Do.seqk fun _ k2_ => ?_
    refine Do.seqk fun _ k3_ => ?_
    refine Do.region [3,4,5,18] true ?_
    simp [go_sem]
    repeat (refine And.intro (by first | omega | (intros; omega) | (intros; exact And.intro (by assumption) (by omega)) | grind) ?_)
    refine DoL.sealS true 103 102 rfl ?_
    simp [go_sem]
    refine DoL.call true 104 rfl rfl rfl rfl (by first | exact trivial | omega | (simp; done) | (simp; omega)) (hS) rfl (by first | exact .inl rfl | exact .inr rfl) rfl ?_
    simp [go_sem]
    repeat (refine And.intro (by first | omega | (intros; omega) | (intros; exact And.intro (by assumption) (by omega)) | grind) ?_)
    apply k3_; clear k3_
    refine Do.cond [3,4,5] rfl (fun h => ?_) (fun h => ?_) <;> simp [go_sem] at h ⊢
    refine Do.seqk fun _ k4_ => ?_
    refine Do.region [6] true ?_
    simp [go_sem]
    refine DoL.call true 201 rfl rfl rfl rfl (by first | exact trivial | omega | (simp; done) | (simp; omega)) (awake_does) rfl (by first | exact .inl rfl | exact .inr rfl) rfl ?_
    simp [go_sem]
    apply k4_; clear k4_
    refine Do.ret ?_
    simp [endQ, rets, ret1, go_sem]
    repeat (refine And.intro (by first | omega | (intros; omega) | (intros; exact And.intro (by assumption) (by omega)) | grind) ?_)
    exact TLe.refl _
  | true =>
    rw [hs] at hS
    have hsx : x.m.length ≤ 40 ∧ y.m.length ≤ 40 := by simpa [shortP] using hs
    have ox : x.Ok := ⟨by simp [Sh]; omega, hx, ex⟩
    have oy : y.Ok := ⟨by simp [Sh]; omega, hy, ey⟩
    have ho : ∀ u ∈ [x, y], u.Ok := by simp [ox, oy]
    have hC : Does Tryz.prog Gv 23 [Fm f p, .s false [x.cs, y.cs]] (.int .i64 (argsE f p 0 false [x, y])) := @RCheck_does Gv f p [x, y] (by simp) ho
    have hN := @None_does Gv 0 0 false [] (by simp [Sh])
    by_cases he : argsE f p 0 false [x, y] = 0
    · obtain ⟨h1, h2, h3, h4, h5, h6⟩ := argsE_zero he
      have hrt := held_rt h6 ho h1
      have hhx : (holdsP f p x.flt).2 = true := by simpa using List.all_eq_true.1 h6 x (by simp)
      have hhy : (holdsP f p y.flt).2 = true := by simpa using List.all_eq_true.1 h6 y (by simp)
      have oa := held_ofF h5 hhx
      have ob := held_ofF h5 hhy
      have la := @held_low f p x.flt hhx
      have lb := @held_low f p y.flt hhy
      have ca := (held_rcanon hhx).1
      have cb := (held_rcanon hhy).1
      have hP := fun s => @SPair_does f p x y ox oy he _ _ s rfl rfl
      have hQ := fun s => @RPair_does f p x y (hrt x (by simp)) (hrt y (by simp)) h5 _ _ s ca cb la lb
      rw [he] at hC
      generalize (holdsP f p x.flt).1 = a at *
      generalize (holdsP f p y.flt).1 = b at *
      have hL : ∀ u ∈ [a, b], u.k = 1 → tiny f p ≤ u.e := by simp only [List.mem_cons, List.not_mem_nil, or_false, forall_eq_or_imp, forall_eq]; exact ⟨la, lb⟩
      have hleft := @pair_left f p h5 a b oa ob hL
      have hsf := @float_fine f p 0 h5 (gatherP [a, b])
      have hfx := @float_fix f p 0 h5 (gatherP [a, b])
      have hP := hP _ rfl
      have hQ := hQ _ rfl
      generalize ((gatherP [a, b]).float f p 0).1 = s at *
      have hI1 := @LIs_same Gv s hsf hfx
      by_cases hk : s.k = 0 ∨ s.k = 1
      · have hP := hP.1 hk
        have hQ := hQ.1 hk
        have hI2 := @LIs_same Gv _ (restP_fine h5 (Int.le_refl _) (hleft hk)) (restP_fix _ _)
        generalize restP (tiny f p) (leftP f p a b s) = u at *
        refine Does.of (nt := 93) Tryz.func5 rfl rfl rfl (by simp) ?_
        simp only [argTm, PV.ext, Ce.ext]
        refine Do.seqk fun _ k1_ => ?_
        refine Do.region [3,4,5] true ?_
        simp [go_sem]
        apply k1_; clear k1_
        refine Do.seqk fun _ k2_ => ?_
        refine Do.seqk fun _ k3_ => ?_
        refine Do.region [3,4,5,18] true ?_
        simp [go_sem]
        repeat (refine And.intro (by first | omega | (intros; omega) | (intros; exact And.intro (by assumption) (by omega)) | grind) ?_)
        refine DoL.sealS true 103 102 rfl ?_
        simp [go_sem]
        refine DoL.call true 104 rfl rfl rfl rfl (by first | exact trivial | omega | (simp; done) | (simp; omega)) (hS) rfl (by first | exact .inl rfl | exact .inr rfl) rfl ?_
        simp [go_sem]
        repeat (refine And.intro (by first | omega | (intros; omega) | (intros; exact And.intro (by assumption) (by omega)) | grind) ?_)
        apply k3_; clear k3_
        refine Do.cond [3,4,5] rfl (fun h => ?_) (fun h => ?_) <;> simp [go_sem] at h ⊢
        refine Do.skip ?_
        simp [go_sem]
        apply k2_; clear k2_
        refine Do.seqk fun _ k4_ => ?_
        refine Do.region [3,4,5,7,8,9] true ?_
        simp [go_sem]
        repeat (refine And.intro (by first | omega | (intros; omega) | (intros; exact And.intro (by assumption) (by omega)) | grind) ?_)
        refine DoL.call true 304 rfl rfl rfl rfl (by first | exact trivial | omega | (simp; done) | (simp; omega)) (hP) rfl (by first | exact .inl rfl | exact .inr rfl) rfl ?_
        simp [go_sem]
        repeat (refine And.intro (by first | omega | (intros; omega) | (intros; exact And.intro (by assumption) (by omega)) | grind) ?_)
        apply k4_; clear k4_
        refine Do.seqk fun _ k5_ => ?_
        refine Do.draw [3,4,5,7,8,9,10] true (by kernel_rfl) ?_
        simp [go_sem]
        repeat (refine And.intro (by first | omega | (intros; omega) | (intros; exact And.intro (by assumption) (by omega)) | kernel_rfl | grind) ?_)
        refine DoLD.call true 402 rfl rfl rfl rfl (by first | exact trivial | omega | (simp; done) | (simp; omega)) (Fmt_does) rfl (by first | exact .inl rfl | exact .inr rfl) rfl ?_
        simp [go_sem]
        repeat (refine And.intro (by first | omega | (intros; omega) | (intros; exact And.intro (by assumption) (by omega)) | kernel_rfl | grind) ?_)
        refine DoLD.call true 404 rfl rfl rfl rfl (by first | exact trivial | omega | (simp; done) | (simp; omega)) (Their_does) rfl (by first | exact .inl rfl | exact .inr rfl) rfl ?_
        simp [go_sem]
        repeat (refine And.intro (by first | omega | (intros; omega) | (intros; exact And.intro (by assumption) (by omega)) | kernel_rfl | grind) ?_)
        refine DoLD.call true 406 rfl rfl rfl rfl (by first | exact trivial | omega | (simp; done) | (simp; omega)) (Their_does) rfl (by first | exact .inl rfl | exact .inr rfl) rfl ?_
        simp [go_sem]
        refine DoLD.call true 408 rfl rfl rfl rfl (by first | exact trivial | omega | (simp; done) | (simp; omega)) (hC) rfl (by first | exact .inl rfl | exact .inr rfl) rfl ?_
        simp [go_sem]
        try (refine And.intro (by kernel_rfl) ?_)
        apply k5_; clear k5_
        refine Do.seqk fun _ k6_ => ?_
        refine Do.seqk fun _ k7_ => ?_
        refine Do.region [3,4,5,7,8,9,10,37] true ?_
        simp [go_sem]
        apply k7_; clear k7_
        refine Do.cond [3,4,5,7,8,9,10] rfl (fun h => ?_) (fun h => ?_) <;> simp [go_sem] at h ⊢
        refine Do.skip ?_
        simp [go_sem]
        apply k6_; clear k6_
        refine Do.seqk fun _ k8_ => ?_
        refine Do.draw [7,8,9,11,12,13] true (by kernel_rfl) ?_
        simp [go_sem]
        repeat (refine And.intro (by first | omega | (intros; omega) | (intros; exact And.intro (by assumption) (by omega)) | kernel_rfl | grind) ?_)
        refine DoLD.call true 702 rfl rfl rfl rfl (by first | exact trivial | omega | (simp; done) | (simp; omega)) (Fmt_does) rfl (by first | exact .inl rfl | exact .inr rfl) rfl ?_
        simp [go_sem]
        repeat (refine And.intro (by first | omega | (intros; omega) | (intros; exact And.intro (by assumption) (by omega)) | kernel_rfl | grind) ?_)
        refine DoLD.call true 704 rfl rfl rfl rfl (by first | exact trivial | omega | (simp; done) | (simp; omega)) (Their_does) rfl (by first | exact .inl rfl | exact .inr rfl) rfl ?_
        simp [go_sem]
        repeat (refine And.intro (by first | omega | (intros; omega) | (intros; exact And.intro (by assumption) (by omega)) | kernel_rfl | grind) ?_)
        refine DoLD.call true 706 rfl rfl rfl rfl (by first | exact trivial | omega | (simp; done) | (simp; omega)) (Their_does) rfl (by first | exact .inl rfl | exact .inr rfl) rfl ?_
        simp [go_sem]
        refine DoLD.call true 707 rfl rfl rfl rfl (by first | exact trivial | omega | (simp; done) | (simp; omega)) (hQ) rfl (by first | exact .inl rfl | exact .inr rfl) rfl ?_
        simp [go_sem]
        repeat (refine And.intro (by first | omega | (intros; omega) | (intros; exact And.intro (by assumption) (by omega)) | kernel_rfl | grind) ?_)
        try (refine And.intro (by kernel_rfl) ?_)
        apply k8_; clear k8_
        refine Do.seqk fun _ k9_ => ?_
        refine Do.seqk fun _ k10_ => ?_
        refine Do.region [7,8,9,11,12,64] true ?_
        simp [go_sem]
        repeat (refine And.intro (by first | omega | (intros; omega) | (intros; exact And.intro (by assumption) (by omega)) | grind) ?_)
        apply k10_; clear k10_
        refine Do.cond [7,8,9,11,12] rfl (fun h => ?_) (fun h => ?_) <;> simp [go_sem] at h ⊢
        refine Do.skip ?_
        simp [go_sem]
        apply k9_; clear k9_
        refine Do.seqk fun _ k11_ => ?_
        refine Do.region [6] true ?_
        simp [go_sem]
        repeat (refine And.intro (by first | omega | (intros; omega) | (intros; exact And.intro (by assumption) (by omega)) | grind) ?_)
        refine DoL.callg true 1006 rfl rfl rfl rfl rfl (by simp [go_sem] <;> omega) (fun _ => hI1) rfl (by first | exact .inl rfl | exact .inr rfl) rfl ?_
        simp [go_sem]
        repeat (refine And.intro (by first | omega | (intros; omega) | (intros; exact And.intro (by assumption) (by omega)) | grind) ?_)
        refine DoL.callg true 1011 rfl rfl rfl rfl rfl (by simp [go_sem] <;> omega) (fun _ => hI2) rfl (by first | exact .inl rfl | exact .inr rfl) rfl ?_
        simp [go_sem]
        refine DoL.callg true 1014 rfl rfl rfl rfl rfl (by simp [go_sem] <;> omega) (fun _ => awake_does) rfl (by first | exact .inl rfl | exact .inr rfl) rfl ?_
        simp [go_sem]
        apply k11_; clear k11_
        refine Do.ret ?_
        simp [endQ, rets, ret1, go_sem]
        repeat (refine And.intro (by first | omega | (intros; omega) | (intros; exact And.intro (by assumption) (by omega)) | grind) ?_)
        exact TLe.refl _
      · have hP : Does Tryz.prog Gv 22 [Fm f p, Fl x.k x.n x.e x.m, Fl y.k y.n y.e y.m] (.t [Fl 0 false 0 (nat 0), Fl 0 false 0 (nat 0), .c (.i .i64 4)]) := hP.2 hk
        have hQ := hQ.2 hk
        rw [nat_zero] at hP
        refine Does.of (nt := 93) Tryz.func5 rfl rfl rfl (by simp) ?_
        simp only [argTm, PV.ext, Ce.ext]
        refine Do.seqk fun _ k1_ => ?_
        refine Do.region [3,4,5] true ?_
        simp [go_sem]
        apply k1_; clear k1_
        refine Do.seqk fun _ k2_ => ?_
        refine Do.seqk fun _ k3_ => ?_
        refine Do.region [3,4,5,18] true ?_
        simp [go_sem]
        repeat (refine And.intro (by first | omega | (intros; omega) | (intros; exact And.intro (by assumption) (by omega)) | grind) ?_)
        refine DoL.sealS true 103 102 rfl ?_
        simp [go_sem]
        refine DoL.call true 104 rfl rfl rfl rfl (by first | exact trivial | omega | (simp; done) | (simp; omega)) (hS) rfl (by first | exact .inl rfl | exact .inr rfl) rfl ?_
        simp [go_sem]
        repeat (refine And.intro (by first | omega | (intros; omega) | (intros; exact And.intro (by assumption) (by omega)) | grind) ?_)
        apply k3_; clear k3_
        refine Do.cond [3,4,5] rfl (fun h => ?_) (fun h => ?_) <;> simp [go_sem] at h ⊢
        refine Do.skip ?_
        simp [go_sem]
        apply k2_; clear k2_
        refine Do.seqk fun _ k4_ => ?_
        refine Do.region [3,4,5,7,8,9] true ?_
        simp [go_sem]
        repeat (refine And.intro (by first | omega | (intros; omega) | (intros; exact And.intro (by assumption) (by omega)) | grind) ?_)
        refine DoL.call true 304 rfl rfl rfl rfl (by first | exact trivial | omega | (simp; done) | (simp; omega)) (hP) rfl (by first | exact .inl rfl | exact .inr rfl) rfl ?_
        simp [go_sem]
        repeat (refine And.intro (by first | omega | (intros; omega) | (intros; exact And.intro (by assumption) (by omega)) | grind) ?_)
        apply k4_; clear k4_
        refine Do.seqk fun _ k5_ => ?_
        refine Do.draw [3,4,5,7,8,9,10] true (by kernel_rfl) ?_
        simp [go_sem]
        repeat (refine And.intro (by first | omega | (intros; omega) | (intros; exact And.intro (by assumption) (by omega)) | kernel_rfl | grind) ?_)
        refine DoLD.call true 402 rfl rfl rfl rfl (by first | exact trivial | omega | (simp; done) | (simp; omega)) (Fmt_does) rfl (by first | exact .inl rfl | exact .inr rfl) rfl ?_
        simp [go_sem]
        repeat (refine And.intro (by first | omega | (intros; omega) | (intros; exact And.intro (by assumption) (by omega)) | kernel_rfl | grind) ?_)
        refine DoLD.call true 404 rfl rfl rfl rfl (by first | exact trivial | omega | (simp; done) | (simp; omega)) (Their_does) rfl (by first | exact .inl rfl | exact .inr rfl) rfl ?_
        simp [go_sem]
        repeat (refine And.intro (by first | omega | (intros; omega) | (intros; exact And.intro (by assumption) (by omega)) | kernel_rfl | grind) ?_)
        refine DoLD.call true 406 rfl rfl rfl rfl (by first | exact trivial | omega | (simp; done) | (simp; omega)) (Their_does) rfl (by first | exact .inl rfl | exact .inr rfl) rfl ?_
        simp [go_sem]
        refine DoLD.call true 408 rfl rfl rfl rfl (by first | exact trivial | omega | (simp; done) | (simp; omega)) (hC) rfl (by first | exact .inl rfl | exact .inr rfl) rfl ?_
        simp [go_sem]
        try (refine And.intro (by kernel_rfl) ?_)
        apply k5_; clear k5_
        refine Do.seqk fun _ k6_ => ?_
        refine Do.seqk fun _ k7_ => ?_
        refine Do.region [3,4,5,7,8,9,10,37] true ?_
        simp [go_sem]
        apply k7_; clear k7_
        refine Do.cond [3,4,5,7,8,9,10] rfl (fun h => ?_) (fun h => ?_) <;> simp [go_sem] at h ⊢
        refine Do.skip ?_
        simp [go_sem]
        apply k6_; clear k6_
        refine Do.seqk fun _ k8_ => ?_
        refine Do.draw [7,8,9,11,12,13] true (by kernel_rfl) ?_
        simp [go_sem]
        repeat (refine And.intro (by first | omega | (intros; omega) | (intros; exact And.intro (by assumption) (by omega)) | kernel_rfl | grind) ?_)
        refine DoLD.call true 702 rfl rfl rfl rfl (by first | exact trivial | omega | (simp; done) | (simp; omega)) (Fmt_does) rfl (by first | exact .inl rfl | exact .inr rfl) rfl ?_
        simp [go_sem]
        repeat (refine And.intro (by first | omega | (intros; omega) | (intros; exact And.intro (by assumption) (by omega)) | kernel_rfl | grind) ?_)
        refine DoLD.call true 704 rfl rfl rfl rfl (by first | exact trivial | omega | (simp; done) | (simp; omega)) (Their_does) rfl (by first | exact .inl rfl | exact .inr rfl) rfl ?_
        simp [go_sem]
        repeat (refine And.intro (by first | omega | (intros; omega) | (intros; exact And.intro (by assumption) (by omega)) | kernel_rfl | grind) ?_)
        refine DoLD.call true 706 rfl rfl rfl rfl (by first | exact trivial | omega | (simp; done) | (simp; omega)) (Their_does) rfl (by first | exact .inl rfl | exact .inr rfl) rfl ?_
        simp [go_sem]
        refine DoLD.call true 707 rfl rfl rfl rfl (by first | exact trivial | omega | (simp; done) | (simp; omega)) (hQ) rfl (by first | exact .inl rfl | exact .inr rfl) rfl ?_
        simp [go_sem]
        repeat (refine And.intro (by first | omega | (intros; omega) | (intros; exact And.intro (by assumption) (by omega)) | kernel_rfl | grind) ?_)
        try (refine And.intro (by kernel_rfl) ?_)
        apply k8_; clear k8_
        refine Do.seqk fun _ k9_ => ?_
        refine Do.seqk fun _ k10_ => ?_
        refine Do.region [7,8,9,11,12,64] true ?_
        simp [go_sem]
        repeat (refine And.intro (by first | omega | (intros; omega) | (intros; exact And.intro (by assumption) (by omega)) | grind) ?_)
        apply k10_; clear k10_
        refine Do.cond [7,8,9,11,12] rfl (fun h => ?_) (fun h => ?_) <;> simp [go_sem] at h ⊢
        refine Do.seqk fun _ k11_ => ?_
        refine Do.region [6] true ?_
        simp [go_sem]
        repeat (refine And.intro (by first | omega | (intros; omega) | (intros; exact And.intro (by assumption) (by omega)) | grind) ?_)
        refine DoL.callg true 905 rfl rfl rfl rfl rfl (by simp [go_sem] <;> omega) (fun _ => hN) rfl (by first | exact .inl rfl | exact .inr rfl) rfl ?_
        simp [go_sem]
        repeat (refine And.intro (by first | omega | (intros; omega) | (intros; exact And.intro (by assumption) (by omega)) | grind) ?_)
        refine DoL.callg true 909 rfl rfl rfl rfl rfl (by simp [go_sem] <;> omega) (fun _ => hN) rfl (by first | exact .inl rfl | exact .inr rfl) rfl ?_
        simp [go_sem]
        refine DoL.callg true 912 rfl rfl rfl rfl rfl (by simp [go_sem] <;> omega) (fun _ => awake_does) rfl (by first | exact .inl rfl | exact .inr rfl) rfl ?_
        simp [go_sem]
        apply k11_; clear k11_
        refine Do.ret ?_
        simp [endQ, rets, ret1, go_sem]
        repeat (refine And.intro (by first | omega | (intros; omega) | (intros; exact And.intro (by assumption) (by omega)) | grind) ?_)
        exact TLe.refl _
    · have hP : Does Tryz.prog Gv 22 [Fm f p, Fl x.k x.n x.e x.m, Fl y.k y.n y.e y.m] (.t [Fl 0 false 0 (nat 0), Fl 0 false 0 (nat 0), .c (.i .i64 (argsE f p 0 false [x, y]))]) := Pair_err ox oy he
      rw [nat_zero] at hP
      generalize argsE f p 0 false [x, y] = ae at *
      refine Does.of (nt := 93) Tryz.func5 rfl rfl rfl (by simp) ?_
      simp only [argTm, PV.ext, Ce.ext]
      refine Do.seqk fun _ k1_ => ?_
      refine Do.region [3,4,5] true ?_
      simp [go_sem]
      apply k1_; clear k1_
      refine Do.seqk fun _ k2_ => ?_
      refine Do.seqk fun _ k3_ => ?_
      refine Do.region [3,4,5,18] true ?_
      simp [go_sem]
      repeat (refine And.intro (by first | omega | (intros; omega) | (intros; exact And.intro (by assumption) (by omega)) | grind) ?_)
      refine DoL.sealS true 103 102 rfl ?_
      simp [go_sem]
      refine DoL.call true 104 rfl rfl rfl rfl (by first | exact trivial | omega | (simp; done) | (simp; omega)) (hS) rfl (by first | exact .inl rfl | exact .inr rfl) rfl ?_
      simp [go_sem]
      repeat (refine And.intro (by first | omega | (intros; omega) | (intros; exact And.intro (by assumption) (by omega)) | grind) ?_)
      apply k3_; clear k3_
      refine Do.cond [3,4,5] rfl (fun h => ?_) (fun h => ?_) <;> simp [go_sem] at h ⊢
      refine Do.skip ?_
      simp [go_sem]
      apply k2_; clear k2_
      refine Do.seqk fun _ k4_ => ?_
      refine Do.region [3,4,5,7,8,9] true ?_
      simp [go_sem]
      repeat (refine And.intro (by first | omega | (intros; omega) | (intros; exact And.intro (by assumption) (by omega)) | grind) ?_)
      refine DoL.call true 304 rfl rfl rfl rfl (by first | exact trivial | omega | (simp; done) | (simp; omega)) (hP) rfl (by first | exact .inl rfl | exact .inr rfl) rfl ?_
      simp [go_sem]
      repeat (refine And.intro (by first | omega | (intros; omega) | (intros; exact And.intro (by assumption) (by omega)) | grind) ?_)
      apply k4_; clear k4_
      refine Do.seqk fun _ k5_ => ?_
      refine Do.draw [3,4,5,7,8,9,10] true (by kernel_rfl) ?_
      simp [go_sem]
      repeat (refine And.intro (by first | omega | (intros; omega) | (intros; exact And.intro (by assumption) (by omega)) | kernel_rfl | grind) ?_)
      refine DoLD.call true 402 rfl rfl rfl rfl (by first | exact trivial | omega | (simp; done) | (simp; omega)) (Fmt_does) rfl (by first | exact .inl rfl | exact .inr rfl) rfl ?_
      simp [go_sem]
      repeat (refine And.intro (by first | omega | (intros; omega) | (intros; exact And.intro (by assumption) (by omega)) | kernel_rfl | grind) ?_)
      refine DoLD.call true 404 rfl rfl rfl rfl (by first | exact trivial | omega | (simp; done) | (simp; omega)) (Their_does) rfl (by first | exact .inl rfl | exact .inr rfl) rfl ?_
      simp [go_sem]
      repeat (refine And.intro (by first | omega | (intros; omega) | (intros; exact And.intro (by assumption) (by omega)) | kernel_rfl | grind) ?_)
      refine DoLD.call true 406 rfl rfl rfl rfl (by first | exact trivial | omega | (simp; done) | (simp; omega)) (Their_does) rfl (by first | exact .inl rfl | exact .inr rfl) rfl ?_
      simp [go_sem]
      refine DoLD.call true 408 rfl rfl rfl rfl (by first | exact trivial | omega | (simp; done) | (simp; omega)) (hC) rfl (by first | exact .inl rfl | exact .inr rfl) rfl ?_
      simp [go_sem]
      try (refine And.intro (by kernel_rfl) ?_)
      apply k5_; clear k5_
      refine Do.seqk fun _ k6_ => ?_
      refine Do.seqk fun _ k7_ => ?_
      refine Do.region [3,4,5,7,8,9,10,37] true ?_
      simp [go_sem]
      apply k7_; clear k7_
      refine Do.cond [3,4,5,7,8,9,10] rfl (fun h5 => ?_) (fun h5 => ?_) <;> simp [go_sem] at h5 ⊢
      · refine Do.seqk fun _ k8_ => ?_
        refine Do.region [6] true ?_
        simp [go_sem]
        repeat (refine And.intro (by first | omega | (intros; omega) | (intros; exact And.intro (by assumption) (by omega)) | grind) ?_)
        refine DoL.callg true 606 rfl rfl rfl rfl rfl (by simp [go_sem] <;> omega) (fun _ => hN) rfl (by first | exact .inl rfl | exact .inr rfl) rfl ?_
        simp [go_sem]
        repeat (refine And.intro (by first | omega | (intros; omega) | (intros; exact And.intro (by assumption) (by omega)) | grind) ?_)
        refine DoL.callg true 610 rfl rfl rfl rfl rfl (by simp [go_sem] <;> omega) (fun _ => hN) rfl (by first | exact .inl rfl | exact .inr rfl) rfl ?_
        simp [go_sem]
        refine DoL.callg true 613 rfl rfl rfl rfl rfl (by simp [go_sem] <;> omega) (fun _ => awake_does) rfl (by first | exact .inl rfl | exact .inr rfl) rfl ?_
        simp [go_sem]
        apply k8_; clear k8_
        refine Do.ret ?_
        simp [endQ, rets, ret1, go_sem]
        repeat (refine And.intro (by first | omega | (intros; omega) | (intros; exact And.intro (by assumption) (by omega)) | grind) ?_)
        exact TLe.refl _
      · exact absurd h5 he
end Go.Proofs.YtdaecibpkhcllaaGreatDoor
/- Expansions: the floats that add up to a sum. No condition. -/
namespace Go.Proofs.YtdaecibpkhcllaaGreatDoor
set_option linter.unusedVariables false
set_option linter.unusedSimpArgs false
set_option maxHeartbeats 4000000
set_option maxRecDepth 10000
/-- The float nearest to what is left, and what is left then. -/
def stepX (f p R : Int) : Flt := (roundP f p 0 (decide (R < 0)) R.natAbs (tiny f p) false).1
def nextX (f p R : Int) : Int := R - fv (tiny f p) (stepX f p R)
/-- The floats that add up to R. -/
def expX (f p : Int) : Nat → Int → Option (List Flt)
  | 0, _ => none
  | n + 1, R => if R = 0 then some [] else if (stepX f p R).k = 2 then none else (expX f p n (nextX f p R)).map (stepX f p R :: ·)
/-- A float of an expansion. -/
structure Exf (f p : Int) (x : Flt) : Prop where
  k : x.k = 1
  low : tiny f p ≤ x.e
  fine : Fine x
  fix : rcanon x = x
theorem stepX_fine {f p : Int} (hf : fmOk f p = true) (R : Int) : Fine (stepX f p R) := roundP_fine hf
theorem stepX_kinds {f p : Int} (hf : fmOk f p = true) (R : Int) : (stepX f p R).k = 0 ∨ (stepX f p R).k = 1 ∨ (stepX f p R).k = 2 ∨ (stepX f p R).k = 3 := (canon_kind (stepX_fine hf R).can).1
theorem stepX_spec {f p : Int} (hf : fmOk f p = true) {R : Int} (hR : R ≠ 0) (hk : (stepX f p R).k ≠ 2) : Exf f p (stepX f p R) ∧ bl (nextX f p R).natAbs < bl R.natAbs := by
  obtain ⟨b1, b2, b3, b4⟩ := fmOk_spec hf
  obtain ⟨q, j, hn, hm, hv⟩ := round_step hf hR hk
  have hV : 0 < R.natAbs := by omega
  have hj : 0 < 2 ^ j := Nat.pow_pos (by decide)
  have hlow := hn.low
  have hup := hn.up
  have hdn := hn.down
  have hbig : 2 ^ j ≤ R.natAbs ∧ (2 ^ j = 1 ∨ 2 * 2 ^ j ≤ R.natAbs) := by
    rcases hn.big with h | h
    · have : j = 0 := by omega
      subst this
      simp; omega
    · have h2 : 2 ≤ 2 ^ (p.toNat - 1) := by
        obtain ⟨m, hm⟩ : ∃ m, p.toNat - 1 = m + 1 := ⟨p.toNat - 2, by omega⟩
        have := Nat.pow_pos (n := m) (show 0 < 2 by decide)
        rw [hm, Nat.pow_succ]; omega
      have := Nat.mul_le_mul_right (2 ^ j) h2
      omega
  have hq : q ≠ 0 := by
    intro e
    subst e
    simp only [Nat.zero_mul] at hup
    omega
  have e1 : stepX f p R = ⟨1, decide (R < 0), tiny f p + j + tz q, q / 2 ^ tz q⟩ := by
    show (roundP f p 0 (decide (R < 0)) R.natAbs (tiny f p) false).1 = _
    rw [hm, mkP, if_neg hq]
  refine ⟨⟨by rw [e1], by rw [e1]; simp only []; omega, stepX_fine hf R, roundP_fix hf⟩, ?_⟩
  have e2 : (nextX f p R).natAbs = ((R.natAbs : Int) - (q * 2 ^ j : Nat)).natAbs := by
    have e3 : fv (tiny f p) (stepX f p R) = sgn (decide (R < 0)) (q * 2 ^ j) := hv
    unfold nextX
    rw [e3]
    generalize q * 2 ^ j = X
    unfold sgn
    split <;> rename_i h <;> simp at h <;> omega
  have hp := bl_pos hV
  have hlt := bl_self R.natAbs
  obtain ⟨m, hm2⟩ : ∃ m, bl R.natAbs = m + 1 := ⟨bl R.natAbs - 1, by omega⟩
  rw [hm2, Nat.pow_succ] at hlt
  rw [hm2, e2]
  refine Nat.lt_succ_of_le ((bl_lt _ _).2 ?_)
  generalize q * 2 ^ j = X at *
  generalize 2 ^ m = M at *
  omega
theorem expX_next {f p : Int} {n : Nat} {R : Int} (hR : R ≠ 0) (hk : (stepX f p R).k ≠ 2) {N : Nat} {R0 : Int} {out : List Flt} (h : expX f p N R0 = (expX f p (n + 1) R).map (out ++ ·)) : expX f p N R0 = (expX f p n (nextX f p R)).map ((out ++ [stepX f p R]) ++ ·) := by
  rw [h, expX, if_neg hR, if_neg hk, Option.map_map]
  congr 1
  funext l
  simp
theorem expX_all {f p : Int} (hf : fmOk f p = true) : ∀ {n : Nat} {R : Int} {out : List Flt}, expX f p n R = some out → ∀ x ∈ out, Exf f p x
  | 0, R, out, h => by simp [expX] at h
  | n + 1, R, out, h => by
    rw [expX] at h
    split at h
    · injection h with h; subst h; intro x hx; cases hx
    · rename_i hR
      split at h
      · cases h
      · rename_i hk
        obtain ⟨l, h1, h2⟩ := Option.map_eq_some_iff.1 h
        subst h2
        intro x hx
        rcases List.mem_cons.1 hx with rfl | hx
        · exact (stepX_spec hf hR hk).1
        · exact expX_all hf h1 x hx
theorem expX_len {f p : Int} : ∀ {n : Nat} {R : Int} {out : List Flt}, expX f p n R = some out → out.length < n
  | 0, R, out, h => by simp [expX] at h
  | n + 1, R, out, h => by
    rw [expX] at h
    split at h
    · injection h with h; subst h; simp
    · split at h
      · cases h
      · obtain ⟨l, h1, h2⟩ := Option.map_eq_some_iff.1 h
        subst h2
        have := expX_len h1
        simp; omega
/-- What Expand answers. -/
def expandP (f p : Int) (L : List Flt) : Option (List Flt) := if (L.any fun x => x.k == 2 || x.k == 3) = true then none else expX f p (bl (svs (tiny f p) L).natAbs + 1) (svs (tiny f p) L)
theorem float_kinds {f p : Int} (hf : fmOk f p = true) {L : List Flt} (hL : ∀ x ∈ L, x.k = 1 → tiny f p ≤ x.e) (hk : (L.any fun x => x.k == 2 || x.k == 3) = false) : (svs (tiny f p) L = 0 → ((gatherP L).float f p 0).1.k = 0) ∧ (svs (tiny f p) L ≠ 0 → ((gatherP L).float f p 0).1 = stepX f p (svs (tiny f p) L)) := by
  have hG := gather_is (tiny_le hf).1 hL
  have hr := fun q => Nu.round_sv hG.low (b := ⟨decide (svs (tiny f p) L < 0), (svs (tiny f p) L).natAbs, tiny f p⟩) (Int.le_refl _) (by rw [hG.sum, sv_abs]) f p 0 q
  rw [List.any_eq_false] at hk
  have h3 : (gatherP L).nan = false := by
    rw [hG.nan, List.any_eq_false]; intro x hx; have := hk x hx; simp at this; simp [this.2]
  have h2 : (gatherP L).plus = false := by
    rw [hG.plus, List.any_eq_false]; intro x hx; have := hk x hx; simp at this; simp [this.1]
  have h1 : (gatherP L).minus = false := by
    rw [hG.minus, List.any_eq_false]; intro x hx; have := hk x hx; simp at this; simp [this.1]
  unfold Ga.float
  rw [h3, h2, h1, hG.inv]
  simp only [Bool.or_self, Bool.false_and, Bool.false_eq_true, if_false, hr]
  refine ⟨fun hS => ?_, fun hS => ?_⟩
  · rw [Nu.round, if_pos (by simp only []; omega)]
  · rw [Nu.round, if_neg (by simp only []; omega)]; rfl
/-- A rounded sum that is no number has no expansion. -/
theorem expandP_none {f p : Int} (hf : fmOk f p = true) {L : List Flt} (hL : ∀ x ∈ L, x.k = 1 → tiny f p ≤ x.e) (hk : ¬ (((gatherP L).float f p 0).1.k = 1 ∨ ((gatherP L).float f p 0).1.k = 0)) : expandP f p L = none := by
  unfold expandP
  cases ha : L.any fun x => x.k == 2 || x.k == 3 with
  | true => rw [if_pos rfl]
  | false =>
    rw [if_neg (by decide)]
    obtain ⟨h1, h2⟩ := float_kinds hf hL ha
    by_cases hS : svs (tiny f p) L = 0
    · exact absurd (.inr (h1 hS)) hk
    · have e := h2 hS
      rw [e] at hk
      rw [expX, if_neg hS, if_pos]
      have := stepX_kinds hf (svs (tiny f p) L)
      have h3 : (stepX f p (svs (tiny f p) L)).k ≠ 3 := by
        unfold stepX roundP
        simp only []
        split
        · split <;> simp
        · unfold mkP; split <;> simp
      omega
theorem sum_bl {f p : Int} (hf : fmOk f p = true) {L : List Flt} (hl : L.length < 1099511627776) (h : ∀ x ∈ L, x.k = 1 → tiny f p ≤ x.e ∧ x.e + bl x.v ≤ gOfE f + 1) : bl (svs (tiny f p) L).natAbs ≤ 200000 := by
  obtain ⟨b1, b2, b3, b4⟩ := fmOk_spec hf
  obtain ⟨b5, b6⟩ := gOfE_le b1 b2
  obtain ⟨t0, t1⟩ := tiny_le hf
  obtain ⟨K, hK⟩ : ∃ K, K = 150000 := ⟨_, rfl⟩
  have hb := @svs_bound (tiny f p) (2 ^ K) L fun x hx hk => Nat.le_of_lt ((bl_lt _ _).1 (by
    obtain ⟨h1, h2⟩ := h x hx hk
    by_cases h0 : x.v = 0
    · rw [h0]; simp [bl_zero]
    · rw [bl_mul_pow _ _ (by omega)]; omega))
  have h2 : bl (svs (tiny f p) L).natAbs ≤ 40 + K := by
    rw [bl_lt]
    refine Nat.lt_of_le_of_lt hb ?_
    rw [Nat.pow_add]
    exact Nat.mul_lt_mul_of_pos_right hl (Nat.pow_pos (by decide))
  omega
theorem sv_natAbs (z : Int) (y : Nu) : (y.sv z).natAbs = y.v * 2 ^ (y.e - z).toNat := by
  unfold Nu.sv
  split
  · rw [Int.natAbs_neg, Int.natAbs_natCast]
  · rw [Int.natAbs_natCast]
theorem round_rcanon {f p r : Int} {n : Bool} {v : Nat} {e : Int} (hv : 0 < v) : roundP f p r n (rcanon ⟨1, n, e, v⟩).v (rcanon ⟨1, n, e, v⟩).e false = roundP f p r n v e false := by
  obtain ⟨m, hm⟩ := tz_form hv
  have e1 : v / 2 ^ tz v = 2 * m + 1 := by
    conv => lhs; arg 1; rw [hm]
    exact Nat.mul_div_cancel_left _ (Nat.pow_pos (by decide))
  have e2 : rcanon ⟨1, n, e, v⟩ = ⟨1, n, e + tz v, v / 2 ^ tz v⟩ := by simp [rcanon]
  rw [e2]
  simp only []
  have h := @roundP_scale f p r n (v / 2 ^ tz v) (tz v) (e + tz v) (by omega)
  rw [← h, show e + (tz v : Int) - (tz v : Nat) = e by omega]
  congr 1
  rw [e1, Nat.mul_comm]
  exact hm.symm
end Go.Proofs.YtdaecibpkhcllaaGreatDoor
/- The program's Expand. No condition. -/
namespace Go.Proofs.YtdaecibpkhcllaaGreatDoor
set_option linter.unusedVariables false
set_option linter.unusedSimpArgs false
set_option maxHeartbeats 4000000
set_option maxRecDepth 10000
def resX : Option (List Flt) → TV
  | some out => .t [.s true (out.map Flt.cs), .c (.i .i64 0)]
  | none => .t [.c .z, .c (.i .i64 4)]
theorem stepX_not3 (f p R : Int) : (stepX f p R).k ≠ 3 := by
  unfold stepX roundP
  simp only []
  split
  · split <;> simp
  · unfold mkP; split <;> simp
theorem expX_stop {f p : Int} {n : Nat} {R : Int} (hn : 0 < n) (hR : R ≠ 0) (hk : (stepX f p R).k = 2) : expX f p n R = none := by
  obtain ⟨m, rfl⟩ : ∃ m, n = m + 1 := ⟨n - 1, by omega⟩
  rw [expX, if_neg hR, if_pos hk]
theorem expX_zero {f p : Int} {n : Nat} (hn : 0 < n) : expX f p n 0 = some [] := by
  obtain ⟨m, rfl⟩ : ∃ m, n = m + 1 := ⟨n - 1, by omega⟩
  rw [expX, if_pos rfl]
theorem held_top {f p : Int} (hf : fmOk f p = true) {l : List Fla} (h : allHold f p l = true) : ∀ x ∈ heldL f p l, x.k = 1 → tiny f p ≤ x.e ∧ x.e + bl x.v ≤ gOfE f + 1 := by
  intro y hy hk
  obtain ⟨x, hx, rfl⟩ := List.mem_map.1 hy
  have hh : (holdsP f p x.flt).2 = true := by simpa using List.all_eq_true.1 h x hx
  refine ⟨held_low hh hk, ?_⟩
  unfold holdsP at *
  split at hh
  · rename_i hc
    rw [if_pos hc] at hk
    rcases hc with hc | hc
    · rw [hh] at hc; cases hc
    · exact absurd hk hc
  · rename_i hc
    rw [if_neg hc]
    simp only [Bool.and_eq_true, decide_eq_true_eq] at hh
    simp only []; omega
theorem SExpand_does {f p : Int} {l : List Fla} (hl : l.length ≤ 1000) (ho : ∀ x ∈ l, x.Ok) (he : argsE f p 0 (decide ((1000 : Int) < l.length)) l = 0) : Does Tryz.prog Gv 27 [Fm f p, Rows l] (resX (expandP f p (heldL f p l))) := by
  have hA := Args_own (by omega) ho he
  obtain ⟨h1, h2, h3, h4, h5, h6⟩ := argsE_zero he
  have hll : (heldL f p l).length = l.length := by simp [heldL]
  obtain ⟨hG, hS⟩ := gather_fine (heldL_fine h5 h6) (by omega)
  have htop := held_top h5 h6
  have hlow : ∀ x ∈ heldL f p l, x.k = 1 → tiny f p ≤ x.e := fun x hx hk => (htop x hx hk).1
  have hT := @total_does f p 0 h5 (by decide) (by decide) (heldL f p l) (by omega) hG hS
  have hbl := sum_bl h5 (by omega) htop
  have hnone := @expandP_none f p h5 (heldL f p l) hlow
  have hnum := @float_number f p h5 (heldL f p l) hlow
  have hGI := gather_is (tiny_le h5).1 hlow
  obtain ⟨t0, t1⟩ := tiny_le h5
  have hVa := @Values_does Gv ((heldL f p l).map Flt.cs)
  have hGa := @gather_does (heldL f p l) (by omega) hG
  generalize hE : expandP f p (heldL f p l) = E at *
  have hsv := hGI.sum
  have hlo := hGI.low
  have hany : (((gatherP (heldL f p l)).float f p 0).1.k = 1 ∨ ((gatherP (heldL f p l)).float f p 0).1.k = 0) → E = expX f p (bl (svs (tiny f p) (heldL f p l)).natAbs + 1) (svs (tiny f p) (heldL f p l)) := fun hk => by
    obtain ⟨hk2, _⟩ := hnum (by omega)
    rw [← hE, expandP, if_neg]
    simp only [List.any_eq_true, not_exists]
    intro x hx
    have := hk2 x hx.1
    simp [this] at hx
  generalize heldL f p l = L at *
  generalize ((gatherP L).float f p 0).1 = s at *
  generalize ((gatherP L).float f p 0).2 = fl at *
  generalize gatherP L = g at *
  generalize hR0 : svs (tiny f p) L = R0 at *
  refine Does.of (nt := 63) Tryz.func27 rfl rfl rfl (by simp) ?_
  simp only [argTm, PV.ext, Ce.ext]
  refine Do.seqk fun _ k1_ => ?_
  refine Do.region [1,2] true ?_
  simp [go_sem]
  apply k1_; clear k1_
  refine Do.seqk fun _ k2_ => ?_
  refine Do.region [1,2,6] true ?_
  simp [go_sem]
  repeat (refine And.intro (by first | omega | (intros; omega) | (intros; exact And.intro (by assumption) (by omega)) | grind) ?_)
  refine DoL.callO true 106 3000 rfl rfl rfl rfl (by first | exact trivial | omega | (simp; done) | (simp; omega)) (hA) rfl rfl rfl ?_
  simp [go_sem]
  apply k2_; clear k2_
  refine Do.seqk fun _ k3_ => ?_
  refine Do.seqk fun _ k4_ => ?_
  refine Do.region [1,2,6,23] true ?_
  simp [go_sem]
  apply k4_; clear k4_
  refine Do.cond [1,2,6] rfl (fun h => ?_) (fun h => ?_) <;> simp [go_sem] at h ⊢
  refine Do.skip ?_
  simp [go_sem]
  apply k3_; clear k3_
  refine Do.seqk fun _ k5_ => ?_
  refine Do.seqk fun _ k6_ => ?_
  refine Do.region [1,2,7] true ?_
  simp [go_sem]
  repeat (refine And.intro (by first | omega | (intros; omega) | (intros; exact And.intro (by assumption) (by omega)) | grind) ?_)
  refine DoL.sealS true 402 3000 rfl ?_
  simp [go_sem]
  refine DoL.call true 403 rfl rfl rfl rfl (by first | exact trivial | omega | (simp; done) | (simp; omega)) (hT) rfl (by first | exact .inl rfl | exact .inr rfl) rfl ?_
  simp [go_sem]
  repeat (refine And.intro (by first | omega | (intros; omega) | (intros; exact And.intro (by assumption) (by omega)) | grind) ?_)
  apply k6_; clear k6_
  refine Do.seqk fun _ k7_ => ?_
  refine Do.region [1,2,33] true ?_
  simp [go_sem]
  repeat (refine And.intro (by first | omega | (intros; omega) | (intros; exact And.intro (by assumption) (by omega)) | grind) ?_)
  refine DoL.call true 502 rfl rfl rfl rfl (by first | exact trivial | omega | (simp; done) | (simp; omega)) (number_does) rfl (by first | exact .inl rfl | exact .inr rfl) rfl ?_
  simp [go_sem]
  repeat (refine And.intro (by first | omega | (intros; omega) | (intros; exact And.intro (by assumption) (by omega)) | grind) ?_)
  apply k7_; clear k7_
  refine Do.cond [1,2] rfl (fun h7 => ?_) (fun h7 => ?_) <;> simp [go_sem] at h7 ⊢
  · refine Do.seqk fun _ k8_ => ?_
    refine Do.region [4,5] true ?_
    simp [go_sem]
    apply k8_; clear k8_
    refine Do.ret ?_
    simp [endQ, rets, ret1, go_sem]
    repeat (refine And.intro (by first | omega | (intros; omega) | (intros; exact And.intro (by assumption) (by omega)) | grind) ?_)
    rw [hnone (by omega)]
    exact TLe.refl _
  · have hEx := hany (by omega)
    refine Do.skip ?_
    simp [go_sem]
    apply k5_; clear k5_
    refine Do.seqk fun _ k9_ => ?_
    refine Do.region [1,2,9] true ?_
    simp [go_sem]
    apply k9_; clear k9_
    refine Do.seqk fun _ k10_ => ?_
    refine Do.seqk fun _ k11_ => ?_
    refine Do.own 9 900 4 rfl rfl (by decide) ?_
    simp [go_sem]
    refine Do.region [2,9,10] true ?_
    simp [go_sem]
    refine DoL.call true 802 rfl rfl rfl rfl (by first | exact trivial | omega | (simp; done) | (simp; omega)) (hVa) rfl (by first | exact .inl rfl | exact .inr rfl) rfl ?_
    simp [go_sem]
    refine DoL.call true 803 rfl rfl rfl rfl (by first | exact trivial | omega | (simp; done) | (simp; omega)) (hGa) rfl (by first | exact .inl rfl | exact .inr rfl) rfl ?_
    simp [go_sem]
    repeat (refine And.intro (by first | omega | (intros; omega) | (intros; exact And.intro (by assumption) (by omega)) | grind) ?_)
    refine DoL.turn true 803 36 rfl ?_
    simp [go_sem]
    apply k11_; clear k11_
    refine Do.block ?_
    refine Do.rename 806 1500 10 rfl rfl rfl rfl rfl (by decide) ?_
    simp [go_sem, put, del]
    refine Do.loopF [2,9,10] (fun (s : List Flt × Nu × Nat) => [(9, .v (.c (.r 900 s.1.length))), (10, .v (.c (.p 1500 0)))]) (fun (s : List Flt × Nu × Nat) => [(900, .sr 4 (s.1.map Flt.cs)), (1500, .box [.b s.2.1.n, .w false (nat s.2.1.v), .i .i64 s.2.1.e])]) (fun (s : List Flt × Nu × Nat) => tiny f p ≤ s.2.1.e ∧ expX f p (bl R0.natAbs + 1) R0 = (expX f p s.2.2 (s.2.1.sv (tiny f p))).map (s.1 ++ ·) ∧ bl (s.2.1.sv (tiny f p)).natAbs < s.2.2 ∧ s.1.length + s.2.2 ≤ 300000) (fun (s : List Flt × Nu × Nat) => s.2.2) (([], g.sum, bl R0.natAbs + 1)) (fun _ => by first | (simp [go_sem, mixS]; done) | (simp [go_sem, mixS]; rfl)) (St.le_of (by first | rfl | simp [keep]) (by first | rfl | simp [keep])) (⟨hlo, by simp [hsv], by show bl (Nu.sv (tiny f p) g.sum).natAbs < bl R0.natAbs + 1; rw [hsv]; omega, by show 0 + (bl R0.natAbs + 1) ≤ 300000; omega⟩) ?_
    rintro ⟨out, y, n⟩ ⟨i1, i2, i3, i4⟩
    simp only [] at i1 i2 i3 i4
    have hna := sv_natAbs (tiny f p) y
    have hyv : y.v ≠ 0 → -4194304 ≤ y.e ∧ y.e + bl y.v ≤ 300000 := fun h => by
      rw [hna, bl_mul_pow _ _ (by omega)] at i3; omega
    have hylen : (nat y.v).length ≤ 300000 := by
      by_cases h : y.v = 0
      · rw [h, nat_zero]; simp
      · have := hyv h
        rw [hna, bl_mul_pow _ _ (by omega)] at i3
        have := nat_len_bl y.v; omega
    have hyz : y.v = 0 ↔ y.sv (tiny f p) = 0 := by
      have hp : 0 < 2 ^ (y.e - tiny f p).toNat := Nat.pow_pos (by decide)
      constructor
      · intro h; rw [h, Nat.zero_mul] at hna; omega
      · intro h
        rw [h] at hna
        rcases Nat.mul_eq_zero.1 hna.symm with h | h
        · exact h
        · omega
    have hRr := Nu.round_sv i1 (b := ⟨decide (y.sv (tiny f p) < 0), (y.sv (tiny f p)).natAbs, tiny f p⟩) (Int.le_refl _) (by rw [sv_abs]) f p 0 false
    have hN := @NZero_does Gv y.n y.e (nat y.v) (by omega)
    rw [val_nat] at hN
    refine Do.seqk fun _ k12_ => ?_
    refine Do.seqk fun _ k13_ => ?_
    refine Do.region [2,9,10,42] true ?_
    simp [go_sem]
    repeat (refine And.intro (by first | omega | (intros; omega) | (intros; exact And.intro (by assumption) (by omega)) | grind) ?_)
    refine DoL.call true 902 rfl rfl rfl rfl (by first | exact trivial | omega | (simp; done) | (simp; omega)) (hN) rfl (by first | exact .inl rfl | exact .inr rfl) rfl ?_
    simp [go_sem]
    repeat (refine And.intro (by first | omega | (intros; omega) | (intros; exact And.intro (by assumption) (by omega)) | grind) ?_)
    apply k13_; clear k13_
    refine Do.cond [2,9,10] rfl (fun h6 => ?_) (fun h6 => ?_) <;> simp [go_sem] at h6 ⊢
    · have hy0 : y.v ≠ 0 := by simpa using h6
      obtain ⟨g1, g2⟩ := hyv hy0
      have hR : y.sv (tiny f p) ≠ 0 := fun h => hy0 (hyz.2 h)
      have hF := @NFloat_does f p 0 h5 (by decide) (by decide) y false ⟨g1, by omega⟩
      have hst : (y.round f p 0 false).1 = stepX f p (y.sv (tiny f p)) := by
        rw [hRr, Nu.round, if_neg (by simp only []; omega)]; rfl
      rw [hst] at hF
      generalize (y.round f p 0 false).2 = fl2 at *
      have hkinds := stepX_kinds h5 (y.sv (tiny f p))
      have hk3 := stepX_not3 f p (y.sv (tiny f p))
      have hstop := @expX_stop f p n (y.sv (tiny f p)) (by omega) hR
      have hspec := @stepX_spec f p h5 (y.sv (tiny f p)) hR
      obtain ⟨n', rfl⟩ : ∃ n', n = n' + 1 := ⟨n - 1, by omega⟩
      have hnext := fun hk => expX_next hR hk i2
      have hnx : nextX f p (y.sv (tiny f p)) = y.sv (tiny f p) - fv (tiny f p) (stepX f p (y.sv (tiny f p))) := rfl
      generalize stepX f p (y.sv (tiny f p)) = x at *
      refine Do.skip ?_
      simp [go_sem]
      apply k12_; clear k12_
      refine Do.seqk fun _ k14_ => ?_
      refine Do.block ?_
      refine Do.seqk fun _ k15_ => ?_
      refine Do.region [2,9,10,11] true ?_
      simp [go_sem]
      repeat (refine And.intro (by first | omega | (intros; omega) | (intros; exact And.intro (by assumption) (by omega)) | grind) ?_)
      refine DoL.call true 1003 rfl rfl rfl rfl (by first | exact trivial | omega | (simp; done) | (simp; omega)) (hF) rfl (by first | exact .inl rfl | exact .inr rfl) rfl ?_
      simp [go_sem]
      repeat (refine And.intro (by first | omega | (intros; omega) | (intros; exact And.intro (by assumption) (by omega)) | grind) ?_)
      apply k15_; clear k15_
      refine Do.seqk fun _ k16_ => ?_
      refine Do.seqk fun _ k17_ => ?_
      refine Do.region [2,9,10,11,51] true ?_
      simp [go_sem]
      repeat (refine And.intro (by first | omega | (intros; omega) | (intros; exact And.intro (by assumption) (by omega)) | grind) ?_)
      refine DoL.call true 1102 rfl rfl rfl rfl (by first | exact trivial | omega | (simp; done) | (simp; omega)) (number_does) rfl (by first | exact .inl rfl | exact .inr rfl) rfl ?_
      simp [go_sem]
      repeat (refine And.intro (by first | omega | (intros; omega) | (intros; exact And.intro (by assumption) (by omega)) | grind) ?_)
      apply k17_; clear k17_
      refine Do.cond [2,9,10,11] rfl (fun h8 => ?_) (fun h8 => ?_) <;> simp [go_sem] at h8 ⊢
      · refine Do.seqk fun _ k18_ => ?_
        refine Do.region [4,5] true ?_
        simp [go_sem]
        apply k18_; clear k18_
        refine Do.ret ?_
        simp [endQ, rets, ret1, go_sem]
        repeat (refine And.intro (by first | omega | (intros; omega) | (intros; exact And.intro (by assumption) (by omega)) | grind) ?_)
        rw [hEx, i2, hstop (by omega)]
        exact TLe.refl _
      · obtain ⟨hx, hdec⟩ := hspec (by omega)
        have hn2 := hnext (by omega)
        have hnb : Numb x := .inl hx.k
        have hlow := hx.low
        have hneg := hnb.neg_sv (tiny f p)
        have hp2 := @Nu.plus_sv (tiny f p) y ⟨!x.n, x.v, x.e⟩ i1 hlow
        have hP := @Plus_does Gv y ⟨!x.n, x.v, x.e⟩ ⟨g1, by omega⟩ (hx.fine.ok hnb _)
        generalize y.plus ⟨!x.n, x.v, x.e⟩ = y2 at *
        have hs2 : y2.sv (tiny f p) = nextX f p (y.sv (tiny f p)) := by rw [hp2.1, hneg, hnx]; omega
        refine Do.skip ?_
        simp [go_sem]
        apply k16_; clear k16_
        refine Do.draw [2,9,10] true (by kernel_rfl) ?_
        simp [go_sem]
        repeat (refine And.intro (by first | omega | (intros; omega) | (intros; exact And.intro (by assumption) (by omega)) | kernel_rfl | grind) ?_)
        refine DoLD.call true 1307 rfl rfl rfl rfl (by first | exact trivial | omega | (simp; done) | (simp; omega)) (Of_does) rfl (by first | exact .inl rfl | exact .inr rfl) rfl ?_
        simp [go_sem]
        refine DoLD.call true 1308 rfl rfl rfl rfl (by first | exact trivial | omega | (simp; done) | (simp; omega)) (Minus_does) rfl (by first | exact .inl rfl | exact .inr rfl) rfl ?_
        simp [go_sem]
        refine DoLD.call true 1309 rfl rfl rfl rfl (by first | exact trivial | omega | (simp; done) | (simp; omega)) (hP) rfl (by first | exact .inl rfl | exact .inr rfl) rfl ?_
        simp [go_sem]
        repeat (refine And.intro (by first | omega | (intros; omega) | (intros; exact And.intro (by assumption) (by omega)) | kernel_rfl | grind) ?_)
        try (refine And.intro (by kernel_rfl) ?_)
        apply k14_; clear k14_
        refine Do.seqk fun _ k19_ => ?_
        refine Do.region [2,9,61] true ?_
        simp [go_sem]
        repeat (refine And.intro (by first | omega | (intros; omega) | (intros; exact And.intro (by assumption) (by omega)) | grind) ?_)
        apply k19_; clear k19_
        refine Do.drop 1500 ?_
        simp [go_sem, del]
        refine Do.region [2,9,10] true ?_
        simp [go_sem]
        repeat (refine And.intro (by first | omega | (intros; omega) | (intros; exact And.intro (by assumption) (by omega)) | grind) ?_)
        refine ⟨(out ++ [x], y2, n'), St.le_of (by simp [keep]) (by simp [keep]), ⟨hp2.2, by simp only [hs2]; exact hn2, by simp only [hs2]; omega, by simp only [List.length_append, List.length_cons, List.length_nil]; omega⟩, by simp⟩
    · refine Do.exit ?_
      simp [go_sem]
      apply k10_; clear k10_
      refine Do.seqk fun _ k20_ => ?_
      refine Do.region [4,5] true ?_
      simp [go_sem]
      apply k20_; clear k20_
      refine Do.ret ?_
      simp [endQ, rets, ret1, go_sem]
      repeat (refine And.intro (by first | omega | (intros; omega) | (intros; exact And.intro (by assumption) (by omega)) | grind) ?_)
      have hy0 : y.v = 0 := by simpa using h6
      rw [hEx, i2, hyz.1 hy0, expX_zero (by omega)]
      simp only [Option.map_some, List.append_nil]
      exact TLe.refl _
end Go.Proofs.YtdaecibpkhcllaaGreatDoor

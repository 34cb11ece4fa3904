/- The law SumExpands holds, for every input: the floats that add up to the exact sum of up to 30 floats of up to 40 words each are the document's, or the error is. Conditions: the two listed package variables hold what the program's text lays (tied by the card). -/
import Derived.Test.YtdaecibpkhcllaaGreatDoorMl
import Derived.Test.YtdaecibpkhcllaaGreatDoorMk
import Derived.Test.YtdaecibpkhcllaaGreatDoorCards
import Derived.Test.YtdaecibpkhcllaaGreatDoorTie
import Derived.SevenTiedAt
/- The reference's Expand. No condition. -/
namespace Go.Proofs.YtdaecibpkhcllaaGreatDoor
set_option linter.unusedVariables false
set_option linter.unusedSimpArgs false
set_option maxHeartbeats 4000000
set_option maxRecDepth 10000
def resR : Option (List Flt) → TV
  | some out => .t [.s true (out.map Flt.cs), .c (.b true)]
  | none => .t [.c .z, .c (.b false)]
theorem Exf.rt {f p : Int} {x : Flt} (h : Exf f p x) : Rt x.fla := ⟨by rw [Flt.fla_flt]; exact h.fine.can, nat_ws _, by have := len_bl h.fine.v; show (nat x.v).length ≤ 4096; omega⟩
/-- What is left, as a float. -/
structure RestIs (f p R : Int) (u : Flt) : Prop where
  zero : R = 0 → u.k = 0
  one : R ≠ 0 → u.k = 1
  sg : R ≠ 0 → decide (sgn u.n u.v < 0) = decide (R < 0)
  pos : R ≠ 0 → 0 < u.v
  small : bl u.v ≤ 300000
  lo : -200000 ≤ u.e
  hi : u.e ≤ 1000000
  step : R ≠ 0 → (roundP f p 0 (decide (R < 0)) u.v u.e false).1 = stepX f p R
theorem restIs {f p : Int} (hf : fmOk f p = true) {R : Int} (hb : bl R.natAbs ≤ 300000) : RestIs f p R (restP (tiny f p) R) := by
  obtain ⟨t0, t1⟩ := tiny_le hf
  unfold restP
  by_cases hR : R = 0
  · rw [if_pos hR]
    exact ⟨fun _ => rfl, fun h => absurd hR h, fun h => absurd hR h, fun h => absurd hR h, by simp [bl_zero], by simp, by simp, fun h => absurd hR h⟩
  · rw [if_neg hR]
    have hv : 0 < R.natAbs := by omega
    have hst := @round_rcanon f p 0 (decide (R < 0)) R.natAbs (tiny f p) hv
    have e2 : rcanon ⟨1, decide (R < 0), tiny f p, R.natAbs⟩ = ⟨1, decide (R < 0), tiny f p + tz R.natAbs, R.natAbs / 2 ^ tz R.natAbs⟩ := by simp [rcanon]
    rw [e2] at hst ⊢
    have htz := tz_lt_bl hv
    have hpos : 0 < R.natAbs / 2 ^ tz R.natAbs := Nat.div_pos ((bl_le _ _).1 htz) (Nat.pow_pos (by decide))
    refine ⟨fun h => absurd h hR, fun _ => rfl, fun _ => ?_, fun _ => hpos, ?_, by simp only []; omega, by simp only []; omega, fun _ => ?_⟩
    · simp only []
      generalize R.natAbs / 2 ^ tz R.natAbs = w at *
      unfold sgn
      by_cases h : R < 0 <;> simp [h] <;> omega
    · exact Nat.le_trans (bl_mono (Nat.div_le_self _ _)) hb
    · simp only [] at hst ⊢
      rw [hst]; rfl
theorem RExpand_does {f p : Int} (hf : fmOk f p = true) {l : List Fla} (hl : l.length ≤ 1000000) (hr : ∀ x ∈ l, Rt x) {L : List Flt} (hL : (l.map fun x => rcanon x.flt) = L) (htop : ∀ x ∈ L, x.k = 1 → tiny f p ≤ x.e ∧ x.e + bl x.v ≤ gOfE f + 1) : Does Tryz.prog Gv 28 [Fm f p, Rows l] (resR (expandP f p L)) := by
  obtain ⟨t0, t1⟩ := tiny_le hf
  have hll : L.length = l.length := by rw [← hL]; simp
  have hbl := sum_bl hf (by omega) htop
  have hbad : ∀ (i : Nat) (x : Fla), l[i]? = some x → (x.k = 2 ∨ x.k = 3) → expandP f p L = none := fun i x hx hk => by
    rw [expandP, if_pos]
    rw [← hL, List.any_map, List.any_eq_true]
    refine ⟨x, List.mem_of_getElem? hx, ?_⟩
    have := rcanon_k x.flt
    simp only [Function.comp, Bool.or_eq_true, beq_iff_eq, this]
    exact hk
  have hgood : (∀ i, i < l.length → ∀ x, l[i]? = some x → x.k ≠ 2 ∧ x.k ≠ 3) → expandP f p L = expX f p (bl (svs (tiny f p) L).natAbs + 1) (svs (tiny f p) L) := fun h => by
    rw [expandP, if_neg]
    rw [← hL, List.any_map, List.any_eq_true]
    rintro ⟨x, hx, hk⟩
    obtain ⟨i, hi, e⟩ := List.getElem_of_mem hx
    have h2 := h i hi x (by rw [List.getElem?_eq_getElem hi, e])
    have := rcanon_k x.flt
    simp only [Function.comp, Bool.or_eq_true, beq_iff_eq, this] at hk
    rcases hk with hk | hk
    · exact h2.1 hk
    · exact h2.2 hk
  have hRest : ∀ out : List Flt, (∀ x ∈ out, Exf f p x) → out.length ≤ 300000 → Does Tryz.prog Gv 64 [Rows l, .s false (out.map Flt.cs)] (.v (restP (tiny f p) (svs (tiny f p) (L ++ out.map Flt.neg))).pw) := fun out ho hlen => by
    have := @Rest_new Gv l (out.map Flt.fla) (by simp; omega) hr (by
      intro y hy
      obtain ⟨x, hx, rfl⟩ := List.mem_map.1 hy
      exact (ho x hx).rt) L out hL (by
      rw [List.map_map]
      conv => rhs; rw [← List.map_id out]
      apply List.map_congr_left
      intro x hx
      simp only [Function.comp, Flt.fla_flt, (ho x hx).fix, id]) (tiny f p) t0 (by
      intro x hx hk
      rcases List.mem_append.1 hx with hx | hx
      · exact (htop x hx hk).1
      · obtain ⟨y, hy, rfl⟩ := List.mem_map.1 hx
        exact (ho y hy).low)
    rw [show Rows (out.map Flt.fla) = .s false (out.map Flt.cs) by simp [Rows, Function.comp_def]] at this
    exact this
  generalize expandP f p L = E at *
  clear hL htop
  obtain ⟨R0, hR0⟩ : ∃ R0, svs (tiny f p) L = R0 := ⟨_, rfl⟩
  obtain ⟨N, hN⟩ : ∃ N, bl R0.natAbs + 1 = N := ⟨_, rfl⟩
  rw [hR0] at hbl
  rw [hR0, hN] at hgood
  refine Does.of (nt := 58) Tryz.func28 rfl rfl rfl (by simp) ?_
  simp only [argTm, PV.ext, Ce.ext]
  refine Do.seqk fun _ k1_ => ?_
  refine Do.region [1,2] true ?_
  simp [go_sem]
  apply k1_; clear k1_
  refine Do.seqk fun _ k2_ => ?_
  refine Do.seqk fun _ k3_ => ?_
  refine Do.region [1,2,6] true ?_
  simp [go_sem]
  apply k3_; clear k3_
  refine Do.block ?_
  refine Do.loopF [1,2,6] (fun (i : Nat) => [(6, .int .i64 i)]) (fun (i : Nat) => []) (fun (i : Nat) => i ≤ l.length ∧ ∀ j, j < i → ∀ x, l[j]? = some x → x.k ≠ 2 ∧ x.k ≠ 3) (fun (i : Nat) => l.length - i) (0) (fun _ => by first | (simp [go_sem, mixS]; done) | (simp [go_sem, mixS]; rfl)) (St.le_of (by first | rfl | simp [keep]) (by first | rfl | simp [keep])) (⟨Nat.zero_le _, fun j hj => absurd hj (Nat.not_lt_zero j)⟩) ?_
  rintro i ⟨hi, hz⟩
  refine Do.seqk fun _ k4_ => ?_
  refine Do.seqk fun _ k5_ => ?_
  refine Do.region [1,2,6,14] true ?_
  simp [go_sem]
  repeat (refine And.intro (by first | omega | (intros; omega) | (intros; exact And.intro (by assumption) (by omega)) | grind) ?_)
  apply k5_; clear k5_
  refine Do.cond [1,2,6] rfl (fun h2 => ?_) (fun h2 => ?_) <;> simp [go_sem] at h2 ⊢
  · obtain ⟨x, hx⟩ : ∃ x, l[i]? = some x := ⟨_, List.getElem?_eq_getElem h2⟩
    refine Do.skip ?_
    simp [go_sem]
    apply k4_; clear k4_
    refine Do.seqk fun _ k6_ => ?_
    refine Do.block ?_
    refine Do.seqk fun _ k7_ => ?_
    refine Do.region [1,2,6,30] true ?_
    simp [go_sem, hx]
    repeat (refine And.intro (by first | omega | (intros; omega) | (intros; exact And.intro (by assumption) (by omega)) | grind) ?_)
    apply k7_; clear k7_
    refine Do.cond [1,2,6] rfl (fun h3 => ?_) (fun h3 => ?_) <;> simp [go_sem, hx] at h3 ⊢
    · refine Do.seqk fun _ k8_ => ?_
      refine Do.region [4,5] true ?_
      simp [go_sem, hx]
      apply k8_; clear k8_
      refine Do.ret ?_
      simp [endQ, rets, ret1, go_sem, hx]
      repeat (refine And.intro (by first | omega | (intros; omega) | (intros; exact And.intro (by assumption) (by omega)) | grind) ?_)
      rw [hbad i x hx (by omega)]
      exact TLe.refl _
    · refine Do.skip ?_
      simp [go_sem]
      apply k6_; clear k6_
      refine Do.region [1,2,6] true ?_
      simp [go_sem, hx]
      repeat (refine And.intro (by first | omega | (intros; omega) | (intros; exact And.intro (by assumption) (by omega)) | grind) ?_)
      refine ⟨i + 1, St.le_of (by first | rfl | simp [keep]) (by first | rfl | simp [keep]), ⟨by omega, ?_⟩, by simp; omega⟩
      intro j hj y hy
      by_cases e : j = i
      · subst e; rw [hx] at hy; injection hy with hy; subst hy; omega
      · exact hz j (by omega) y hy
  · have hE := hgood (fun j hj => hz j (by omega))
    refine Do.exit ?_
    simp [go_sem]
    apply k2_; clear k2_
    refine Do.seqk fun _ k9_ => ?_
    refine Do.region [1,2,7] true ?_
    simp [go_sem]
    apply k9_; clear k9_
    refine Do.block ?_
    refine Do.own 7 900 4 rfl rfl (by decide) ?_
    simp [go_sem]
    refine Do.loopF [1,2,7] (fun (s : List Flt × Int × Nat) => [(7, .v (.c (.r 900 s.1.length)))]) (fun (s : List Flt × Int × Nat) => [(900, .sr 4 (s.1.map Flt.cs))]) (fun (s : List Flt × Int × Nat) => (∀ x ∈ s.1, Exf f p x) ∧ svs (tiny f p) (L ++ s.1.map Flt.neg) = s.2.1 ∧ expX f p N R0 = (expX f p s.2.2 s.2.1).map (s.1 ++ ·) ∧ bl s.2.1.natAbs < s.2.2 ∧ s.1.length + s.2.2 ≤ 300000) (fun (s : List Flt × Int × Nat) => s.2.2) (([], R0, N)) (fun _ => by first | (simp [go_sem, mixS]; done) | (simp [go_sem, mixS]; rfl)) (St.le_of (by first | rfl | simp [keep]) (by first | rfl | simp [keep])) (⟨by simp, by simpa using hR0, by simp, by simp only []; omega, by simp only [List.length_nil]; omega⟩) ?_
    rintro ⟨out, R, n⟩ ⟨i1, i2, i3, i4, i5⟩
    simp only [] at i1 i2 i3 i4 i5
    have hZ := hRest out i1 (by omega)
    rw [i2] at hZ
    have hu := @restIs f p hf R (by omega)
    generalize restP (tiny f p) R = u at *
    refine Do.block ?_
    refine Do.seqk fun _ k10_ => ?_
    refine Do.region [1,2,7,8] true ?_
    simp [go_sem]
    refine DoL.call true 703 rfl rfl rfl rfl (by first | exact trivial | omega | (simp; done) | (simp; omega)) (hZ) rfl (by first | exact .inl rfl | exact .inr rfl) rfl ?_
    simp [go_sem]
    repeat (refine And.intro (by first | omega | (intros; omega) | (intros; exact And.intro (by assumption) (by omega)) | grind) ?_)
    apply k10_; clear k10_
    refine Do.seqk fun _ k11_ => ?_
    refine Do.seqk fun _ k12_ => ?_
    refine Do.region [1,2,7,8,36] true ?_
    simp [go_sem]
    repeat (refine And.intro (by first | omega | (intros; omega) | (intros; exact And.intro (by assumption) (by omega)) | grind) ?_)
    apply k12_; clear k12_
    refine Do.cond [1,2,7,8] rfl (fun h4 => ?_) (fun h4 => ?_) <;> simp [go_sem] at h4 ⊢
    · refine Do.seqk fun _ k13_ => ?_
      refine Do.region [4,5] true ?_
      simp [go_sem]
      apply k13_; clear k13_
      refine Do.ret ?_
      simp [endQ, rets, ret1, go_sem]
      repeat (refine And.intro (by first | omega | (intros; omega) | (intros; exact And.intro (by assumption) (by omega)) | grind) ?_)
      have hR : R = 0 := by
        apply Classical.byContradiction
        intro h
        have := hu.one h; omega
      rw [hE, i3, hR, expX_zero (by omega)]
      simp only [Option.map_some, List.append_nil]
      exact TLe.refl _
    · have hR : R ≠ 0 := fun h => h4 (hu.zero h)
      have hsm := hu.small
      have hsg := hu.sg hR
      have hst := hu.step hR
      have hM := @IMake11_does Gv u.n (nat u.v) (by have := len_bl hsm; omega) (nat_ws _)
      rw [val_nat] at hM
      have hab := sgn_abs u.n u.v
      generalize sgn u.n u.v = w at *
      have hSc := @Scaled_does Gv (decide (w < 0)) (nat w.natAbs) u.e (by rw [hab]; have := len_bl hsm; omega) (nat_ws _)
      rw [val_nat, sgn_of, hab] at hSc
      have hRd := @Round_new Gv f p 0 hf (by decide) (by decide) (decide (w < 0)) u.v u.e (hu.pos hR) (by omega) (by have := hu.lo; have := hu.hi; omega)
      have hM : Does Tryz.prog Gv 33 [.c (.b u.n), Wd (nat u.v)] (.v (Ig (decide (w < 0)) (nat w.natAbs))) := hM
      rw [hsg, hab] at hM
      rw [hsg] at hSc hRd
      rw [hst] at hRd
      refine Do.skip ?_
      simp [go_sem]
      apply k11_; clear k11_
      refine Do.seqk fun _ k14_ => ?_
      refine Do.draw [1,2,7,9] true (by kernel_rfl) ?_
      simp [go_sem]
      repeat (refine And.intro (by first | omega | (intros; omega) | (intros; exact And.intro (by assumption) (by omega)) | kernel_rfl | grind) ?_)
      refine DoLD.call true 1006 rfl rfl rfl rfl (by first | exact trivial | omega | (simp; done) | (simp; omega)) (hM) rfl (by first | exact .inl rfl | exact .inr rfl) rfl ?_
      simp [go_sem]
      repeat (refine And.intro (by first | omega | (intros; omega) | (intros; exact And.intro (by assumption) (by omega)) | kernel_rfl | grind) ?_)
      refine DoLD.call true 1009 rfl rfl rfl rfl (by first | exact trivial | omega | (simp; done) | (simp; omega)) (hSc) rfl (by first | exact .inl rfl | exact .inr rfl) rfl ?_
      simp [go_sem]
      have hkinds := stepX_kinds hf R
      have hk3 := stepX_not3 f p R
      have hstop := @expX_stop f p n R (by omega) hR
      have hspec := @stepX_spec f p hf R hR
      obtain ⟨n', rfl⟩ : ∃ n', n = n' + 1 := ⟨n - 1, by omega⟩
      have hnext := fun hk => expX_next hR hk i3
      have hnx : nextX f p R = R - fv (tiny f p) (stepX f p R) := rfl
      generalize (roundP f p 0 (decide (R < 0)) u.v u.e false).2 = fl at *
      generalize stepX f p R = x at *
      refine DoLD.call true 1010 rfl rfl rfl rfl (by first | exact trivial | omega | (simp; done) | (simp; omega)) (hRd) rfl (by first | exact .inl rfl | exact .inr rfl) rfl ?_
      simp [go_sem]
      repeat (refine And.intro (by first | omega | (intros; omega) | (intros; exact And.intro (by assumption) (by omega)) | kernel_rfl | grind) ?_)
      try (refine And.intro (by kernel_rfl) ?_)
      apply k14_; clear k14_
      refine Do.seqk fun _ k15_ => ?_
      refine Do.seqk fun _ k16_ => ?_
      refine Do.region [1,2,7,9,53] true ?_
      simp [go_sem]
      repeat (refine And.intro (by first | omega | (intros; omega) | (intros; exact And.intro (by assumption) (by omega)) | grind) ?_)
      apply k16_; clear k16_
      refine Do.cond [1,2,7,9] rfl (fun h6 => ?_) (fun h6 => ?_) <;> simp [go_sem] at h6 ⊢
      · refine Do.seqk fun _ k17_ => ?_
        refine Do.region [4,5] true ?_
        simp [go_sem]
        apply k17_; clear k17_
        refine Do.ret ?_
        simp [endQ, rets, ret1, go_sem]
        repeat (refine And.intro (by first | omega | (intros; omega) | (intros; exact And.intro (by assumption) (by omega)) | grind) ?_)
        rw [hE, i3, hstop (Classical.byContradiction fun h => h6 (hspec h).1.k)]
        exact TLe.refl _
      · obtain ⟨hx, hdec⟩ := hspec (by omega)
        have hn2 := hnext (by omega)
        refine Do.skip ?_
        simp [go_sem]
        apply k15_; clear k15_
        refine Do.region [1,2,7] true ?_
        simp [go_sem]
        repeat (refine And.intro (by first | omega | (intros; omega) | (intros; exact And.intro (by assumption) (by omega)) | grind) ?_)
        refine ⟨(out ++ [x], nextX f p R, n'), St.le_of (by simp [keep]) (by simp [keep]), ⟨?_, ?_, hn2, by show bl (nextX f p R).natAbs < n'; omega, by simp only [List.length_append, List.length_cons, List.length_nil]; omega⟩, by simp⟩
        · intro z hz2
          rcases List.mem_append.1 hz2 with hz2 | hz2
          · exact i1 z hz2
          · rw [List.mem_singleton.1 hz2]; exact hx
        · simp only []
          rw [List.map_append, ← List.append_assoc, svs_append, i2, svs_fv]
          simp only [List.map_cons, List.map_nil, List.sum_cons, List.sum_nil, fv_neg]
          omega
end Go.Proofs.YtdaecibpkhcllaaGreatDoor
/- The law SumExpands. No condition. -/
namespace Go.Proofs.YtdaecibpkhcllaaGreatDoor
set_option linter.unusedVariables false
set_option linter.unusedSimpArgs false
set_option maxHeartbeats 4000000
set_option maxRecDepth 10000
theorem SumExpands_does {f p : Int} {l : List Fla} (hl : ∀ x ∈ l, Ws x.m ∧ I64 x.e) : Does Tryz.prog Gv 6 [Fm f p, Rows l] (.v (.c (.b true))) := by
  by_cases h30 : 30 < l.length
  · have d1 : (30 : Int) < l.length := by omega
    refine Does.of (nt := 90) Tryz.func6 rfl rfl rfl (by simp) ?_
    simp only [argTm, PV.ext, Ce.ext]
    refine Do.seqk fun _ k1_ => ?_
    refine Do.region [1,2] true ?_
    simp [go_sem, d1]
    apply k1_; clear k1_
    refine Do.seqk fun _ k2_ => ?_
    refine Do.seqk fun _ k3_ => ?_
    refine Do.region [1,2,18] true ?_
    simp [go_sem, d1]
    repeat (refine And.intro (by first | omega | (intros; omega) | (intros; exact And.intro (by assumption) (by omega)) | grind) ?_)
    refine DoL.gOff true 106 rfl rfl (.v (.c (.b false))) rfl ?_
    simp [go_sem, d1]
    repeat (refine And.intro (by first | omega | (intros; omega) | (intros; exact And.intro (by assumption) (by omega)) | grind) ?_)
    apply k3_; clear k3_
    refine Do.cond [1,2] rfl (fun h => ?_) (fun h => ?_) <;> simp [go_sem, d1] at h ⊢
    refine Do.seqk fun _ k4_ => ?_
    refine Do.region [4] true ?_
    simp [go_sem, d1]
    refine DoL.call true 201 rfl rfl rfl rfl (by first | exact trivial | omega | (simp; done) | (simp; omega)) (awake_does) rfl (by first | exact .inl rfl | exact .inr rfl) rfl ?_
    simp [go_sem, d1]
    apply k4_; clear k4_
    refine Do.ret ?_
    simp [endQ, rets, ret1, go_sem, d1]
    repeat (refine And.intro (by first | omega | (intros; omega) | (intros; exact And.intro (by assumption) (by omega)) | grind) ?_)
    exact TLe.refl _
  · have d2 : ¬ (30 : Int) < l.length := by omega
    have hS : Does Tryz.prog Gv 10 [Rows l] (.v (.c (.b (shortP l)))) := Short15_does (l := l) (by omega)
    cases hs : shortP l with
    | false =>
      rw [hs] at hS
      refine Does.of (nt := 90) Tryz.func6 rfl rfl rfl (by simp) ?_
      simp only [argTm, PV.ext, Ce.ext]
      refine Do.seqk fun _ k1_ => ?_
      refine Do.region [1,2] true ?_
      simp [go_sem, d2]
      apply k1_; clear k1_
      refine Do.seqk fun _ k2_ => ?_
      refine Do.seqk fun _ k3_ => ?_
      refine Do.region [1,2,18] true ?_
      simp [go_sem, d2]
      repeat (refine And.intro (by first | omega | (intros; omega) | (intros; exact And.intro (by assumption) (by omega)) | grind) ?_)
      refine DoL.callg true 106 rfl rfl rfl rfl rfl (by simp [go_sem] <;> omega) (fun _ => hS) rfl (by first | exact .inl rfl | exact .inr rfl) rfl ?_
      simp [go_sem, d2]
      repeat (refine And.intro (by first | omega | (intros; omega) | (intros; exact And.intro (by assumption) (by omega)) | grind) ?_)
      apply k3_; clear k3_
      refine Do.cond [1,2] rfl (fun h => ?_) (fun h => ?_) <;> simp [go_sem, d2] at h ⊢
      refine Do.seqk fun _ k4_ => ?_
      refine Do.region [4] true ?_
      simp [go_sem, d2]
      refine DoL.call true 201 rfl rfl rfl rfl (by first | exact trivial | omega | (simp; done) | (simp; omega)) (awake_does) rfl (by first | exact .inl rfl | exact .inr rfl) rfl ?_
      simp [go_sem, d2]
      apply k4_; clear k4_
      refine Do.ret ?_
      simp [endQ, rets, ret1, go_sem, d2]
      repeat (refine And.intro (by first | omega | (intros; omega) | (intros; exact And.intro (by assumption) (by omega)) | grind) ?_)
      exact TLe.refl _
    | true =>
      rw [hs] at hS
      have ho : ∀ x ∈ l, x.Ok := fun x hx => by
        have h1 : ∀ x ∈ l, x.m.length ≤ 40 := by simpa [shortP] using hs
        have := h1 x hx
        exact ⟨by simp [Sh]; omega, (hl x hx).1, (hl x hx).2⟩
      have hC := @RCheck_does Gv f p l (by omega) ho
      have hb : decide ((1000 : Int) < l.length) = false := by simp; omega
      by_cases he : argsE f p 0 false l = 0
      · have hX := @SExpand_does f p l (by omega) ho (by rw [hb]; exact he)
        obtain ⟨h1, h2, h3, h4, h5, h6⟩ := argsE_zero he
        have hY := @RExpand_does f p h5 l (by omega) (held_rt h6 ho h1) (heldL f p l) (held_map h6) (held_top h5 h6)
        have hall : ∀ out, expandP f p (heldL f p l) = some out → (∀ x ∈ out, Exf f p x) ∧ out.length ≤ 300000 := fun out h => by
          have hbl := sum_bl h5 (by simp [heldL]; omega) (held_top h5 h6)
          rw [expandP] at h
          split at h
          · cases h
          · exact ⟨expX_all h5 h, by have := expX_len h; omega⟩
        rw [he] at hC
        generalize expandP f p (heldL f p l) = E at *
        cases E with
        | none =>
          have hX : Does Tryz.prog Gv 27 [Fm f p, Rows l] (.t [.c .z, .c (.i .i64 4)]) := hX
          have hY : Does Tryz.prog Gv 28 [Fm f p, Rows l] (.t [.c .z, .c (.b false)]) := hY
          refine Does.of (nt := 90) Tryz.func6 rfl rfl rfl (by simp) ?_
          simp only [argTm, PV.ext, Ce.ext]
          refine Do.seqk fun _ k1_ => ?_
          refine Do.region [1,2] true ?_
          simp [go_sem, d2]
          apply k1_; clear k1_
          refine Do.seqk fun _ k2_ => ?_
          refine Do.seqk fun _ k3_ => ?_
          refine Do.region [1,2,18] true ?_
          simp [go_sem, d2]
          repeat (refine And.intro (by first | omega | (intros; omega) | (intros; exact And.intro (by assumption) (by omega)) | grind) ?_)
          refine DoL.callg true 106 rfl rfl rfl rfl rfl (by simp [go_sem] <;> omega) (fun _ => hS) rfl (by first | exact .inl rfl | exact .inr rfl) rfl ?_
          simp [go_sem, d2]
          repeat (refine And.intro (by first | omega | (intros; omega) | (intros; exact And.intro (by assumption) (by omega)) | grind) ?_)
          apply k3_; clear k3_
          refine Do.cond [1,2] rfl (fun h => ?_) (fun h => ?_) <;> simp [go_sem, d2] at h ⊢
          refine Do.skip ?_
          simp [go_sem]
          apply k2_; clear k2_
          refine Do.seqk fun _ k4_ => ?_
          refine Do.region [1,2,5,6] true ?_
          simp [go_sem, d2]
          repeat (refine And.intro (by first | omega | (intros; omega) | (intros; exact And.intro (by assumption) (by omega)) | grind) ?_)
          refine DoL.call true 303 rfl rfl rfl rfl (by first | exact trivial | omega | (simp; done) | (simp; omega)) (hX) rfl (by first | exact .inl rfl | exact .inr rfl) rfl ?_
          simp [go_sem, d2]
          apply k4_; clear k4_
          refine Do.seqk fun _ k5_ => ?_
          refine Do.region [1,2,5,6,7] true ?_
          simp [go_sem, d2]
          repeat (refine And.intro (by first | omega | (intros; omega) | (intros; exact And.intro (by assumption) (by omega)) | grind) ?_)
          refine DoL.call true 402 rfl rfl rfl rfl (by first | exact trivial | omega | (simp; done) | (simp; omega)) (Fmt_does) rfl (by first | exact .inl rfl | exact .inr rfl) rfl ?_
          simp [go_sem, d2]
          refine DoL.call true 404 rfl rfl rfl rfl (by first | exact trivial | omega | (simp; done) | (simp; omega)) (Theirs_does (by omega)) rfl (by first | exact .inl rfl | exact .inr rfl) rfl ?_
          simp [go_sem, d2]
          refine DoL.call true 405 rfl rfl rfl rfl (by first | exact trivial | omega | (simp; done) | (simp; omega)) (hC) rfl (by first | exact .inl rfl | exact .inr rfl) rfl ?_
          simp [go_sem, d2]
          apply k5_; clear k5_
          refine Do.seqk fun _ k6_ => ?_
          refine Do.seqk fun _ k7_ => ?_
          refine Do.region [1,2,5,6,7,32] true ?_
          simp [go_sem, d2]
          apply k7_; clear k7_
          refine Do.cond [1,2,5,6,7] rfl (fun h => ?_) (fun h => ?_) <;> simp [go_sem, d2] at h ⊢
          refine Do.skip ?_
          simp [go_sem]
          apply k6_; clear k6_
          refine Do.seqk fun _ k8_ => ?_
          refine Do.region [5,6,8,9] true ?_
          simp [go_sem, d2]
          repeat (refine And.intro (by first | omega | (intros; omega) | (intros; exact And.intro (by assumption) (by omega)) | grind) ?_)
          refine DoL.call true 702 rfl rfl rfl rfl (by first | exact trivial | omega | (simp; done) | (simp; omega)) (Fmt_does) rfl (by first | exact .inl rfl | exact .inr rfl) rfl ?_
          simp [go_sem, d2]
          refine DoL.call true 704 rfl rfl rfl rfl (by first | exact trivial | omega | (simp; done) | (simp; omega)) (Theirs_does (by omega)) rfl (by first | exact .inl rfl | exact .inr rfl) rfl ?_
          simp [go_sem, d2]
          refine DoL.call true 705 rfl rfl rfl rfl (by first | exact trivial | omega | (simp; done) | (simp; omega)) (hY) rfl (by first | exact .inl rfl | exact .inr rfl) rfl ?_
          simp [go_sem, d2]
          apply k8_; clear k8_
          refine Do.seqk fun _ k9_ => ?_
          refine Do.seqk fun _ k10_ => ?_
          refine Do.region [5,6,8,53] true ?_
          simp [go_sem, d2]
          repeat (refine And.intro (by first | omega | (intros; omega) | (intros; exact And.intro (by assumption) (by omega)) | grind) ?_)
          apply k10_; clear k10_
          refine Do.cond [5,6,8] rfl (fun h => ?_) (fun h => ?_) <;> simp [go_sem, d2] at h ⊢
          refine Do.seqk fun _ k11_ => ?_
          refine Do.region [4] true ?_
          simp [go_sem, d2]
          repeat (refine And.intro (by first | omega | (intros; omega) | (intros; exact And.intro (by assumption) (by omega)) | grind) ?_)
          refine DoL.callg true 909 rfl rfl rfl rfl rfl (by simp [go_sem] <;> omega) (fun _ => awake_does) rfl (by first | exact .inl rfl | exact .inr rfl) rfl ?_
          simp [go_sem, d2]
          apply k11_; clear k11_
          refine Do.ret ?_
          simp [endQ, rets, ret1, go_sem, d2]
          repeat (refine And.intro (by first | omega | (intros; omega) | (intros; exact And.intro (by assumption) (by omega)) | grind) ?_)
          exact TLe.refl _
        | some out =>
          have hX : Does Tryz.prog Gv 27 [Fm f p, Rows l] (.t [.s true (out.map Flt.cs), .c (.i .i64 0)]) := hX
          have hY : Does Tryz.prog Gv 28 [Fm f p, Rows l] (.t [.s true (out.map Flt.cs), .c (.b true)]) := hY
          obtain ⟨hex, hlen⟩ := hall out rfl
          refine Does.of (nt := 90) Tryz.func6 rfl rfl rfl (by simp) ?_
          simp only [argTm, PV.ext, Ce.ext]
          refine Do.seqk fun _ k1_ => ?_
          refine Do.region [1,2] true ?_
          simp [go_sem, d2]
          apply k1_; clear k1_
          refine Do.seqk fun _ k2_ => ?_
          refine Do.seqk fun _ k3_ => ?_
          refine Do.region [1,2,18] true ?_
          simp [go_sem, d2]
          repeat (refine And.intro (by first | omega | (intros; omega) | (intros; exact And.intro (by assumption) (by omega)) | grind) ?_)
          refine DoL.callg true 106 rfl rfl rfl rfl rfl (by simp [go_sem] <;> omega) (fun _ => hS) rfl (by first | exact .inl rfl | exact .inr rfl) rfl ?_
          simp [go_sem, d2]
          repeat (refine And.intro (by first | omega | (intros; omega) | (intros; exact And.intro (by assumption) (by omega)) | grind) ?_)
          apply k3_; clear k3_
          refine Do.cond [1,2] rfl (fun h => ?_) (fun h => ?_) <;> simp [go_sem, d2] at h ⊢
          refine Do.skip ?_
          simp [go_sem]
          apply k2_; clear k2_
          refine Do.seqk fun _ k4_ => ?_
          refine Do.region [1,2,5,6] true ?_
          simp [go_sem, d2]
          repeat (refine And.intro (by first | omega | (intros; omega) | (intros; exact And.intro (by assumption) (by omega)) | grind) ?_)
          refine DoL.call true 303 rfl rfl rfl rfl (by first | exact trivial | omega | (simp; done) | (simp; omega)) (hX) rfl (by first | exact .inl rfl | exact .inr rfl) rfl ?_
          simp [go_sem, d2]
          apply k4_; clear k4_
          refine Do.seqk fun _ k5_ => ?_
          refine Do.region [1,2,5,6,7] true ?_
          simp [go_sem, d2]
          repeat (refine And.intro (by first | omega | (intros; omega) | (intros; exact And.intro (by assumption) (by omega)) | grind) ?_)
          refine DoL.call true 402 rfl rfl rfl rfl (by first | exact trivial | omega | (simp; done) | (simp; omega)) (Fmt_does) rfl (by first | exact .inl rfl | exact .inr rfl) rfl ?_
          simp [go_sem, d2]
          refine DoL.call true 404 rfl rfl rfl rfl (by first | exact trivial | omega | (simp; done) | (simp; omega)) (Theirs_does (by omega)) rfl (by first | exact .inl rfl | exact .inr rfl) rfl ?_
          simp [go_sem, d2]
          refine DoL.call true 405 rfl rfl rfl rfl (by first | exact trivial | omega | (simp; done) | (simp; omega)) (hC) rfl (by first | exact .inl rfl | exact .inr rfl) rfl ?_
          simp [go_sem, d2]
          apply k5_; clear k5_
          refine Do.seqk fun _ k6_ => ?_
          refine Do.seqk fun _ k7_ => ?_
          refine Do.region [1,2,5,6,7,32] true ?_
          simp [go_sem, d2]
          apply k7_; clear k7_
          refine Do.cond [1,2,5,6,7] rfl (fun h => ?_) (fun h => ?_) <;> simp [go_sem, d2] at h ⊢
          refine Do.skip ?_
          simp [go_sem]
          apply k6_; clear k6_
          refine Do.seqk fun _ k8_ => ?_
          refine Do.region [5,6,8,9] true ?_
          simp [go_sem, d2]
          repeat (refine And.intro (by first | omega | (intros; omega) | (intros; exact And.intro (by assumption) (by omega)) | grind) ?_)
          refine DoL.call true 702 rfl rfl rfl rfl (by first | exact trivial | omega | (simp; done) | (simp; omega)) (Fmt_does) rfl (by first | exact .inl rfl | exact .inr rfl) rfl ?_
          simp [go_sem, d2]
          refine DoL.call true 704 rfl rfl rfl rfl (by first | exact trivial | omega | (simp; done) | (simp; omega)) (Theirs_does (by omega)) rfl (by first | exact .inl rfl | exact .inr rfl) rfl ?_
          simp [go_sem, d2]
          refine DoL.call true 705 rfl rfl rfl rfl (by first | exact trivial | omega | (simp; done) | (simp; omega)) (hY) rfl (by first | exact .inl rfl | exact .inr rfl) rfl ?_
          simp [go_sem, d2]
          apply k8_; clear k8_
          refine Do.seqk fun _ k9_ => ?_
          refine Do.seqk fun _ k10_ => ?_
          refine Do.region [5,6,8,53] true ?_
          simp [go_sem, d2]
          repeat (refine And.intro (by first | omega | (intros; omega) | (intros; exact And.intro (by assumption) (by omega)) | grind) ?_)
          apply k10_; clear k10_
          refine Do.cond [5,6,8] rfl (fun h => ?_) (fun h => ?_) <;> simp [go_sem, d2] at h ⊢
          refine Do.skip ?_
          simp [go_sem]
          apply k9_; clear k9_
          refine Do.seqk fun _ k11_ => ?_
          refine Do.seqk fun _ k12_ => ?_
          refine Do.region [5,8,72] true ?_
          simp [go_sem, d2]
          repeat (refine And.intro (by first | omega | (intros; omega) | (intros; exact And.intro (by assumption) (by omega)) | grind) ?_)
          apply k12_; clear k12_
          refine Do.cond [5,8] rfl (fun h => ?_) (fun h => ?_) <;> simp [go_sem, d2] at h ⊢
          refine Do.skip ?_
          simp [go_sem]
          apply k11_; clear k11_
          refine Do.seqk fun _ k13_ => ?_
          refine Do.seqk fun _ k14_ => ?_
          refine Do.region [5,8,10] true ?_
          simp [go_sem, d2]
          apply k14_; clear k14_
          refine Do.block ?_
          refine Do.loopF [5,8,10] (fun (i : Nat) => [(10, .int .i64 i)]) (fun (i : Nat) => []) (fun (i : Nat) => i ≤ out.length) (fun (i : Nat) => out.length - i) (0) (fun _ => by first | (simp [go_sem, mixS]; done) | (simp [go_sem, mixS]; rfl)) (St.le_of (by first | rfl | simp [keep]) (by first | rfl | simp [keep])) (Nat.zero_le _) ?_
          intro i hi
          refine Do.seqk fun _ k15_ => ?_
          refine Do.seqk fun _ k16_ => ?_
          refine Do.region [5,8,10,76] true ?_
          simp [go_sem, d2]
          repeat (refine And.intro (by first | omega | (intros; omega) | (intros; exact And.intro (by assumption) (by omega)) | grind) ?_)
          apply k16_; clear k16_
          refine Do.cond [5,8,10] rfl (fun h8 => ?_) (fun h8 => ?_) <;> simp [go_sem, d2] at h8 ⊢
          · obtain ⟨x, hx⟩ : ∃ x, out[i]? = some x := ⟨_, List.getElem?_eq_getElem h8⟩
            have hxe := hex x (List.mem_of_getElem? hx)
            have hI := @LIs_same Gv x hxe.fine hxe.fix
            refine Do.skip ?_
            simp [go_sem]
            apply k15_; clear k15_
            refine Do.seqk fun _ k17_ => ?_
            refine Do.block ?_
            refine Do.seqk fun _ k18_ => ?_
            refine Do.draw [5,8,10,88] true (by kernel_rfl) ?_
            simp [go_sem, hx]
            repeat (refine And.intro (by first | omega | (intros; omega) | (intros; exact And.intro (by assumption) (by omega)) | kernel_rfl | grind) ?_)
            refine DoLD.call true 1509 rfl rfl rfl rfl (by first | exact trivial | omega | (simp; done) | (simp; omega)) (hI) rfl (by first | exact .inl rfl | exact .inr rfl) rfl ?_
            simp [go_sem, hx]
            repeat (refine And.intro (by first | omega | (intros; omega) | (intros; exact And.intro (by assumption) (by omega)) | kernel_rfl | grind) ?_)
            try (refine And.intro (by kernel_rfl) ?_)
            apply k18_; clear k18_
            refine Do.cond [5,8,10] rfl (fun h => ?_) (fun h => ?_) <;> simp [go_sem, hx] at h ⊢
            refine Do.skip ?_
            simp [go_sem]
            apply k17_; clear k17_
            refine Do.region [5,8,10] true ?_
            simp [go_sem, hx]
            repeat (refine And.intro (by first | omega | (intros; omega) | (intros; exact And.intro (by assumption) (by omega)) | grind) ?_)
            refine ⟨i + 1, St.le_of (by first | rfl | simp [keep]) (by first | rfl | simp [keep]), by omega, by first | (simp; done) | (simp; omega)⟩
          · refine Do.exit ?_
            simp [go_sem]
            apply k13_; clear k13_
            refine Do.seqk fun _ k19_ => ?_
            refine Do.region [4] true ?_
            simp [go_sem, d2]
            refine DoL.call true 1701 rfl rfl rfl rfl (by first | exact trivial | omega | (simp; done) | (simp; omega)) (awake_does) rfl (by first | exact .inl rfl | exact .inr rfl) rfl ?_
            simp [go_sem, d2]
            apply k19_; clear k19_
            refine Do.ret ?_
            simp [endQ, rets, ret1, go_sem, d2]
            repeat (refine And.intro (by first | omega | (intros; omega) | (intros; exact And.intro (by assumption) (by omega)) | grind) ?_)
            exact TLe.refl _
      · have hX := @Expand_err f p l (by omega) ho (by rw [hb]; exact he)
        rw [hb] at hX
        generalize argsE f p 0 false l = ae at *
        refine Does.of (nt := 90) Tryz.func6 rfl rfl rfl (by simp) ?_
        simp only [argTm, PV.ext, Ce.ext]
        refine Do.seqk fun _ k1_ => ?_
        refine Do.region [1,2] true ?_
        simp [go_sem, d2]
        apply k1_; clear k1_
        refine Do.seqk fun _ k2_ => ?_
        refine Do.seqk fun _ k3_ => ?_
        refine Do.region [1,2,18] true ?_
        simp [go_sem, d2]
        repeat (refine And.intro (by first | omega | (intros; omega) | (intros; exact And.intro (by assumption) (by omega)) | grind) ?_)
        refine DoL.callg true 106 rfl rfl rfl rfl rfl (by simp [go_sem] <;> omega) (fun _ => hS) rfl (by first | exact .inl rfl | exact .inr rfl) rfl ?_
        simp [go_sem, d2]
        repeat (refine And.intro (by first | omega | (intros; omega) | (intros; exact And.intro (by assumption) (by omega)) | grind) ?_)
        apply k3_; clear k3_
        refine Do.cond [1,2] rfl (fun h => ?_) (fun h => ?_) <;> simp [go_sem, d2] at h ⊢
        refine Do.skip ?_
        simp [go_sem]
        apply k2_; clear k2_
        refine Do.seqk fun _ k4_ => ?_
        refine Do.region [1,2,5,6] true ?_
        simp [go_sem, d2]
        repeat (refine And.intro (by first | omega | (intros; omega) | (intros; exact And.intro (by assumption) (by omega)) | grind) ?_)
        refine DoL.call true 303 rfl rfl rfl rfl (by first | exact trivial | omega | (simp; done) | (simp; omega)) (hX) rfl (by first | exact .inl rfl | exact .inr rfl) rfl ?_
        simp [go_sem, d2]
        apply k4_; clear k4_
        refine Do.seqk fun _ k5_ => ?_
        refine Do.region [1,2,5,6,7] true ?_
        simp [go_sem, d2]
        repeat (refine And.intro (by first | omega | (intros; omega) | (intros; exact And.intro (by assumption) (by omega)) | grind) ?_)
        refine DoL.call true 402 rfl rfl rfl rfl (by first | exact trivial | omega | (simp; done) | (simp; omega)) (Fmt_does) rfl (by first | exact .inl rfl | exact .inr rfl) rfl ?_
        simp [go_sem, d2]
        refine DoL.call true 404 rfl rfl rfl rfl (by first | exact trivial | omega | (simp; done) | (simp; omega)) (Theirs_does (by omega)) rfl (by first | exact .inl rfl | exact .inr rfl) rfl ?_
        simp [go_sem, d2]
        refine DoL.call true 405 rfl rfl rfl rfl (by first | exact trivial | omega | (simp; done) | (simp; omega)) (hC) rfl (by first | exact .inl rfl | exact .inr rfl) rfl ?_
        simp [go_sem, d2]
        apply k5_; clear k5_
        refine Do.seqk fun _ k6_ => ?_
        refine Do.seqk fun _ k7_ => ?_
        refine Do.region [1,2,5,6,7,32] true ?_
        simp [go_sem, d2]
        apply k7_; clear k7_
        refine Do.cond [1,2,5,6,7] rfl (fun h5 => ?_) (fun h5 => ?_) <;> simp [go_sem, d2] at h5 ⊢
        · refine Do.seqk fun _ k8_ => ?_
          refine Do.region [4] true ?_
          simp [go_sem, d2]
          repeat (refine And.intro (by first | omega | (intros; omega) | (intros; exact And.intro (by assumption) (by omega)) | grind) ?_)
          refine DoL.callg true 610 rfl rfl rfl rfl rfl (by simp [go_sem] <;> omega) (fun _ => awake_does) rfl (by first | exact .inl rfl | exact .inr rfl) rfl ?_
          simp [go_sem, d2]
          apply k8_; clear k8_
          refine Do.ret ?_
          simp [endQ, rets, ret1, go_sem, d2]
          repeat (refine And.intro (by first | omega | (intros; omega) | (intros; exact And.intro (by assumption) (by omega)) | grind) ?_)
          exact TLe.refl _
        · exact absurd h5 he
end Go.Proofs.YtdaecibpkhcllaaGreatDoor
/- The row of SumExpands. No condition. -/
namespace Go.Proofs.YtdaecibpkhcllaaGreatDoor
set_option linter.unusedVariables false
set_option linter.unusedSimpArgs false
open Go.ChangeShapes Go.WideShapes Go.ChangeAt Go.RowKit
set_option maxRecDepth 100000
namespace sumExpands
set_option maxRecDepth 100000 in
theorem lifted (os : Os) (started : os.Started) (H : Type) (enc : TypeId × Value → H) :
    ReturnsInHanded {} Tryz.checked os 6 .any (fun w args => (Rows.sumExpandsSpec.pre enc Tryz.prog Tryz.f6 [] false w args ∧ laidMetH Tryz.prog laidL w) ∧ sizedMet enc Tryz.prog Tryz.f6 (OpenSpec.ofChange Rows.sumExpandsSpec) false w args)
      (Rows.sumExpandsSpec.post enc Tryz.prog Tryz.f6 false true false false) := by
  refine returnsInHanded_of_change_and (C := Tryz.checked) (X := fun w _ => laidMetH Tryz.prog laidL w) (fun _ _ _ hh h => h.of_heap hh) own started (by kernel_rfl) Tryz.func6
    (ChangeSpec.witness_shaped (enc := enc) (C := Tryz.checked) (os := os) (X := fun w _ => laidMetH Tryz.prog laidL w) false (World.doorLaid Tryz.prog doorN os) #[.agg #[.int .i64 0, .int .i64 0], .slice Option.none 0 0] doorK rfl (World.shaped_of_RefB (by kernel_rfl) (by kernel_rfl)) (by kernel_rfl) (by kernel_rfl) (by kernel_rfl) (door_met os _)) ?_
  intro W base args ds gs before hval0 hW _ _ hL _
  have hval : ∀ (j : Nat) t v, Tryz.f6.params[j]? = some t → args[j]? = some v → Value.okWide Tryz.prog W .any base t v := hval0
  have hW' := hW
  obtain ⟨p, q, hA0, hV, rfl, hfz, hnd⟩ := hW
  have hA : DataW.TrodAll enc Tryz.prog W 0 (fun _ => true) true Tryz.f6.params.toList args.toList ds p := hA0
  rw [Tryz.params6] at hA hval
  obtain ⟨v0, vs0, d0, ds0, p0, q0, hargs, rfl, rfl, h0, r0⟩ := trodAll_cons hA
  obtain ⟨v1, vs1, d1, ds1, p1, q1, rfl, rfl, rfl, h1, r1⟩ := trodAll_cons r0
  obtain ⟨rfl, rfl, rfl⟩ := trodAll_nil r1
  obtain rfl : args = #[v0, v1] := by cases args; simp_all
  obtain ⟨rfl, rfl⟩ := trodVars_none hV
  have lt0 : ∀ x ∈ p0, x.block < W.heap.size := by obtain ⟨m, hm⟩ := h0; exact DataW.trod_lt m _ _ _ hm
  have lt1 : ∀ x ∈ p1, x.block < W.heap.size := by obtain ⟨m, hm⟩ := h1; exact DataW.trod_lt m _ _ _ hm
  obtain ⟨f, fp, a0⟩ := arg_fm (hval 0 _ v0 rfl rfl) h0
  obtain ⟨l, wl, a1⟩ := arg_fls (hval 1 _ v1 rfl rfl) h1
  clear hA0 hval0
  refine (law_calls (vals := [v0, v1]) (SumExpands_does (f := f) (p := fp) wl) Tryz.func6 rfl rfl (of_laid hL) (.cons a0 (.cons a1 .nil))).mono fun e W' ⟨he, bel⟩ => ?_
  subst he
  exact ⟨_, rfl, _, _, _, [], _, [], hW', trodAll_mk1 (shut_bool Tryz.underlying4 _), (trodAll_cons_mk (Below.trod laidOut (by kernel_rfl) (of_decide_eq_true (by kernel_rfl)) h0 bel lt0) (trodAll_mk1 (Below.trod laidOut (by kernel_rfl) (of_decide_eq_true (by kernel_rfl)) h1 bel lt1))), rfl, bel.frame _, fun h => by cases h⟩
theorem over : Rows.sumExpandsRow.holds Tryz.pinned (OpenSpec.ofChange Rows.sumExpandsSpec) :=
  OpenClaim.holds_of_wide 6 Tryz.f6 rfl rfl rfl rfl rfl rfl rfl ⟨rfl, rfl, rfl, rfl, rfl⟩ rfl rfl rfl rfl rfl (by kernel_rfl) Tryz.func6 (by kernel_rfl)
    (of_decide_eq_true (by kernel_rfl)) (by unfold Func.isWrapper; first | (rw [if_pos (by decide +kernel)]; kernel_rfl) | (rw [if_neg (by decide +kernel)]; exact ⟨rfl, rfl⟩))
    (fun os started H enc _ => lifted os started H enc)
end sumExpands
end Go.Proofs.YtdaecibpkhcllaaGreatDoor
/- The law SumExpands holds, for every input: the floats that add up to the exact sum of up to 30 floats of up to 40 words each are the document's, or the error is. Conditions: the two listed package variables hold what the program's text lays (tied by the card). -/
namespace Go.Proofs.YtdaecibpkhcllaaGreatDoor
set_option linter.unusedVariables false
set_option linter.unusedSimpArgs false
open Go
theorem sumExpands_holds : Rows.SumExpandsCardSaid :=
  Claim7.holds_tied_plain_at .later [] [.data, .funcs] true Rows.sumExpandsCard.stood.harness false
    sumExpands.over (fun _ h => by cases h) (by kernel_rfl) (fun _ h => by cases h) sumExpands_row_tie rfl ⟨rfl, rfl⟩ (by kernel_rfl) rfl
    (fun f fn hf hfn => by
      obtain rfl : f = 6 := Option.some.inj ((show Tryz.prog.funcNamed "reckoner/reckonerlaw17.SumExpands" = some 6 by kernel_rfl).symm.trans hf) |>.symm
      obtain rfl : fn = Tryz.f6 := (Option.some.inj (Tryz.func6.symm.trans hfn)).symm
      exact ⟨by kernel_rfl, fun j t ht => by
        have hm : t ∈ Tryz.f6.params.toList := by simpa using Array.mem_of_getElem? ht
        have hall : (Tryz.f6.params.toList.all fun u => !Tryz.prog.wantsStandIn u) = true := by kernel_rfl
        exact (show Tryz.prog.wantsStandIn t = false by simpa using List.all_eq_true.1 hall t hm)⟩)
    (by kernel_rfl)
#print axioms sumExpands_holds
end Go.Proofs.YtdaecibpkhcllaaGreatDoor

/- The law SumMany holds, for every input: the sum of up to 1002 copies of a float of up to 40 words is so many times its value, rounded once; more than 1000 copies are an error. Conditions: the two listed package variables hold what the program's text lays (tied by the card). -/
import Derived.Test.YtdaecibpkhcllaaGreatDoorMl
import Derived.Test.YtdaecibpkhcllaaGreatDoorMk
import Derived.Test.YtdaecibpkhcllaaGreatDoorCards
import Derived.Test.YtdaecibpkhcllaaGreatDoorTie
import Derived.SevenTiedAt
/- The reference's Expand. No condition. -/
namespace Go.Proofs.YtdaecibpkhcllaaGreatDoor
set_option linter.unusedVariables false
set_option linter.unusedSimpArgs false
set_option maxHeartbeats 4000000
set_option maxRecDepth 10000
def resR : Option (List Flt) → TV
  | some out => .t [.s true (out.map Flt.cs), .c (.b true)]
  | none => .t [.c .z, .c (.b false)]
theorem Exf.rt {f p : Int} {x : Flt} (h : Exf f p x) : Rt x.fla := ⟨by rw [Flt.fla_flt]; exact h.fine.can, nat_ws _, by have := len_bl h.fine.v; show (nat x.v).length ≤ 4096; omega⟩
/-- What is left, as a float. -/
structure RestIs (f p R : Int) (u : Flt) : Prop where
  zero : R = 0 → u.k = 0
  one : R ≠ 0 → u.k = 1
  sg : R ≠ 0 → decide (sgn u.n u.v < 0) = decide (R < 0)
  pos : R ≠ 0 → 0 < u.v
  small : bl u.v ≤ 300000
  lo : -200000 ≤ u.e
  hi : u.e ≤ 1000000
  step : R ≠ 0 → (roundP f p 0 (decide (R < 0)) u.v u.e false).1 = stepX f p R
theorem restIs {f p : Int} (hf : fmOk f p = true) {R : Int} (hb : bl R.natAbs ≤ 300000) : RestIs f p R (restP (tiny f p) R) := by
  obtain ⟨t0, t1⟩ := tiny_le hf
  unfold restP
  by_cases hR : R = 0
  · rw [if_pos hR]
    exact ⟨fun _ => rfl, fun h => absurd hR h, fun h => absurd hR h, fun h => absurd hR h, by simp [bl_zero], by simp, by simp, fun h => absurd hR h⟩
  · rw [if_neg hR]
    have hv : 0 < R.natAbs := by omega
    have hst := @round_rcanon f p 0 (decide (R < 0)) R.natAbs (tiny f p) hv
    have e2 : rcanon ⟨1, decide (R < 0), tiny f p, R.natAbs⟩ = ⟨1, decide (R < 0), tiny f p + tz R.natAbs, R.natAbs / 2 ^ tz R.natAbs⟩ := by simp [rcanon]
    rw [e2] at hst ⊢
    have htz := tz_lt_bl hv
    have hpos : 0 < R.natAbs / 2 ^ tz R.natAbs := Nat.div_pos ((bl_le _ _).1 htz) (Nat.pow_pos (by decide))
    refine ⟨fun h => absurd h hR, fun _ => rfl, fun _ => ?_, fun _ => hpos, ?_, by simp only []; omega, by simp only []; omega, fun _ => ?_⟩
    · simp only []
      generalize R.natAbs / 2 ^ tz R.natAbs = w at *
      unfold sgn
      by_cases h : R < 0 <;> simp [h] <;> omega
    · exact Nat.le_trans (bl_mono (Nat.div_le_self _ _)) hb
    · simp only [] at hst ⊢
      rw [hst]; rfl
theorem RExpand_does {f p : Int} (hf : fmOk f p = true) {l : List Fla} (hl : l.length ≤ 1000000) (hr : ∀ x ∈ l, Rt x) {L : List Flt} (hL : (l.map fun x => rcanon x.flt) = L) (htop : ∀ x ∈ L, x.k = 1 → tiny f p ≤ x.e ∧ x.e + bl x.v ≤ gOfE f + 1) : Does Tryz.prog Gv 28 [Fm f p, Rows l] (resR (expandP f p L)) := by
  obtain ⟨t0, t1⟩ := tiny_le hf
  have hll : L.length = l.length := by rw [← hL]; simp
  have hbl := sum_bl hf (by omega) htop
  have hbad : ∀ (i : Nat) (x : Fla), l[i]? = some x → (x.k = 2 ∨ x.k = 3) → expandP f p L = none := fun i x hx hk => by
    rw [expandP, if_pos]
    rw [← hL, List.any_map, List.any_eq_true]
    refine ⟨x, List.mem_of_getElem? hx, ?_⟩
    have := rcanon_k x.flt
    simp only [Function.comp, Bool.or_eq_true, beq_iff_eq, this]
    exact hk
  have hgood : (∀ i, i < l.length → ∀ x, l[i]? = some x → x.k ≠ 2 ∧ x.k ≠ 3) → expandP f p L = expX f p (bl (svs (tiny f p) L).natAbs + 1) (svs (tiny f p) L) := fun h => by
    rw [expandP, if_neg]
    rw [← hL, List.any_map, List.any_eq_true]
    rintro ⟨x, hx, hk⟩
    obtain ⟨i, hi, e⟩ := List.getElem_of_mem hx
    have h2 := h i hi x (by rw [List.getElem?_eq_getElem hi, e])
    have := rcanon_k x.flt
    simp only [Function.comp, Bool.or_eq_true, beq_iff_eq, this] at hk
    rcases hk with hk | hk
    · exact h2.1 hk
    · exact h2.2 hk
  have hRest : ∀ out : List Flt, (∀ x ∈ out, Exf f p x) → out.length ≤ 300000 → Does Tryz.prog Gv 64 [Rows l, .s false (out.map Flt.cs)] (.v (restP (tiny f p) (svs (tiny f p) (L ++ out.map Flt.neg))).pw) := fun out ho hlen => by
    have := @Rest_new Gv l (out.map Flt.fla) (by simp; omega) hr (by
      intro y hy
      obtain ⟨x, hx, rfl⟩ := List.mem_map.1 hy
      exact (ho x hx).rt) L out hL (by
      rw [List.map_map]
      conv => rhs; rw [← List.map_id out]
      apply List.map_congr_left
      intro x hx
      simp only [Function.comp, Flt.fla_flt, (ho x hx).fix, id]) (tiny f p) t0 (by
      intro x hx hk
      rcases List.mem_append.1 hx with hx | hx
      · exact (htop x hx hk).1
      · obtain ⟨y, hy, rfl⟩ := List.mem_map.1 hx
        exact (ho y hy).low)
    rw [show Rows (out.map Flt.fla) = .s false (out.map Flt.cs) by simp [Rows, Function.comp_def]] at this
    exact this
  generalize expandP f p L = E at *
  clear hL htop
  obtain ⟨R0, hR0⟩ : ∃ R0, svs (tiny f p) L = R0 := ⟨_, rfl⟩
  obtain ⟨N, hN⟩ : ∃ N, bl R0.natAbs + 1 = N := ⟨_, rfl⟩
  rw [hR0] at hbl
  rw [hR0, hN] at hgood
  refine Does.of (nt := 58) Tryz.func28 rfl rfl rfl (by simp) ?_
  simp only [argTm, PV.ext, Ce.ext]
  refine Do.seqk fun _ k1_ => ?_
  refine Do.region [1,2] true ?_
  simp [go_sem]
  apply k1_; clear k1_
  refine Do.seqk fun _ k2_ => ?_
  refine Do.seqk fun _ k3_ => ?_
  refine Do.region [1,2,6] true ?_
  simp [go_sem]
  apply k3_; clear k3_
  refine Do.block ?_
  refine Do.loopF [1,2,6] (fun (i : Nat) => [(6, .int .i64 i)]) (fun (i : Nat) => []) (fun (i : Nat) => i ≤ l.length ∧ ∀ j, j < i → ∀ x, l[j]? = some x → x.k ≠ 2 ∧ x.k ≠ 3) (fun (i : Nat) => l.length - i) (0) (fun _ => by first | (simp [go_sem, mixS]; done) | (simp [go_sem, mixS]; rfl)) (St.le_of (by first | rfl | simp [keep]) (by first | rfl | simp [keep])) (⟨Nat.zero_le _, fun j hj => absurd hj (Nat.not_lt_zero j)⟩) ?_
  rintro i ⟨hi, hz⟩
  refine Do.seqk fun _ k4_ => ?_
  refine Do.seqk fun _ k5_ => ?_
  refine Do.region [1,2,6,14] true ?_
  simp [go_sem]
  repeat (refine And.intro (by first | omega | (intros; omega) | (intros; exact And.intro (by assumption) (by omega)) | grind) ?_)
  apply k5_; clear k5_
  refine Do.cond [1,2,6] rfl (fun h2 => ?_) (fun h2 => ?_) <;> simp [go_sem] at h2 ⊢
  · obtain ⟨x, hx⟩ : ∃ x, l[i]? = some x := ⟨_, List.getElem?_eq_getElem h2⟩
    refine Do.skip ?_
    simp [go_sem]
    apply k4_; clear k4_
    refine Do.seqk fun _ k6_ => ?_
    refine Do.block ?_
    refine Do.seqk fun _ k7_ => ?_
    refine Do.region [1,2,6,30] true ?_
    simp [go_sem, hx]
    repeat (refine And.intro (by first | omega | (intros; omega) | (intros; exact And.intro (by assumption) (by omega)) | grind) ?_)
    apply k7_; clear k7_
    refine Do.cond [1,2,6] rfl (fun h3 => ?_) (fun h3 => ?_) <;> simp [go_sem, hx] at h3 ⊢
    · refine Do.seqk fun _ k8_ => ?_
      refine Do.region [4,5] true ?_
      simp [go_sem, hx]
      apply k8_; clear k8_
      refine Do.ret ?_
      simp [endQ, rets, ret1, go_sem, hx]
      repeat (refine And.intro (by first | omega | (intros; omega) | (intros; exact And.intro (by assumption) (by omega)) | grind) ?_)
      rw [hbad i x hx (by omega)]
      exact TLe.refl _
    · refine Do.skip ?_
      simp [go_sem]
      apply k6_; clear k6_
      refine Do.region [1,2,6] true ?_
      simp [go_sem, hx]
      repeat (refine And.intro (by first | omega | (intros; omega) | (intros; exact And.intro (by assumption) (by omega)) | grind) ?_)
      refine ⟨i + 1, St.le_of (by first | rfl | simp [keep]) (by first | rfl | simp [keep]), ⟨by omega, ?_⟩, by simp; omega⟩
      intro j hj y hy
      by_cases e : j = i
      · subst e; rw [hx] at hy; injection hy with hy; subst hy; omega
      · exact hz j (by omega) y hy
  · have hE := hgood (fun j hj => hz j (by omega))
    refine Do.exit ?_
    simp [go_sem]
    apply k2_; clear k2_
    refine Do.seqk fun _ k9_ => ?_
    refine Do.region [1,2,7] true ?_
    simp [go_sem]
    apply k9_; clear k9_
    refine Do.block ?_
    refine Do.own 7 900 4 rfl rfl (by decide) ?_
    simp [go_sem]
    refine Do.loopF [1,2,7] (fun (s : List Flt × Int × Nat) => [(7, .v (.c (.r 900 s.1.length)))]) (fun (s : List Flt × Int × Nat) => [(900, .sr 4 (s.1.map Flt.cs))]) (fun (s : List Flt × Int × Nat) => (∀ x ∈ s.1, Exf f p x) ∧ svs (tiny f p) (L ++ s.1.map Flt.neg) = s.2.1 ∧ expX f p N R0 = (expX f p s.2.2 s.2.1).map (s.1 ++ ·) ∧ bl s.2.1.natAbs < s.2.2 ∧ s.1.length + s.2.2 ≤ 300000) (fun (s : List Flt × Int × Nat) => s.2.2) (([], R0, N)) (fun _ => by first | (simp [go_sem, mixS]; done) | (simp [go_sem, mixS]; rfl)) (St.le_of (by first | rfl | simp [keep]) (by first | rfl | simp [keep])) (⟨by simp, by simpa using hR0, by simp, by simp only []; omega, by simp only [List.length_nil]; omega⟩) ?_
    rintro ⟨out, R, n⟩ ⟨i1, i2, i3, i4, i5⟩
    simp only [] at i1 i2 i3 i4 i5
    have hZ := hRest out i1 (by omega)
    rw [i2] at hZ
    have hu := @restIs f p hf R (by omega)
    generalize restP (tiny f p) R = u at *
    refine Do.block ?_
    refine Do.seqk fun _ k10_ => ?_
    refine Do.region [1,2,7,8] true ?_
    simp [go_sem]
    refine DoL.call true 703 rfl rfl rfl rfl (by first | exact trivial | omega | (simp; done) | (simp; omega)) (hZ) rfl (by first | exact .inl rfl | exact .inr rfl) rfl ?_
    simp [go_sem]
    repeat (refine And.intro (by first | omega | (intros; omega) | (intros; exact And.intro (by assumption) (by omega)) | grind) ?_)
    apply k10_; clear k10_
    refine Do.seqk fun _ k11_ => ?_
    refine Do.seqk fun _ k12_ => ?_
    refine Do.region [1,2,7,8,36] true ?_
    simp [go_sem]
    repeat (refine And.intro (by first | omega | (intros; omega) | (intros; exact And.intro (by assumption) (by omega)) | grind) ?_)
    apply k12_; clear k12_
    refine Do.cond [1,2,7,8] rfl (fun h4 => ?_) (fun h4 => ?_) <;> simp [go_sem] at h4 ⊢
    · refine Do.seqk fun _ k13_ => ?_
      refine Do.region [4,5] true ?_
      simp [go_sem]
      apply k13_; clear k13_
      refine Do.ret ?_
      simp [endQ, rets, ret1, go_sem]
      repeat (refine And.intro (by first | omega | (intros; omega) | (intros; exact And.intro (by assumption) (by omega)) | grind) ?_)
      have hR : R = 0 := by
        apply Classical.byContradiction
        intro h
        have := hu.one h; omega
      rw [hE, i3, hR, expX_zero (by omega)]
      simp only [Option.map_some, List.append_nil]
      exact TLe.refl _
    · have hR : R ≠ 0 := fun h => h4 (hu.zero h)
      have hsm := hu.small
      have hsg := hu.sg hR
      have hst := hu.step hR
      have hM := @IMake11_does Gv u.n (nat u.v) (by have := len_bl hsm; omega) (nat_ws _)
      rw [val_nat] at hM
      have hab := sgn_abs u.n u.v
      generalize sgn u.n u.v = w at *
      have hSc := @Scaled_does Gv (decide (w < 0)) (nat w.natAbs) u.e (by rw [hab]; have := len_bl hsm; omega) (nat_ws _)
      rw [val_nat, sgn_of, hab] at hSc
      have hRd := @Round_new Gv f p 0 hf (by decide) (by decide) (decide (w < 0)) u.v u.e (hu.pos hR) (by omega) (by have := hu.lo; have := hu.hi; omega)
      have hM : Does Tryz.prog Gv 33 [.c (.b u.n), Wd (nat u.v)] (.v (Ig (decide (w < 0)) (nat w.natAbs))) := hM
      rw [hsg, hab] at hM
      rw [hsg] at hSc hRd
      rw [hst] at hRd
      refine Do.skip ?_
      simp [go_sem]
      apply k11_; clear k11_
      refine Do.seqk fun _ k14_ => ?_
      refine Do.draw [1,2,7,9] true (by kernel_rfl) ?_
      simp [go_sem]
      repeat (refine And.intro (by first | omega | (intros; omega) | (intros; exact And.intro (by assumption) (by omega)) | kernel_rfl | grind) ?_)
      refine DoLD.call true 1006 rfl rfl rfl rfl (by first | exact trivial | omega | (simp; done) | (simp; omega)) (hM) rfl (by first | exact .inl rfl | exact .inr rfl) rfl ?_
      simp [go_sem]
      repeat (refine And.intro (by first | omega | (intros; omega) | (intros; exact And.intro (by assumption) (by omega)) | kernel_rfl | grind) ?_)
      refine DoLD.call true 1009 rfl rfl rfl rfl (by first | exact trivial | omega | (simp; done) | (simp; omega)) (hSc) rfl (by first | exact .inl rfl | exact .inr rfl) rfl ?_
      simp [go_sem]
      have hkinds := stepX_kinds hf R
      have hk3 := stepX_not3 f p R
      have hstop := @expX_stop f p n R (by omega) hR
      have hspec := @stepX_spec f p hf R hR
      obtain ⟨n', rfl⟩ : ∃ n', n = n' + 1 := ⟨n - 1, by omega⟩
      have hnext := fun hk => expX_next hR hk i3
      have hnx : nextX f p R = R - fv (tiny f p) (stepX f p R) := rfl
      generalize (roundP f p 0 (decide (R < 0)) u.v u.e false).2 = fl at *
      generalize stepX f p R = x at *
      refine DoLD.call true 1010 rfl rfl rfl rfl (by first | exact trivial | omega | (simp; done) | (simp; omega)) (hRd) rfl (by first | exact .inl rfl | exact .inr rfl) rfl ?_
      simp [go_sem]
      repeat (refine And.intro (by first | omega | (intros; omega) | (intros; exact And.intro (by assumption) (by omega)) | kernel_rfl | grind) ?_)
      try (refine And.intro (by kernel_rfl) ?_)
      apply k14_; clear k14_
      refine Do.seqk fun _ k15_ => ?_
      refine Do.seqk fun _ k16_ => ?_
      refine Do.region [1,2,7,9,53] true ?_
      simp [go_sem]
      repeat (refine And.intro (by first | omega | (intros; omega) | (intros; exact And.intro (by assumption) (by omega)) | grind) ?_)
      apply k16_; clear k16_
      refine Do.cond [1,2,7,9] rfl (fun h6 => ?_) (fun h6 => ?_) <;> simp [go_sem] at h6 ⊢
      · refine Do.seqk fun _ k17_ => ?_
        refine Do.region [4,5] true ?_
        simp [go_sem]
        apply k17_; clear k17_
        refine Do.ret ?_
        simp [endQ, rets, ret1, go_sem]
        repeat (refine And.intro (by first | omega | (intros; omega) | (intros; exact And.intro (by assumption) (by omega)) | grind) ?_)
        rw [hE, i3, hstop (Classical.byContradiction fun h => h6 (hspec h).1.k)]
        exact TLe.refl _
      · obtain ⟨hx, hdec⟩ := hspec (by omega)
        have hn2 := hnext (by omega)
        refine Do.skip ?_
        simp [go_sem]
        apply k15_; clear k15_
        refine Do.region [1,2,7] true ?_
        simp [go_sem]
        repeat (refine And.intro (by first | omega | (intros; omega) | (intros; exact And.intro (by assumption) (by omega)) | grind) ?_)
        refine ⟨(out ++ [x], nextX f p R, n'), St.le_of (by simp [keep]) (by simp [keep]), ⟨?_, ?_, hn2, by show bl (nextX f p R).natAbs < n'; omega, by simp only [List.length_append, List.length_cons, List.length_nil]; omega⟩, by simp⟩
        · intro z hz2
          rcases List.mem_append.1 hz2 with hz2 | hz2
          · exact i1 z hz2
          · rw [List.mem_singleton.1 hz2]; exact hx
        · simp only []
          rw [List.map_append, ← List.append_assoc, svs_append, i2, svs_fv]
          simp only [List.map_cons, List.map_nil, List.sum_cons, List.sum_nil, fv_neg]
          omega
end Go.Proofs.YtdaecibpkhcllaaGreatDoor
/- The law SumExpands. No condition. -/
namespace Go.Proofs.YtdaecibpkhcllaaGreatDoor
set_option linter.unusedVariables false
set_option linter.unusedSimpArgs false
set_option maxHeartbeats 4000000
set_option maxRecDepth 10000
theorem SumExpands_does {f p : Int} {l : List Fla} (hl : ∀ x ∈ l, Ws x.m ∧ I64 x.e) : Does Tryz.prog Gv 6 [Fm f p, Rows l] (.v (.c (.b true))) := by
  by_cases h30 : 30 < l.length
  · have d1 : (30 : Int) < l.length := by omega
    refine Does.of (nt := 90) Tryz.func6 rfl rfl rfl (by simp) ?_
    simp only [argTm, PV.ext, Ce.ext]
    refine Do.seqk fun _ k1_ => ?_
    refine Do.region [1,2] true ?_
    simp [go_sem, d1]
    apply k1_; clear k1_
    refine Do.seqk fun _ k2_ => ?_
    refine Do.seqk fun _ k3_ => ?_
    refine Do.region [1,2,18] true ?_
    simp [go_sem, d1]
    repeat (refine And.intro (by first | omega | (intros; omega) | (intros; exact And.intro (by assumption) (by omega)) | grind) ?_)
    refine DoL.gOff true 106 rfl rfl (.v (.c (.b false))) rfl ?_
    simp [go_sem, d1]
    repeat (refine And.intro (by first | omega | (intros; omega) | (intros; exact And.intro (by assumption) (by omega)) | grind) ?_)
    apply k3_; clear k3_
    refine Do.cond [1,2] rfl (fun h => ?_) (fun h => ?_) <;> simp [go_sem, d1] at h ⊢
    refine Do.seqk fun _ k4_ => ?_
    refine Do.region [4] true ?_
    simp [go_sem, d1]
    refine DoL.call true 201 rfl rfl rfl rfl (by first | exact trivial | omega | (simp; done) | (simp; omega)) (awake_does) rfl (by first | exact .inl rfl | exact .inr rfl) rfl ?_
    simp [go_sem, d1]
    apply k4_; clear k4_
    refine Do.ret ?_
    simp [endQ, rets, ret1, go_sem, d1]
    repeat (refine And.intro (by first | omega | (intros; omega) | (intros; exact And.intro (by assumption) (by omega)) | grind) ?_)
    exact TLe.refl _
  · have d2 : ¬ (30 : Int) < l.length := by omega
    have hS : Does Tryz.prog Gv 10 [Rows l] (.v (.c (.b (shortP l)))) := Short15_does (l := l) (by omega)
    cases hs : shortP l with
    | false =>
      rw [hs] at hS
      refine Does.of (nt := 90) Tryz.func6 rfl rfl rfl (by simp) ?_
      simp only [argTm, PV.ext, Ce.ext]
      refine Do.seqk fun _ k1_ => ?_
      refine Do.region [1,2] true ?_
      simp [go_sem, d2]
      apply k1_; clear k1_
      refine Do.seqk fun _ k2_ => ?_
      refine Do.seqk fun _ k3_ => ?_
      refine Do.region [1,2,18] true ?_
      simp [go_sem, d2]
      repeat (refine And.intro (by first | omega | (intros; omega) | (intros; exact And.intro (by assumption) (by omega)) | grind) ?_)
      refine DoL.callg true 106 rfl rfl rfl rfl rfl (by simp [go_sem] <;> omega) (fun _ => hS) rfl (by first | exact .inl rfl | exact .inr rfl) rfl ?_
      simp [go_sem, d2]
      repeat (refine And.intro (by first | omega | (intros; omega) | (intros; exact And.intro (by assumption) (by omega)) | grind) ?_)
      apply k3_; clear k3_
      refine Do.cond [1,2] rfl (fun h => ?_) (fun h => ?_) <;> simp [go_sem, d2] at h ⊢
      refine Do.seqk fun _ k4_ => ?_
      refine Do.region [4] true ?_
      simp [go_sem, d2]
      refine DoL.call true 201 rfl rfl rfl rfl (by first | exact trivial | omega | (simp; done) | (simp; omega)) (awake_does) rfl (by first | exact .inl rfl | exact .inr rfl) rfl ?_
      simp [go_sem, d2]
      apply k4_; clear k4_
      refine Do.ret ?_
      simp [endQ, rets, ret1, go_sem, d2]
      repeat (refine And.intro (by first | omega | (intros; omega) | (intros; exact And.intro (by assumption) (by omega)) | grind) ?_)
      exact TLe.refl _
    | true =>
      rw [hs] at hS
      have ho : ∀ x ∈ l, x.Ok := fun x hx => by
        have h1 : ∀ x ∈ l, x.m.length ≤ 40 := by simpa [shortP] using hs
        have := h1 x hx
        exact ⟨by simp [Sh]; omega, (hl x hx).1, (hl x hx).2⟩
      have hC := @RCheck_does Gv f p l (by omega) ho
      have hb : decide ((1000 : Int) < l.length) = false := by simp; omega
      by_cases he : argsE f p 0 false l = 0
      · have hX := @SExpand_does f p l (by omega) ho (by rw [hb]; exact he)
        obtain ⟨h1, h2, h3, h4, h5, h6⟩ := argsE_zero he
        have hY := @RExpand_does f p h5 l (by omega) (held_rt h6 ho h1) (heldL f p l) (held_map h6) (held_top h5 h6)
        have hall : ∀ out, expandP f p (heldL f p l) = some out → (∀ x ∈ out, Exf f p x) ∧ out.length ≤ 300000 := fun out h => by
          have hbl := sum_bl h5 (by simp [heldL]; omega) (held_top h5 h6)
          rw [expandP] at h
          split at h
          · cases h
          · exact ⟨expX_all h5 h, by have := expX_len h; omega⟩
        rw [he] at hC
        generalize expandP f p (heldL f p l) = E at *
        cases E with
        | none =>
          have hX : Does Tryz.prog Gv 27 [Fm f p, Rows l] (.t [.c .z, .c (.i .i64 4)]) := hX
          have hY : Does Tryz.prog Gv 28 [Fm f p, Rows l] (.t [.c .z, .c (.b false)]) := hY
          refine Does.of (nt := 90) Tryz.func6 rfl rfl rfl (by simp) ?_
          simp only [argTm, PV.ext, Ce.ext]
          refine Do.seqk fun _ k1_ => ?_
          refine Do.region [1,2] true ?_
          simp [go_sem, d2]
          apply k1_; clear k1_
          refine Do.seqk fun _ k2_ => ?_
          refine Do.seqk fun _ k3_ => ?_
          refine Do.region [1,2,18] true ?_
          simp [go_sem, d2]
          repeat (refine And.intro (by first | omega | (intros; omega) | (intros; exact And.intro (by assumption) (by omega)) | grind) ?_)
          refine DoL.callg true 106 rfl rfl rfl rfl rfl (by simp [go_sem] <;> omega) (fun _ => hS) rfl (by first | exact .inl rfl | exact .inr rfl) rfl ?_
          simp [go_sem, d2]
          repeat (refine And.intro (by first | omega | (intros; omega) | (intros; exact And.intro (by assumption) (by omega)) | grind) ?_)
          apply k3_; clear k3_
          refine Do.cond [1,2] rfl (fun h => ?_) (fun h => ?_) <;> simp [go_sem, d2] at h ⊢
          refine Do.skip ?_
          simp [go_sem]
          apply k2_; clear k2_
          refine Do.seqk fun _ k4_ => ?_
          refine Do.region [1,2,5,6] true ?_
          simp [go_sem, d2]
          repeat (refine And.intro (by first | omega | (intros; omega) | (intros; exact And.intro (by assumption) (by omega)) | grind) ?_)
          refine DoL.call true 303 rfl rfl rfl rfl (by first | exact trivial | omega | (simp; done) | (simp; omega)) (hX) rfl (by first | exact .inl rfl | exact .inr rfl) rfl ?_
          simp [go_sem, d2]
          apply k4_; clear k4_
          refine Do.seqk fun _ k5_ => ?_
          refine Do.region [1,2,5,6,7] true ?_
          simp [go_sem, d2]
          repeat (refine And.intro (by first | omega | (intros; omega) | (intros; exact And.intro (by assumption) (by omega)) | grind) ?_)
          refine DoL.call true 402 rfl rfl rfl rfl (by first | exact trivial | omega | (simp; done) | (simp; omega)) (Fmt_does) rfl (by first | exact .inl rfl | exact .inr rfl) rfl ?_
          simp [go_sem, d2]
          refine DoL.call true 404 rfl rfl rfl rfl (by first | exact trivial | omega | (simp; done) | (simp; omega)) (Theirs_does (by omega)) rfl (by first | exact .inl rfl | exact .inr rfl) rfl ?_
          simp [go_sem, d2]
          refine DoL.call true 405 rfl rfl rfl rfl (by first | exact trivial | omega | (simp; done) | (simp; omega)) (hC) rfl (by first | exact .inl rfl | exact .inr rfl) rfl ?_
          simp [go_sem, d2]
          apply k5_; clear k5_
          refine Do.seqk fun _ k6_ => ?_
          refine Do.seqk fun _ k7_ => ?_
          refine Do.region [1,2,5,6,7,32] true ?_
          simp [go_sem, d2]
          apply k7_; clear k7_
          refine Do.cond [1,2,5,6,7] rfl (fun h => ?_) (fun h => ?_) <;> simp [go_sem, d2] at h ⊢
          refine Do.skip ?_
          simp [go_sem]
          apply k6_; clear k6_
          refine Do.seqk fun _ k8_ => ?_
          refine Do.region [5,6,8,9] true ?_
          simp [go_sem, d2]
          repeat (refine And.intro (by first | omega | (intros; omega) | (intros; exact And.intro (by assumption) (by omega)) | grind) ?_)
          refine DoL.call true 702 rfl rfl rfl rfl (by first | exact trivial | omega | (simp; done) | (simp; omega)) (Fmt_does) rfl (by first | exact .inl rfl | exact .inr rfl) rfl ?_
          simp [go_sem, d2]
          refine DoL.call true 704 rfl rfl rfl rfl (by first | exact trivial | omega | (simp; done) | (simp; omega)) (Theirs_does (by omega)) rfl (by first | exact .inl rfl | exact .inr rfl) rfl ?_
          simp [go_sem, d2]
          refine DoL.call true 705 rfl rfl rfl rfl (by first | exact trivial | omega | (simp; done) | (simp; omega)) (hY) rfl (by first | exact .inl rfl | exact .inr rfl) rfl ?_
          simp [go_sem, d2]
          apply k8_; clear k8_
          refine Do.seqk fun _ k9_ => ?_
          refine Do.seqk fun _ k10_ => ?_
          refine Do.region [5,6,8,53] true ?_
          simp [go_sem, d2]
          repeat (refine And.intro (by first | omega | (intros; omega) | (intros; exact And.intro (by assumption) (by omega)) | grind) ?_)
          apply k10_; clear k10_
          refine Do.cond [5,6,8] rfl (fun h => ?_) (fun h => ?_) <;> simp [go_sem, d2] at h ⊢
          refine Do.seqk fun _ k11_ => ?_
          refine Do.region [4] true ?_
          simp [go_sem, d2]
          repeat (refine And.intro (by first | omega | (intros; omega) | (intros; exact And.intro (by assumption) (by omega)) | grind) ?_)
          refine DoL.callg true 909 rfl rfl rfl rfl rfl (by simp [go_sem] <;> omega) (fun _ => awake_does) rfl (by first | exact .inl rfl | exact .inr rfl) rfl ?_
          simp [go_sem, d2]
          apply k11_; clear k11_
          refine Do.ret ?_
          simp [endQ, rets, ret1, go_sem, d2]
          repeat (refine And.intro (by first | omega | (intros; omega) | (intros; exact And.intro (by assumption) (by omega)) | grind) ?_)
          exact TLe.refl _
        | some out =>
          have hX : Does Tryz.prog Gv 27 [Fm f p, Rows l] (.t [.s true (out.map Flt.cs), .c (.i .i64 0)]) := hX
          have hY : Does Tryz.prog Gv 28 [Fm f p, Rows l] (.t [.s true (out.map Flt.cs), .c (.b true)]) := hY
          obtain ⟨hex, hlen⟩ := hall out rfl
          refine Does.of (nt := 90) Tryz.func6 rfl rfl rfl (by simp) ?_
          simp only [argTm, PV.ext, Ce.ext]
          refine Do.seqk fun _ k1_ => ?_
          refine Do.region [1,2] true ?_
          simp [go_sem, d2]
          apply k1_; clear k1_
          refine Do.seqk fun _ k2_ => ?_
          refine Do.seqk fun _ k3_ => ?_
          refine Do.region [1,2,18] true ?_
          simp [go_sem, d2]
          repeat (refine And.intro (by first | omega | (intros; omega) | (intros; exact And.intro (by assumption) (by omega)) | grind) ?_)
          refine DoL.callg true 106 rfl rfl rfl rfl rfl (by simp [go_sem] <;> omega) (fun _ => hS) rfl (by first | exact .inl rfl | exact .inr rfl) rfl ?_
          simp [go_sem, d2]
          repeat (refine And.intro (by first | omega | (intros; omega) | (intros; exact And.intro (by assumption) (by omega)) | grind) ?_)
          apply k3_; clear k3_
          refine Do.cond [1,2] rfl (fun h => ?_) (fun h => ?_) <;> simp [go_sem, d2] at h ⊢
          refine Do.skip ?_
          simp [go_sem]
          apply k2_; clear k2_
          refine Do.seqk fun _ k4_ => ?_
          refine Do.region [1,2,5,6] true ?_
          simp [go_sem, d2]
          repeat (refine And.intro (by first | omega | (intros; omega) | (intros; exact And.intro (by assumption) (by omega)) | grind) ?_)
          refine DoL.call true 303 rfl rfl rfl rfl (by first | exact trivial | omega | (simp; done) | (simp; omega)) (hX) rfl (by first | exact .inl rfl | exact .inr rfl) rfl ?_
          simp [go_sem, d2]
          apply k4_; clear k4_
          refine Do.seqk fun _ k5_ => ?_
          refine Do.region [1,2,5,6,7] true ?_
          simp [go_sem, d2]
          repeat (refine And.intro (by first | omega | (intros; omega) | (intros; exact And.intro (by assumption) (by omega)) | grind) ?_)
          refine DoL.call true 402 rfl rfl rfl rfl (by first | exact trivial | omega | (simp; done) | (simp; omega)) (Fmt_does) rfl (by first | exact .inl rfl | exact .inr rfl) rfl ?_
          simp [go_sem, d2]
          refine DoL.call true 404 rfl rfl rfl rfl (by first | exact trivial | omega | (simp; done) | (simp; omega)) (Theirs_does (by omega)) rfl (by first | exact .inl rfl | exact .inr rfl) rfl ?_
          simp [go_sem, d2]
          refine DoL.call true 405 rfl rfl rfl rfl (by first | exact trivial | omega | (simp; done) | (simp; omega)) (hC) rfl (by first | exact .inl rfl | exact .inr rfl) rfl ?_
          simp [go_sem, d2]
          apply k5_; clear k5_
          refine Do.seqk fun _ k6_ => ?_
          refine Do.seqk fun _ k7_ => ?_
          refine Do.region [1,2,5,6,7,32] true ?_
          simp [go_sem, d2]
          apply k7_; clear k7_
          refine Do.cond [1,2,5,6,7] rfl (fun h => ?_) (fun h => ?_) <;> simp [go_sem, d2] at h ⊢
          refine Do.skip ?_
          simp [go_sem]
          apply k6_; clear k6_
          refine Do.seqk fun _ k8_ => ?_
          refine Do.region [5,6,8,9] true ?_
          simp [go_sem, d2]
          repeat (refine And.intro (by first | omega | (intros; omega) | (intros; exact And.intro (by assumption) (by omega)) | grind) ?_)
          refine DoL.call true 702 rfl rfl rfl rfl (by first | exact trivial | omega | (simp; done) | (simp; omega)) (Fmt_does) rfl (by first | exact .inl rfl | exact .inr rfl) rfl ?_
          simp [go_sem, d2]
          refine DoL.call true 704 rfl rfl rfl rfl (by first | exact trivial | omega | (simp; done) | (simp; omega)) (Theirs_does (by omega)) rfl (by first | exact .inl rfl | exact .inr rfl) rfl ?_
          simp [go_sem, d2]
          refine DoL.call true 705 rfl rfl rfl rfl (by first | exact trivial | omega | (simp; done) | (simp; omega)) (hY) rfl (by first | exact .inl rfl | exact .inr rfl) rfl ?_
          simp [go_sem, d2]
          apply k8_; clear k8_
          refine Do.seqk fun _ k9_ => ?_
          refine Do.seqk fun _ k10_ => ?_
          refine Do.region [5,6,8,53] true ?_
          simp [go_sem, d2]
          repeat (refine And.intro (by first | omega | (intros; omega) | (intros; exact And.intro (by assumption) (by omega)) | grind) ?_)
          apply k10_; clear k10_
          refine Do.cond [5,6,8] rfl (fun h => ?_) (fun h => ?_) <;> simp [go_sem, d2] at h ⊢
          refine Do.skip ?_
          simp [go_sem]
          apply k9_; clear k9_
          refine Do.seqk fun _ k11_ => ?_
          refine Do.seqk fun _ k12_ => ?_
          refine Do.region [5,8,72] true ?_
          simp [go_sem, d2]
          repeat (refine And.intro (by first | omega | (intros; omega) | (intros; exact And.intro (by assumption) (by omega)) | grind) ?_)
          apply k12_; clear k12_
          refine Do.cond [5,8] rfl (fun h => ?_) (fun h => ?_) <;> simp [go_sem, d2] at h ⊢
          refine Do.skip ?_
          simp [go_sem]
          apply k11_; clear k11_
          refine Do.seqk fun _ k13_ => ?_
          refine Do.seqk fun _ k14_ => ?_
          refine Do.region [5,8,10] true ?_
          simp [go_sem, d2]
          apply k14_; clear k14_
          refine Do.block ?_
          refine Do.loopF [5,8,10] (fun (i : Nat) => [(10, .int .i64 i)]) (fun (i : Nat) => []) (fun (i : Nat) => i ≤ out.length) (fun (i : Nat) => out.length - i) (0) (fun _ => by first | (simp [go_sem, mixS]; done) | (simp [go_sem, mixS]; rfl)) (St.le_of (by first | rfl | simp [keep]) (by first | rfl | simp [keep])) (Nat.zero_le _) ?_
          intro i hi
          refine Do.seqk fun _ k15_ => ?_
          refine Do.seqk fun _ k16_ => ?_
          refine Do.region [5,8,10,76] true ?_
          simp [go_sem, d2]
          repeat (refine And.intro (by first | omega | (intros; omega) | (intros; exact And.intro (by assumption) (by omega)) | grind) ?_)
          apply k16_; clear k16_
          refine Do.cond [5,8,10] rfl (fun h8 => ?_) (fun h8 => ?_) <;> simp [go_sem, d2] at h8 ⊢
          · obtain ⟨x, hx⟩ : ∃ x, out[i]? = some x := ⟨_, List.getElem?_eq_getElem h8⟩
            have hxe := hex x (List.mem_of_getElem? hx)
            have hI := @LIs_same Gv x hxe.fine hxe.fix
            refine Do.skip ?_
            simp [go_sem]
            apply k15_; clear k15_
            refine Do.seqk fun _ k17_ => ?_
            refine Do.block ?_
            refine Do.seqk fun _ k18_ => ?_
            refine Do.draw [5,8,10,88] true (by kernel_rfl) ?_
            simp [go_sem, hx]
            repeat (refine And.intro (by first | omega | (intros; omega) | (intros; exact And.intro (by assumption) (by omega)) | kernel_rfl | grind) ?_)
            refine DoLD.call true 1509 rfl rfl rfl rfl (by first | exact trivial | omega | (simp; done) | (simp; omega)) (hI) rfl (by first | exact .inl rfl | exact .inr rfl) rfl ?_
            simp [go_sem, hx]
            repeat (refine And.intro (by first | omega | (intros; omega) | (intros; exact And.intro (by assumption) (by omega)) | kernel_rfl | grind) ?_)
            try (refine And.intro (by kernel_rfl) ?_)
            apply k18_; clear k18_
            refine Do.cond [5,8,10] rfl (fun h => ?_) (fun h => ?_) <;> simp [go_sem, hx] at h ⊢
            refine Do.skip ?_
            simp [go_sem]
            apply k17_; clear k17_
            refine Do.region [5,8,10] true ?_
            simp [go_sem, hx]
            repeat (refine And.intro (by first | omega | (intros; omega) | (intros; exact And.intro (by assumption) (by omega)) | grind) ?_)
            refine ⟨i + 1, St.le_of (by first | rfl | simp [keep]) (by first | rfl | simp [keep]), by omega, by first | (simp; done) | (simp; omega)⟩
          · refine Do.exit ?_
            simp [go_sem]
            apply k13_; clear k13_
            refine Do.seqk fun _ k19_ => ?_
            refine Do.region [4] true ?_
            simp [go_sem, d2]
            refine DoL.call true 1701 rfl rfl rfl rfl (by first | exact trivial | omega | (simp; done) | (simp; omega)) (awake_does) rfl (by first | exact .inl rfl | exact .inr rfl) rfl ?_
            simp [go_sem, d2]
            apply k19_; clear k19_
            refine Do.ret ?_
            simp [endQ, rets, ret1, go_sem, d2]
            repeat (refine And.intro (by first | omega | (intros; omega) | (intros; exact And.intro (by assumption) (by omega)) | grind) ?_)
            exact TLe.refl _
      · have hX := @Expand_err f p l (by omega) ho (by rw [hb]; exact he)
        rw [hb] at hX
        generalize argsE f p 0 false l = ae at *
        refine Does.of (nt := 90) Tryz.func6 rfl rfl rfl (by simp) ?_
        simp only [argTm, PV.ext, Ce.ext]
        refine Do.seqk fun _ k1_ => ?_
        refine Do.region [1,2] true ?_
        simp [go_sem, d2]
        apply k1_; clear k1_
        refine Do.seqk fun _ k2_ => ?_
        refine Do.seqk fun _ k3_ => ?_
        refine Do.region [1,2,18] true ?_
        simp [go_sem, d2]
        repeat (refine And.intro (by first | omega | (intros; omega) | (intros; exact And.intro (by assumption) (by omega)) | grind) ?_)
        refine DoL.callg true 106 rfl rfl rfl rfl rfl (by simp [go_sem] <;> omega) (fun _ => hS) rfl (by first | exact .inl rfl | exact .inr rfl) rfl ?_
        simp [go_sem, d2]
        repeat (refine And.intro (by first | omega | (intros; omega) | (intros; exact And.intro (by assumption) (by omega)) | grind) ?_)
        apply k3_; clear k3_
        refine Do.cond [1,2] rfl (fun h => ?_) (fun h => ?_) <;> simp [go_sem, d2] at h ⊢
        refine Do.skip ?_
        simp [go_sem]
        apply k2_; clear k2_
        refine Do.seqk fun _ k4_ => ?_
        refine Do.region [1,2,5,6] true ?_
        simp [go_sem, d2]
        repeat (refine And.intro (by first | omega | (intros; omega) | (intros; exact And.intro (by assumption) (by omega)) | grind) ?_)
        refine DoL.call true 303 rfl rfl rfl rfl (by first | exact trivial | omega | (simp; done) | (simp; omega)) (hX) rfl (by first | exact .inl rfl | exact .inr rfl) rfl ?_
        simp [go_sem, d2]
        apply k4_; clear k4_
        refine Do.seqk fun _ k5_ => ?_
        refine Do.region [1,2,5,6,7] true ?_
        simp [go_sem, d2]
        repeat (refine And.intro (by first | omega | (intros; omega) | (intros; exact And.intro (by assumption) (by omega)) | grind) ?_)
        refine DoL.call true 402 rfl rfl rfl rfl (by first | exact trivial | omega | (simp; done) | (simp; omega)) (Fmt_does) rfl (by first | exact .inl rfl | exact .inr rfl) rfl ?_
        simp [go_sem, d2]
        refine DoL.call true 404 rfl rfl rfl rfl (by first | exact trivial | omega | (simp; done) | (simp; omega)) (Theirs_does (by omega)) rfl (by first | exact .inl rfl | exact .inr rfl) rfl ?_
        simp [go_sem, d2]
        refine DoL.call true 405 rfl rfl rfl rfl (by first | exact trivial | omega | (simp; done) | (simp; omega)) (hC) rfl (by first | exact .inl rfl | exact .inr rfl) rfl ?_
        simp [go_sem, d2]
        apply k5_; clear k5_
        refine Do.seqk fun _ k6_ => ?_
        refine Do.seqk fun _ k7_ => ?_
        refine Do.region [1,2,5,6,7,32] true ?_
        simp [go_sem, d2]
        apply k7_; clear k7_
        refine Do.cond [1,2,5,6,7] rfl (fun h5 => ?_) (fun h5 => ?_) <;> simp [go_sem, d2] at h5 ⊢
        · refine Do.seqk fun _ k8_ => ?_
          refine Do.region [4] true ?_
          simp [go_sem, d2]
          repeat (refine And.intro (by first | omega | (intros; omega) | (intros; exact And.intro (by assumption) (by omega)) | grind) ?_)
          refine DoL.callg true 610 rfl rfl rfl rfl rfl (by simp [go_sem] <;> omega) (fun _ => awake_does) rfl (by first | exact .inl rfl | exact .inr rfl) rfl ?_
          simp [go_sem, d2]
          apply k8_; clear k8_
          refine Do.ret ?_
          simp [endQ, rets, ret1, go_sem, d2]
          repeat (refine And.intro (by first | omega | (intros; omega) | (intros; exact And.intro (by assumption) (by omega)) | grind) ?_)
          exact TLe.refl _
        · exact absurd h5 he
end Go.Proofs.YtdaecibpkhcllaaGreatDoor
/- The law SumMany. No condition. -/
namespace Go.Proofs.YtdaecibpkhcllaaGreatDoor
set_option linter.unusedVariables false
set_option linter.unusedSimpArgs false
set_option maxHeartbeats 4000000
set_option maxRecDepth 10000
theorem svs_rep (z : Int) (a : Flt) (n : Nat) : svs z (List.replicate n a) = n * fv z a := by
  rw [svs_fv]
  induction n with
  | zero => simp
  | succ n ih =>
    rw [List.replicate_succ, List.map_cons, List.sum_cons, ih, Int.natCast_add, Int.add_mul]; simp; omega
theorem gather_many {f p r : Int} {a : Flt} {n : Nat} (ha : n = 0 ∨ a.k ≠ 1) : (gatherP (List.replicate n a)).float f p r = (gatherP (List.replicate (min n 2) a)).float f p r := by
  rcases ha with h | h
  · subst h; rfl
  · by_cases hn : n = 0
    · subst hn; rfl
    · have h1 : ∀ m : Nat, ∀ x ∈ List.replicate m a, x.k = 1 → (0 : Int) ≤ x.e := fun m x hx hk => by
        rw [List.eq_of_mem_replicate hx] at hk; exact absurd hk h
      have h0 : fv 0 a = 0 := by simp [fv, h]
      exact float_is (gather_is (Int.le_refl _) (h1 n)) (gather_is (Int.le_refl _) (h1 (min n 2))) (by rw [svs_rep, svs_rep, h0]; simp) (fun q => by
        rw [List.any_replicate, List.any_replicate, if_neg hn, if_neg (by omega)]) f p r
theorem sv_rcanon {x : Flt} (hk : x.k = 1) {z : Int} (hz : z ≤ x.e) : Nu.sv z ⟨(rcanon x).n, (rcanon x).v, (rcanon x).e⟩ = Nu.sv z ⟨x.n, x.v, x.e⟩ := by
  have e2 : rcanon x = ⟨1, x.n, x.e + tz x.v, x.v / 2 ^ tz x.v⟩ := by simp [rcanon, hk]
  rw [e2]
  have hv : x.v / 2 ^ tz x.v * 2 ^ (x.e + tz x.v - z).toNat = x.v * 2 ^ (x.e - z).toNat := by
    by_cases h0 : x.v = 0
    · rw [h0]; simp
    · obtain ⟨m, hm⟩ := tz_form (show 0 < x.v by omega)
      have e1 : x.v / 2 ^ tz x.v = 2 * m + 1 := by
        conv => lhs; arg 1; rw [hm]
        exact Nat.mul_div_cancel_left _ (Nat.pow_pos (by decide))
      rw [e1, show (x.e + tz x.v - z).toNat = tz x.v + (x.e - z).toNat by omega, Nat.pow_add, ← Nat.mul_assoc]
      congr 1
      conv => rhs; rw [hm]
      exact Nat.mul_comm _ _
  unfold Nu.sv
  simp only [hv]
theorem gather_times {f p r : Int} {x : Flt} (hk : x.k = 1) (hv : x.v ≠ 0) {n : Nat} (hn : n ≠ 0) : (gatherP (List.replicate n (rcanon x))).float f p r = roundP f p r x.n (x.v * n) x.e false := by
  have ek : (rcanon x).k = 1 := by rw [rcanon_k]; exact hk
  have ee : x.e ≤ (rcanon x).e := by simp only [rcanon, hk, if_true]; omega
  obtain ⟨z, hz0, hz1⟩ : ∃ z : Int, z ≤ 0 ∧ z ≤ x.e := by
    by_cases h : x.e < 0
    · exact ⟨x.e, by omega, Int.le_refl _⟩
    · exact ⟨0, Int.le_refl _, by omega⟩
  have hG := gather_is (z := z) hz0 (l := List.replicate n (rcanon x)) fun y hy _ => by
    rw [List.eq_of_mem_replicate hy]; omega
  have h1 := hG.nan
  have h2 := hG.plus
  have h3 := hG.minus
  rw [List.any_replicate, if_neg hn, ek] at h1 h2 h3
  unfold Ga.float
  rw [h1, h2, h3, hG.inv]
  simp only [show ((1 : Int) == 3) = false from rfl, show ((1 : Int) == 2) = false from rfl, Bool.false_and, Bool.or_self, Bool.false_eq_true, if_false]
  rw [Nu.round_sv hG.low (b := ⟨x.n, x.v * n, x.e⟩) hz1]
  · rw [Nu.round, if_neg]
    simp only []
    intro h
    rcases Nat.mul_eq_zero.1 h with h | h
    · exact hv h
    · exact hn h
  · rw [hG.sum, svs_rep, fv, if_pos ek, sv_rcanon hk hz1]
    unfold Nu.sv
    simp only []
    have e1 : x.v * n * 2 ^ (x.e - z).toNat = n * (x.v * 2 ^ (x.e - z).toNat) := by
      rw [Nat.mul_comm x.v n, Nat.mul_assoc]
    rw [e1]
    split
    · rw [Int.natCast_mul n, Int.mul_neg]
    · rw [Int.natCast_mul n]
theorem argsE_rep {f p r : Int} {b : Bool} {x : Fla} (hm : x.m.length ≤ 40) {n : Nat} (h : argsE f p r b (List.replicate n x) = 0) : 0 ≤ r ∧ r ≤ 4 ∧ b = false ∧ fmOk f p = true ∧ allHold f p (List.replicate n x) = true := by
  obtain ⟨h1, h2, h3, h4, h5, h6⟩ := argsE_zero h
  exact ⟨h2, h3, h4, h5, h6⟩
theorem argsE_many {f p r : Int} {x : Fla} (hm : x.m.length ≤ 40) {n : Nat} : argsE f p r true (List.replicate n x) = 1 := by
  rw [argsE, if_neg, if_pos (by simp)]
  unfold anyLarge
  rw [List.any_replicate]
  split
  · simp
  · simp; omega
/-- Expand ends, whatever it answers. -/
theorem SExpand_any {f p : Int} {l : List Fla} (hl : l.length < 1099511627776) (ho : ∀ x ∈ l, x.Ok) : ∃ rows e, Does Tryz.prog Gv 27 [Fm f p, Rows l] (.t [.s true rows, .c (.i .i64 e)]) ∧ (argsE f p 0 (decide ((1000 : Int) < l.length)) l ≠ 0 → rows = [] ∧ e = argsE f p 0 (decide ((1000 : Int) < l.length)) l) := by
  by_cases he : argsE f p 0 (decide ((1000 : Int) < l.length)) l = 0
  · obtain ⟨h1, h2, h3, h4, h5, h6⟩ := argsE_zero he
    have h := SExpand_does (f := f) (p := p) (l := l) (by simp at h4; omega) ho he
    cases hE : expandP f p (heldL f p l) with
    | none =>
      rw [hE] at h
      exact ⟨[], 4, h.mono (TLe.t (.cons (PLe.zs true) (.cons (PLe.refl _) .nil))), fun hn => absurd he hn⟩
    | some out =>
      rw [hE] at h
      exact ⟨_, _, h, fun hn => absurd he hn⟩
  · exact ⟨[], _, (Expand_err hl ho he).mono (TLe.t (.cons (PLe.zs true) (.cons (PLe.refl _) .nil))), fun _ => ⟨rfl, rfl⟩⟩
theorem SumMany_does {f p r k : Int} {x : Fla} (hx : Ws x.m) (ex : I64 x.e) (hk : 0 ≤ k ∧ k < 65536) : Does Tryz.prog Gv 7 [Fm f p, .c (.i .i64 r), Fl x.k x.n x.e x.m, .c (.i .u16 k)] (.v (.c (.b true))) := by
  have hS : Does Tryz.prog Gv 10 [.s false [x.cs]] (.v (.c (.b (shortP [x])))) := Short15_does (l := [x]) (by simp)
  obtain ⟨n, hn⟩ : ∃ n : Nat, k % 1003 = n := ⟨(k % 1003).toNat, by omega⟩
  have hn2 : n ≤ 1002 := by omega
  cases hs : shortP [x] with
  | false =>
    rw [hs] at hS
    refine Does.of (nt := 140) Tryz.func7 rfl rfl rfl (by simp) ?_
    simp only [argTm, PV.ext, Ce.ext]
    refine Do.seqk fun _ k1_ => ?_
    refine Do.region [1,3,4,6] true ?_
    simp [go_sem, hn]
    apply k1_; clear k1_
    refine Do.seqk fun _ k2_ => ?_
    refine Do.region [1,4,6,9] true ?_
    simp [go_sem, hn]
    repeat (refine And.intro (by first | omega | (intros; omega) | (intros; exact And.intro (by assumption) (by omega)) | grind) ?_)
    apply k2_; clear k2_
    refine Do.seqk fun _ k3_ => ?_
    refine Do.seqk fun _ k4_ => ?_
    refine Do.region [1,4,6,9,28] true ?_
    simp [go_sem, hn]
    repeat (refine And.intro (by first | omega | (intros; omega) | (intros; exact And.intro (by assumption) (by omega)) | grind) ?_)
    refine DoL.sealS true 202 201 rfl ?_
    simp [go_sem]
    refine DoL.call true 203 rfl rfl rfl rfl (by first | exact trivial | omega | (simp; done) | (simp; omega)) (hS) rfl (by first | exact .inl rfl | exact .inr rfl) rfl ?_
    simp [go_sem, hn]
    repeat (refine And.intro (by first | omega | (intros; omega) | (intros; exact And.intro (by assumption) (by omega)) | grind) ?_)
    apply k4_; clear k4_
    refine Do.cond [1,4,6,9] rfl (fun h => ?_) (fun h => ?_) <;> simp [go_sem, hn] at h ⊢
    refine Do.seqk fun _ k5_ => ?_
    refine Do.region [8] true ?_
    simp [go_sem, hn]
    refine DoL.call true 301 rfl rfl rfl rfl (by first | exact trivial | omega | (simp; done) | (simp; omega)) (awake_does) rfl (by first | exact .inl rfl | exact .inr rfl) rfl ?_
    simp [go_sem, hn]
    apply k5_; clear k5_
    refine Do.ret ?_
    simp [endQ, rets, ret1, go_sem, hn]
    repeat (refine And.intro (by first | omega | (intros; omega) | (intros; exact And.intro (by assumption) (by omega)) | grind) ?_)
    exact TLe.refl _
  | true =>
    rw [hs] at hS
    have hsx : x.m.length ≤ 40 := by simpa [shortP] using hs
    have ox : x.Ok := ⟨by simp [Sh]; omega, hx, ex⟩
    have ho : ∀ u ∈ List.replicate n x, u.Ok := fun u hu => by rw [List.eq_of_mem_replicate hu]; exact ox
    have hT := Total_does (f := f) (p := p) (r := r) (l := List.replicate n x) (by simp; omega) ho
    obtain ⟨rows, ee, hX, hXe⟩ := SExpand_any (f := f) (p := p) (l := List.replicate n x) (by simp; omega) ho
    have hA := @KArgs_does Gv f p r (List.replicate n x) (by simp; omega) ho
    have hRows : Rows (List.replicate n x) = .s false (List.replicate n x.cs) := by simp [Rows]
    have hfx := @totalP_fix f p r (List.replicate n x)
    have hfn := @totalP_fine f p r (List.replicate n x)
    have hLg := @NLarge_does Gv x.m (by simp [Sh]; omega)
    rw [show decide ((4096 : Int) < (x.m.length : Int)) = false by simp; omega] at hLg
    rw [hRows] at hT hX hA
    generalize hz : totalP f p r (List.replicate n x) = z at *
    rw [totalP, List.length_replicate] at hz
    rw [List.length_replicate] at hXe
    by_cases h1000 : 1000 < n
    · have hb : decide ((1000 : Int) < n) = true := by simp; omega
      rw [hb, argsE_many hsx] at hz hXe
      obtain ⟨rfl, rfl⟩ := hXe (by decide)
      rw [if_neg (by decide)] at hz
      have hT : Does Tryz.prog Gv 20 [Fm f p, .c (.i .i64 r), .s false (List.replicate n x.cs)] (.t [Fl 0 false 0 (nat 0), .c (.i .i64 0), .c (.i .i64 1)]) := by rw [← hz] at hT; exact hT
      rw [nat_zero] at hT
      have hF := @Fits_none 0 0 false [] 0 1 ⟨rfl, rfl, rfl, rfl⟩ (by decide) 1
      have d1 : (1000 : Int) < n := by omega
      generalize argsE f p r false (List.replicate n x) = ae at *
      refine Does.of (nt := 140) Tryz.func7 rfl rfl rfl (by simp) ?_
      simp only [argTm, PV.ext, Ce.ext]
      refine Do.seqk fun _ k1_ => ?_
      refine Do.region [1,3,4,6] true ?_
      simp [go_sem, hn]
      apply k1_; clear k1_
      refine Do.seqk fun _ k2_ => ?_
      refine Do.region [1,4,6,9] true ?_
      simp [go_sem, hn]
      repeat (refine And.intro (by first | omega | (intros; omega) | (intros; exact And.intro (by assumption) (by omega)) | grind) ?_)
      apply k2_; clear k2_
      refine Do.seqk fun _ k3_ => ?_
      refine Do.seqk fun _ k4_ => ?_
      refine Do.region [1,4,6,9,28] true ?_
      simp [go_sem, hn]
      repeat (refine And.intro (by first | omega | (intros; omega) | (intros; exact And.intro (by assumption) (by omega)) | grind) ?_)
      refine DoL.sealS true 202 201 rfl ?_
      simp [go_sem]
      refine DoL.call true 203 rfl rfl rfl rfl (by first | exact trivial | omega | (simp; done) | (simp; omega)) (hS) rfl (by first | exact .inl rfl | exact .inr rfl) rfl ?_
      simp [go_sem, hn]
      repeat (refine And.intro (by first | omega | (intros; omega) | (intros; exact And.intro (by assumption) (by omega)) | grind) ?_)
      apply k4_; clear k4_
      refine Do.cond [1,4,6,9] rfl (fun h => ?_) (fun h => ?_) <;> simp [go_sem, hn] at h ⊢
      refine Do.skip ?_
      simp [go_sem]
      apply k3_; clear k3_
      refine Do.seqk fun _ k5_ => ?_
      refine Do.region [1,4,6,9,10] true ?_
      simp [go_sem, hn]
      repeat (refine And.intro (by first | omega | (intros; omega) | (intros; exact And.intro (by assumption) (by omega)) | grind) ?_)
      apply k5_; clear k5_
      refine Do.seqk fun _ k6_ => ?_
      refine Do.seqk fun _ k7_ => ?_
      refine Do.region [1,4,6,9,10,11] true ?_
      simp [go_sem, hn]
      apply k7_; clear k7_
      refine Do.block ?_
      refine Do.loopF [1,4,6,9,10,11] (fun (i : Nat) => [(11, .int .i64 i)]) (fun (i : Nat) => [(401, .sr 4 (List.replicate i x.cs ++ List.replicate (n - i) [.i .i64 0, .b false, .i .i64 0, .z]))]) (fun (i : Nat) => i ≤ n) (fun (i : Nat) => n - i) (0) (fun _ => by first | (simp [go_sem, mixS]; done) | (simp [go_sem, mixS]; rfl)) (St.le_of (by first | rfl | simp [keep]) (by first | rfl | simp [keep])) (Nat.zero_le _) ?_
      intro i hi
      refine Do.seqk fun _ k8_ => ?_
      refine Do.seqk fun _ k9_ => ?_
      refine Do.region [1,4,6,9,10,11,34] true ?_
      simp [go_sem, hn]
      apply k9_; clear k9_
      refine Do.cond [1,4,6,9,10,11] rfl (fun h2 => ?_) (fun h2 => ?_) <;> simp [go_sem, hn] at h2 ⊢
      · obtain ⟨d, hd⟩ : ∃ d, n - i = d + 1 := ⟨n - i - 1, by omega⟩
        have hd2 : n - (i + 1) = d := by omega
        refine Do.skip ?_
        simp [go_sem]
        apply k8_; clear k8_
        refine Do.seqk fun _ k10_ => ?_
        refine Do.block ?_
        refine Do.region [1,4,6,9,10,11] true ?_
        simp [go_sem, hn, hd, List.replicate_succ]
        repeat (refine And.intro (by first | omega | (intros; omega) | (intros; exact And.intro (by assumption) (by omega)) | grind) ?_)
        apply k10_; clear k10_
        refine Do.region [1,4,6,9,10,11] true ?_
        simp [go_sem, hn, hd, List.replicate_succ]
        repeat (refine And.intro (by first | omega | (intros; omega) | (intros; exact And.intro (by assumption) (by omega)) | grind) ?_)
        refine ⟨i + 1, St.le_of rfl (by simp [keep, hd2, List.replicate_succ']), by omega, by simp; omega⟩
      · obtain rfl : i = n := by omega
        simp only [Nat.sub_self, List.replicate_zero, List.append_nil]
        refine Do.exit ?_
        simp [go_sem]
        apply k6_; clear k6_
        refine Do.seqk fun _ k11_ => ?_
        refine Do.region [1,4,6,9,10,12,13,14] true ?_
        simp [go_sem, hn, d1]
        repeat (refine And.intro (by first | omega | (intros; omega) | (intros; exact And.intro (by assumption) (by omega)) | grind) ?_)
        refine DoL.sealS true 903 401 rfl ?_
        simp [go_sem]
        refine DoL.call true 904 rfl rfl rfl rfl (by first | exact trivial | omega | (simp; done) | (simp; omega)) (hT) rfl (by first | exact .inl rfl | exact .inr rfl) rfl ?_
        simp [go_sem, hn, d1]
        repeat (refine And.intro (by first | omega | (intros; omega) | (intros; exact And.intro (by assumption) (by omega)) | grind) ?_)
        apply k11_; clear k11_
        refine Do.seqk fun _ k12_ => ?_
        refine Do.region [1,4,6,9,10,12,13,14,15,16] true ?_
        simp [go_sem, hn, d1]
        repeat (refine And.intro (by first | omega | (intros; omega) | (intros; exact And.intro (by assumption) (by omega)) | grind) ?_)
        refine DoL.call true 1003 rfl rfl rfl rfl (by first | exact trivial | omega | (simp; done) | (simp; omega)) (hX) rfl (by first | exact .inl rfl | exact .inr rfl) rfl ?_
        simp [go_sem, hn, d1]
        apply k12_; clear k12_
        refine Do.seqk fun _ k13_ => ?_
        refine Do.region [1,4,6,9,10,12,13,14,15,16,17] true ?_
        simp [go_sem, hn, d1]
        repeat (refine And.intro (by first | omega | (intros; omega) | (intros; exact And.intro (by assumption) (by omega)) | grind) ?_)
        refine DoL.call true 1104 rfl rfl rfl rfl (by first | exact trivial | omega | (simp; done) | (simp; omega)) (hA) rfl (by first | exact .inl rfl | exact .inr rfl) rfl ?_
        simp [go_sem, hn, d1]
        apply k13_; clear k13_
        refine Do.seqk fun _ k14_ => ?_
        refine Do.seqk fun _ k15_ => ?_
        refine Do.region [1,4,6,9,10,12,13,14,15,16,17,60] true ?_
        simp [go_sem, hn, d1]
        apply k15_; clear k15_
        refine Do.cond [1,4,6,9,10,12,13,14,15,16,17] rfl (fun h3 => ?_) (fun h3 => ?_) <;> simp [go_sem, hn, d1] at h3 ⊢
        refine Do.seqk fun _ k16_ => ?_
        refine Do.region [1,4,6,9,10,12,13,14,15,16,17] true ?_
        simp [go_sem, hn, d1]
        apply k16_; clear k16_
        refine Do.seqk fun _ k17_ => ?_
        refine Do.seqk fun _ k18_ => ?_
        refine Do.region [1,4,6,9,10,12,13,14,15,16,17,63] true ?_
        simp [go_sem, hn, d1]
        repeat (refine And.intro (by first | omega | (intros; omega) | (intros; exact And.intro (by assumption) (by omega)) | grind) ?_)
        refine DoL.call true 1403 rfl rfl rfl rfl (by first | exact trivial | omega | (simp; done) | (simp; omega)) (hLg) rfl (by first | exact .inl rfl | exact .inr rfl) rfl ?_
        simp [go_sem, hn, d1]
        apply k18_; clear k18_
        refine Do.cond [1,4,6,9,10,12,13,14,15,16,17] rfl (fun h4 => ?_) (fun h4 => ?_) <;> simp [go_sem, hn, d1] at h4 ⊢
        refine Do.skip ?_
        simp [go_sem]
        apply k17_; clear k17_
        refine Do.seqk fun _ k19_ => ?_
        refine Do.region [1,4,6,9,10,12,13,14,17,71] true ?_
        simp [go_sem, hn, d1]
        repeat (refine And.intro (by first | omega | (intros; omega) | (intros; exact And.intro (by assumption) (by omega)) | grind) ?_)
        apply k19_; clear k19_
        refine Do.cond [1,4,6,9,10,12,13,14,17] rfl (fun h5 => ?_) (fun h5 => ?_) <;> simp [go_sem, hn, d1] at h5 ⊢
        refine Do.skip ?_
        simp [go_sem]
        apply k14_; clear k14_
        refine Do.seqk fun _ k20_ => ?_
        refine Do.seqk fun _ k21_ => ?_
        refine Do.region [1,4,6,9,10,12,13,14,17,73] true ?_
        simp [go_sem, hn, d1]
        apply k21_; clear k21_
        refine Do.cond [1,4,6,9,10,12,13,14,17] rfl (fun h6 => ?_) (fun h6 => ?_) <;> simp [go_sem, hn, d1] at h6 ⊢
        refine Do.seqk fun _ k22_ => ?_
        refine Do.region [8] true ?_
        simp [go_sem, hn, d1]
        repeat (refine And.intro (by first | omega | (intros; omega) | (intros; exact And.intro (by assumption) (by omega)) | grind) ?_)
        refine DoL.call true 1906 rfl rfl rfl rfl (by first | exact trivial | omega | (simp; done) | (simp; omega)) (hF) rfl (by first | exact .inl rfl | exact .inr rfl) rfl ?_
        simp [go_sem, hn, d1]
        refine DoL.callg true 1908 rfl rfl rfl rfl rfl (by simp [go_sem] <;> omega) (fun _ => awake_does) rfl (by first | exact .inl rfl | exact .inr rfl) rfl ?_
        simp [go_sem, hn, d1]
        apply k22_; clear k22_
        refine Do.ret ?_
        simp [endQ, rets, ret1, go_sem, hn, d1]
        repeat (refine And.intro (by first | omega | (intros; omega) | (intros; exact And.intro (by assumption) (by omega)) | grind) ?_)
        exact TLe.refl _
    · have hb : decide ((1000 : Int) < n) = false := by simp; omega
      rw [hb] at hz
      have d1 : ¬ (1000 : Int) < n := by omega
      by_cases he : argsE f p r false (List.replicate n x) = 0
      · rw [if_pos he] at hz
        obtain ⟨h2, h3, _, h5, h6⟩ := argsE_rep hsx he
        have hrt := held_rt h6 ho (fun u hu => by rw [List.eq_of_mem_replicate hu]; omega)
        rw [← held_map h6, List.map_replicate] at hz
        rw [he] at hA
        have ez : z = (z.1, z.2.1, 0) := by rw [← hz]
        have hT : Does Tryz.prog Gv 20 [Fm f p, .c (.i .i64 r), .s false (List.replicate n x.cs)] (.t [z.1.pv, .c (.i .i64 z.2.1), .c (.i .i64 0)]) := by rw [ez] at hT; exact hT
        have hF := @Fits_same Gv z.1 z.2.1 hfn hfx
        by_cases hc : n = 0 ∨ x.k ≠ 1
        · have hR := @RTotal_right Gv f p r h5 h2 h3 (List.replicate (min n 2) x) (by simp; omega) (fun u hu => hrt u (by
            have h0 : n ≠ 0 := by intro h; subst h; simp at hu
            rw [List.eq_of_mem_replicate hu, List.mem_replicate]; exact ⟨h0, rfl⟩))
          rw [List.map_replicate, ← gather_many (by rw [rcanon_k]; exact hc)] at hR
          have hR : Does Tryz.prog Gv 16 [Fm f p, .c (.i .i64 r), .s false (List.replicate (min n 2) x.cs)] (.t [z.1.pw, .c (.i .i64 z.2.1)]) := by
            rw [← hz]; simpa [Rows] using hR
          have hTh : Does Tryz.prog Gv 21 [.s false (List.replicate (min n 2) x.cs)] (.v (.s true (List.replicate (min n 2) x.cs))) := by
            have := @Theirs_does Gv (List.replicate (min n 2) x) (by simp; omega)
            simpa [Rows] using this
          refine Does.of (nt := 140) Tryz.func7 rfl rfl rfl (by simp) ?_
          simp only [argTm, PV.ext, Ce.ext]
          refine Do.seqk fun _ k1_ => ?_
          refine Do.region [1,3,4,6] true ?_
          simp [go_sem, hn]
          apply k1_; clear k1_
          refine Do.seqk fun _ k2_ => ?_
          refine Do.region [1,4,6,9] true ?_
          simp [go_sem, hn]
          repeat (refine And.intro (by first | omega | (intros; omega) | (intros; exact And.intro (by assumption) (by omega)) | grind) ?_)
          apply k2_; clear k2_
          refine Do.seqk fun _ k3_ => ?_
          refine Do.seqk fun _ k4_ => ?_
          refine Do.region [1,4,6,9,28] true ?_
          simp [go_sem, hn]
          repeat (refine And.intro (by first | omega | (intros; omega) | (intros; exact And.intro (by assumption) (by omega)) | grind) ?_)
          refine DoL.sealS true 202 201 rfl ?_
          simp [go_sem]
          refine DoL.call true 203 rfl rfl rfl rfl (by first | exact trivial | omega | (simp; done) | (simp; omega)) (hS) rfl (by first | exact .inl rfl | exact .inr rfl) rfl ?_
          simp [go_sem, hn]
          repeat (refine And.intro (by first | omega | (intros; omega) | (intros; exact And.intro (by assumption) (by omega)) | grind) ?_)
          apply k4_; clear k4_
          refine Do.cond [1,4,6,9] rfl (fun h => ?_) (fun h => ?_) <;> simp [go_sem, hn] at h ⊢
          refine Do.skip ?_
          simp [go_sem]
          apply k3_; clear k3_
          refine Do.seqk fun _ k5_ => ?_
          refine Do.region [1,4,6,9,10] true ?_
          simp [go_sem, hn]
          repeat (refine And.intro (by first | omega | (intros; omega) | (intros; exact And.intro (by assumption) (by omega)) | grind) ?_)
          apply k5_; clear k5_
          refine Do.seqk fun _ k6_ => ?_
          refine Do.seqk fun _ k7_ => ?_
          refine Do.region [1,4,6,9,10,11] true ?_
          simp [go_sem, hn]
          apply k7_; clear k7_
          refine Do.block ?_
          refine Do.loopF [1,4,6,9,10,11] (fun (i : Nat) => [(11, .int .i64 i)]) (fun (i : Nat) => [(401, .sr 4 (List.replicate i x.cs ++ List.replicate (n - i) [.i .i64 0, .b false, .i .i64 0, .z]))]) (fun (i : Nat) => i ≤ n) (fun (i : Nat) => n - i) (0) (fun _ => by first | (simp [go_sem, mixS]; done) | (simp [go_sem, mixS]; rfl)) (St.le_of (by first | rfl | simp [keep]) (by first | rfl | simp [keep])) (Nat.zero_le _) ?_
          intro i hi
          refine Do.seqk fun _ k8_ => ?_
          refine Do.seqk fun _ k9_ => ?_
          refine Do.region [1,4,6,9,10,11,34] true ?_
          simp [go_sem, hn]
          apply k9_; clear k9_
          refine Do.cond [1,4,6,9,10,11] rfl (fun h2 => ?_) (fun h2 => ?_) <;> simp [go_sem, hn] at h2 ⊢
          · obtain ⟨d, hd⟩ : ∃ d, n - i = d + 1 := ⟨n - i - 1, by omega⟩
            have hd2 : n - (i + 1) = d := by omega
            refine Do.skip ?_
            simp [go_sem]
            apply k8_; clear k8_
            refine Do.seqk fun _ k10_ => ?_
            refine Do.block ?_
            refine Do.region [1,4,6,9,10,11] true ?_
            simp [go_sem, hn, hd, List.replicate_succ]
            repeat (refine And.intro (by first | omega | (intros; omega) | (intros; exact And.intro (by assumption) (by omega)) | grind) ?_)
            apply k10_; clear k10_
            refine Do.region [1,4,6,9,10,11] true ?_
            simp [go_sem, hn, hd, List.replicate_succ]
            repeat (refine And.intro (by first | omega | (intros; omega) | (intros; exact And.intro (by assumption) (by omega)) | grind) ?_)
            refine ⟨i + 1, St.le_of rfl (by simp [keep, hd2, List.replicate_succ']), by omega, by simp; omega⟩
          · obtain rfl : i = n := by omega
            simp only [Nat.sub_self, List.replicate_zero, List.append_nil]
            refine Do.exit ?_
            simp [go_sem]
            apply k6_; clear k6_
            refine Do.seqk fun _ k11_ => ?_
            refine Do.region [1,4,6,9,10,12,13,14] true ?_
            simp [go_sem, hn, d1]
            repeat (refine And.intro (by first | omega | (intros; omega) | (intros; exact And.intro (by assumption) (by omega)) | grind) ?_)
            refine DoL.sealS true 903 401 rfl ?_
            simp [go_sem]
            refine DoL.call true 904 rfl rfl rfl rfl (by first | exact trivial | omega | (simp; done) | (simp; omega)) (hT) rfl (by first | exact .inl rfl | exact .inr rfl) rfl ?_
            simp [go_sem, hn, d1]
            repeat (refine And.intro (by first | omega | (intros; omega) | (intros; exact And.intro (by assumption) (by omega)) | grind) ?_)
            apply k11_; clear k11_
            refine Do.seqk fun _ k12_ => ?_
            refine Do.region [1,4,6,9,10,12,13,14,15,16] true ?_
            simp [go_sem, hn, d1]
            repeat (refine And.intro (by first | omega | (intros; omega) | (intros; exact And.intro (by assumption) (by omega)) | grind) ?_)
            refine DoL.call true 1003 rfl rfl rfl rfl (by first | exact trivial | omega | (simp; done) | (simp; omega)) (hX) rfl (by first | exact .inl rfl | exact .inr rfl) rfl ?_
            simp [go_sem, hn, d1]
            apply k12_; clear k12_
            refine Do.seqk fun _ k13_ => ?_
            refine Do.region [1,4,6,9,10,12,13,14,15,16,17] true ?_
            simp [go_sem, hn, d1]
            repeat (refine And.intro (by first | omega | (intros; omega) | (intros; exact And.intro (by assumption) (by omega)) | grind) ?_)
            refine DoL.call true 1104 rfl rfl rfl rfl (by first | exact trivial | omega | (simp; done) | (simp; omega)) (hA) rfl (by first | exact .inl rfl | exact .inr rfl) rfl ?_
            simp [go_sem, hn, d1]
            apply k13_; clear k13_
            refine Do.seqk fun _ k14_ => ?_
            refine Do.seqk fun _ k15_ => ?_
            refine Do.region [1,4,6,9,10,12,13,14,15,16,17,60] true ?_
            simp [go_sem, hn, d1]
            apply k15_; clear k15_
            refine Do.cond [1,4,6,9,10,12,13,14,15,16,17] rfl (fun h3 => ?_) (fun h3 => ?_) <;> simp [go_sem, hn, d1] at h3 ⊢
            refine Do.skip ?_
            simp [go_sem]
            apply k14_; clear k14_
            refine Do.seqk fun _ k16_ => ?_
            refine Do.seqk fun _ k17_ => ?_
            refine Do.region [1,4,6,9,10,12,13,14,17,73] true ?_
            simp [go_sem, hn, d1]
            apply k17_; clear k17_
            refine Do.cond [1,4,6,9,10,12,13,14,17] rfl (fun h4 => ?_) (fun h4 => ?_) <;> simp [go_sem, hn, d1] at h4 ⊢
            refine Do.skip ?_
            simp [go_sem]
            apply k16_; clear k16_
            refine Do.seqk fun _ k18_ => ?_
            refine Do.seqk fun _ k19_ => ?_
            refine Do.region [1,4,6,9,10,12,13,14,89] true ?_
            simp [go_sem, hn, d1]
            repeat (refine And.intro (by first | omega | (intros; omega) | (intros; exact And.intro (by assumption) (by omega)) | grind) ?_)
            apply k19_; clear k19_
            refine Do.cond [1,4,6,9,10,12,13,14] rfl (fun h5 => ?_) (fun h5 => ?_) <;> simp [go_sem, hn, d1] at h5 ⊢
            · have hmn : min (if (2 : Int) < i then 2 else (i : Int)).toNat i = min i 2 := by split <;> omega
              refine Do.seqk fun _ k20_ => ?_
              refine Do.draw [12,13,14,18,19] true (by kernel_rfl) ?_
              simp [go_sem, hn, d1, hmn]
              repeat (refine And.intro (by first | omega | (intros; omega) | (intros; exact And.intro (by assumption) (by omega)) | kernel_rfl | grind) ?_)
              refine DoLD.call true 2102 rfl rfl rfl rfl (by first | exact trivial | omega | (simp; done) | (simp; omega)) (Fmt_does) rfl (by first | exact .inl rfl | exact .inr rfl) rfl ?_
              simp [go_sem, hn, d1, hmn]
              repeat (refine And.intro (by first | omega | (intros; omega) | (intros; exact And.intro (by assumption) (by omega)) | kernel_rfl | grind) ?_)
              refine DoLD.call true 2110 rfl rfl rfl rfl (by first | exact trivial | omega | (simp; done) | (simp; omega)) (hTh) rfl (by first | exact .inl rfl | exact .inr rfl) rfl ?_
              simp [go_sem, hn, d1, hmn]
              refine DoLD.call true 2111 rfl rfl rfl rfl (by first | exact trivial | omega | (simp; done) | (simp; omega)) (hR) rfl (by first | exact .inl rfl | exact .inr rfl) rfl ?_
              simp [go_sem, hn, d1, hmn]
              repeat (refine And.intro (by first | omega | (intros; omega) | (intros; exact And.intro (by assumption) (by omega)) | kernel_rfl | grind) ?_)
              try (refine And.intro (by kernel_rfl) ?_)
              apply k20_; clear k20_
              refine Do.seqk fun _ k21_ => ?_
              refine Do.region [8] true ?_
              simp [go_sem, hn, d1, hmn]
              repeat (refine And.intro (by first | omega | (intros; omega) | (intros; exact And.intro (by assumption) (by omega)) | grind) ?_)
              refine DoL.call true 2206 rfl rfl rfl rfl (by first | exact trivial | omega | (simp; done) | (simp; omega)) (hF) rfl (by first | exact .inl rfl | exact .inr rfl) rfl ?_
              simp [go_sem, hn, d1, hmn]
              refine DoL.callg true 2208 rfl rfl rfl rfl rfl (by simp [go_sem] <;> omega) (fun _ => awake_does) rfl (by first | exact .inl rfl | exact .inr rfl) rfl ?_
              simp [go_sem, hn, d1, hmn]
              apply k21_; clear k21_
              refine Do.ret ?_
              simp [endQ, rets, ret1, go_sem, hn, d1, hmn]
              repeat (refine And.intro (by first | omega | (intros; omega) | (intros; exact And.intro (by assumption) (by omega)) | grind) ?_)
              exact TLe.refl _
            · omega
        · have hk1 : x.k = 1 := by omega
          have hn0 : n ≠ 0 := by omega
          have hval : val x.m ≠ 0 := (canon_one (hrt x (by rw [List.mem_replicate]; exact ⟨hn0, rfl⟩)).can hk1).2.2
          have hce := canon_one (hrt x (by rw [List.mem_replicate]; exact ⟨hn0, rfl⟩)).can hk1
          have hgt := @gather_times f p r x.flt hk1 hval n hn0
          rw [hgt] at hz
          have hMk := @IMake11_does Gv x.n x.m (by omega) hx
          have hFr := @IFrom_does Gv n (by omega)
          have hlx : (nat (sgn x.n (val x.m)).natAbs).length ≤ 40 := by rw [sgn_abs]; exact Nat.le_trans (nat_len_le hx (Nat.le_refl _)) hsx
          have hbn : bl n ≤ 10 := (bl_lt _ _).2 (by omega)
          have hMu := @IMul_does Gv (decide (sgn x.n (val x.m) < 0)) (decide ((n : Int) < 0)) (nat (sgn x.n (val x.m)).natAbs) (nat (n : Int).natAbs) (by omega) (nat_ws _) (by have := nat_len_bl (n : Int).natAbs; rw [Int.natAbs_natCast] at *; omega) (nat_ws _)
          rw [val_nat, val_nat, sgn_of, sgn_of] at hMu
          have hu1 : decide (sgn x.n (val x.m) * n < 0) = x.n := by
            have hpos : 0 < val x.m * n := Nat.mul_pos (by omega) (by omega)
            unfold sgn
            cases x.n
            · simp only [Bool.false_eq_true, if_false]; rw [← Int.natCast_mul]; exact decide_eq_false (by omega)
            · simp only [if_true]; rw [Int.neg_mul, ← Int.natCast_mul]; exact decide_eq_true (by omega)
          have hu2 : (sgn x.n (val x.m) * n).natAbs = val x.m * n := by rw [Int.natAbs_mul, sgn_abs, Int.natAbs_natCast]
          have hbv : bl (val x.m * n) ≤ 3000 := by
            have h1 := bl_le_ws hx
            obtain ⟨K, hK⟩ : ∃ K, K = 2560 := ⟨_, rfl⟩
            have h2 : val x.m < 2 ^ K := (bl_lt _ _).1 (by omega)
            have h3 : n < 2 ^ 10 := (bl_lt _ _).1 hbn
            have h4 : val x.m * n < 2 ^ K * 2 ^ 10 := Nat.mul_lt_mul'' h2 h3
            rw [← Nat.pow_add] at h4
            have := (bl_lt (val x.m * n) (K + 10)).2 h4
            omega
          have hSc := @Scaled_does Gv (decide (sgn x.n (val x.m) * n < 0)) (nat (sgn x.n (val x.m) * n).natAbs) x.e (by rw [hu2]; have := len_bl hbv; omega) (nat_ws _)
          rw [val_nat, sgn_of] at hSc
          have hRd := @Round_new Gv f p r h5 h2 h3 (decide (sgn x.n (val x.m) * n < 0)) (sgn x.n (val x.m) * n).natAbs x.e (by rw [hu2]; exact Nat.mul_pos (by omega) (by omega)) (by rw [hu2]; omega) (by have : x.flt.e = x.e := rfl; omega)
          have hRd : Does Tryz.prog Gv 30 [Fm f p, .c (.i .i64 r), Rl (decide (sgn x.n (val x.m) * n < 0)) (sgn x.n (val x.m) * n).natAbs x.e] (.t [z.1.pw, .c (.i .i64 z.2.1)]) := by
            rw [← hz, show (roundP f p r x.flt.n (x.flt.v * n) x.flt.e false) = roundP f p r (decide (sgn x.n (val x.m) * n < 0)) (sgn x.n (val x.m) * n).natAbs x.e false by rw [hu1, hu2]; rfl]; exact hRd
          refine Does.of (nt := 140) Tryz.func7 rfl rfl rfl (by simp) ?_
          simp only [argTm, PV.ext, Ce.ext]
          refine Do.seqk fun _ k1_ => ?_
          refine Do.region [1,3,4,6] true ?_
          simp [go_sem, hn]
          apply k1_; clear k1_
          refine Do.seqk fun _ k2_ => ?_
          refine Do.region [1,4,6,9] true ?_
          simp [go_sem, hn]
          repeat (refine And.intro (by first | omega | (intros; omega) | (intros; exact And.intro (by assumption) (by omega)) | grind) ?_)
          apply k2_; clear k2_
          refine Do.seqk fun _ k3_ => ?_
          refine Do.seqk fun _ k4_ => ?_
          refine Do.region [1,4,6,9,28] true ?_
          simp [go_sem, hn]
          repeat (refine And.intro (by first | omega | (intros; omega) | (intros; exact And.intro (by assumption) (by omega)) | grind) ?_)
          refine DoL.sealS true 202 201 rfl ?_
          simp [go_sem]
          refine DoL.call true 203 rfl rfl rfl rfl (by first | exact trivial | omega | (simp; done) | (simp; omega)) (hS) rfl (by first | exact .inl rfl | exact .inr rfl) rfl ?_
          simp [go_sem, hn]
          repeat (refine And.intro (by first | omega | (intros; omega) | (intros; exact And.intro (by assumption) (by omega)) | grind) ?_)
          apply k4_; clear k4_
          refine Do.cond [1,4,6,9] rfl (fun h => ?_) (fun h => ?_) <;> simp [go_sem, hn] at h ⊢
          refine Do.skip ?_
          simp [go_sem]
          apply k3_; clear k3_
          refine Do.seqk fun _ k5_ => ?_
          refine Do.region [1,4,6,9,10] true ?_
          simp [go_sem, hn]
          repeat (refine And.intro (by first | omega | (intros; omega) | (intros; exact And.intro (by assumption) (by omega)) | grind) ?_)
          apply k5_; clear k5_
          refine Do.seqk fun _ k6_ => ?_
          refine Do.seqk fun _ k7_ => ?_
          refine Do.region [1,4,6,9,10,11] true ?_
          simp [go_sem, hn]
          apply k7_; clear k7_
          refine Do.block ?_
          refine Do.loopF [1,4,6,9,10,11] (fun (i : Nat) => [(11, .int .i64 i)]) (fun (i : Nat) => [(401, .sr 4 (List.replicate i x.cs ++ List.replicate (n - i) [.i .i64 0, .b false, .i .i64 0, .z]))]) (fun (i : Nat) => i ≤ n) (fun (i : Nat) => n - i) (0) (fun _ => by first | (simp [go_sem, mixS]; done) | (simp [go_sem, mixS]; rfl)) (St.le_of (by first | rfl | simp [keep]) (by first | rfl | simp [keep])) (Nat.zero_le _) ?_
          intro i hi
          refine Do.seqk fun _ k8_ => ?_
          refine Do.seqk fun _ k9_ => ?_
          refine Do.region [1,4,6,9,10,11,34] true ?_
          simp [go_sem, hn]
          apply k9_; clear k9_
          refine Do.cond [1,4,6,9,10,11] rfl (fun h2 => ?_) (fun h2 => ?_) <;> simp [go_sem, hn] at h2 ⊢
          · obtain ⟨d, hd⟩ : ∃ d, n - i = d + 1 := ⟨n - i - 1, by omega⟩
            have hd2 : n - (i + 1) = d := by omega
            refine Do.skip ?_
            simp [go_sem]
            apply k8_; clear k8_
            refine Do.seqk fun _ k10_ => ?_
            refine Do.block ?_
            refine Do.region [1,4,6,9,10,11] true ?_
            simp [go_sem, hn, hd, List.replicate_succ]
            repeat (refine And.intro (by first | omega | (intros; omega) | (intros; exact And.intro (by assumption) (by omega)) | grind) ?_)
            apply k10_; clear k10_
            refine Do.region [1,4,6,9,10,11] true ?_
            simp [go_sem, hn, hd, List.replicate_succ]
            repeat (refine And.intro (by first | omega | (intros; omega) | (intros; exact And.intro (by assumption) (by omega)) | grind) ?_)
            refine ⟨i + 1, St.le_of rfl (by simp [keep, hd2, List.replicate_succ']), by omega, by simp; omega⟩
          · obtain rfl : i = n := by omega
            simp only [Nat.sub_self, List.replicate_zero, List.append_nil]
            refine Do.exit ?_
            simp [go_sem]
            apply k6_; clear k6_
            refine Do.seqk fun _ k11_ => ?_
            refine Do.region [1,4,6,9,10,12,13,14] true ?_
            simp [go_sem, hn, d1]
            repeat (refine And.intro (by first | omega | (intros; omega) | (intros; exact And.intro (by assumption) (by omega)) | grind) ?_)
            refine DoL.sealS true 903 401 rfl ?_
            simp [go_sem]
            refine DoL.call true 904 rfl rfl rfl rfl (by first | exact trivial | omega | (simp; done) | (simp; omega)) (hT) rfl (by first | exact .inl rfl | exact .inr rfl) rfl ?_
            simp [go_sem, hn, d1]
            repeat (refine And.intro (by first | omega | (intros; omega) | (intros; exact And.intro (by assumption) (by omega)) | grind) ?_)
            apply k11_; clear k11_
            refine Do.seqk fun _ k12_ => ?_
            refine Do.region [1,4,6,9,10,12,13,14,15,16] true ?_
            simp [go_sem, hn, d1]
            repeat (refine And.intro (by first | omega | (intros; omega) | (intros; exact And.intro (by assumption) (by omega)) | grind) ?_)
            refine DoL.call true 1003 rfl rfl rfl rfl (by first | exact trivial | omega | (simp; done) | (simp; omega)) (hX) rfl (by first | exact .inl rfl | exact .inr rfl) rfl ?_
            simp [go_sem, hn, d1]
            apply k12_; clear k12_
            refine Do.seqk fun _ k13_ => ?_
            refine Do.region [1,4,6,9,10,12,13,14,15,16,17] true ?_
            simp [go_sem, hn, d1]
            repeat (refine And.intro (by first | omega | (intros; omega) | (intros; exact And.intro (by assumption) (by omega)) | grind) ?_)
            refine DoL.call true 1104 rfl rfl rfl rfl (by first | exact trivial | omega | (simp; done) | (simp; omega)) (hA) rfl (by first | exact .inl rfl | exact .inr rfl) rfl ?_
            simp [go_sem, hn, d1]
            apply k13_; clear k13_
            refine Do.seqk fun _ k14_ => ?_
            refine Do.seqk fun _ k15_ => ?_
            refine Do.region [1,4,6,9,10,12,13,14,15,16,17,60] true ?_
            simp [go_sem, hn, d1]
            apply k15_; clear k15_
            refine Do.cond [1,4,6,9,10,12,13,14,15,16,17] rfl (fun h3 => ?_) (fun h3 => ?_) <;> simp [go_sem, hn, d1] at h3 ⊢
            refine Do.skip ?_
            simp [go_sem]
            apply k14_; clear k14_
            refine Do.seqk fun _ k16_ => ?_
            refine Do.seqk fun _ k17_ => ?_
            refine Do.region [1,4,6,9,10,12,13,14,17,73] true ?_
            simp [go_sem, hn, d1]
            apply k17_; clear k17_
            refine Do.cond [1,4,6,9,10,12,13,14,17] rfl (fun h4 => ?_) (fun h4 => ?_) <;> simp [go_sem, hn, d1] at h4 ⊢
            refine Do.skip ?_
            simp [go_sem]
            apply k16_; clear k16_
            refine Do.seqk fun _ k18_ => ?_
            refine Do.seqk fun _ k19_ => ?_
            refine Do.region [1,4,6,9,10,12,13,14,89] true ?_
            simp [go_sem, hn, d1]
            repeat (refine And.intro (by first | omega | (intros; omega) | (intros; exact And.intro (by assumption) (by omega)) | grind) ?_)
            apply k19_; clear k19_
            refine Do.cond [1,4,6,9,10,12,13,14] rfl (fun h5 => ?_) (fun h5 => ?_) <;> simp [go_sem, hn, d1] at h5 ⊢
            · omega
            · refine Do.skip ?_
              simp [go_sem]
              apply k18_; clear k18_
              refine Do.seqk fun _ k20_ => ?_
              refine Do.draw [12,13,14,20,21] true (by kernel_rfl) ?_
              simp [go_sem, hn, d1]
              repeat (refine And.intro (by first | omega | (intros; omega) | (intros; exact And.intro (by assumption) (by omega)) | kernel_rfl | grind) ?_)
              refine DoLD.call true 2302 rfl rfl rfl rfl (by first | exact trivial | omega | (simp; done) | (simp; omega)) (Fmt_does) rfl (by first | exact .inl rfl | exact .inr rfl) rfl ?_
              simp [go_sem, hn, d1]
              repeat (refine And.intro (by first | omega | (intros; omega) | (intros; exact And.intro (by assumption) (by omega)) | kernel_rfl | grind) ?_)
              refine DoLD.call true 2308 rfl rfl rfl rfl (by first | exact trivial | omega | (simp; done) | (simp; omega)) (hMk) rfl (by first | exact .inl rfl | exact .inr rfl) rfl ?_
              simp [go_sem, hn, d1]
              refine DoLD.call true 2310 rfl rfl rfl rfl (by first | exact trivial | omega | (simp; done) | (simp; omega)) (hFr) rfl (by first | exact .inl rfl | exact .inr rfl) rfl ?_
              simp [go_sem, hn, d1]
              refine DoLD.call true 2311 rfl rfl rfl rfl (by first | exact trivial | omega | (simp; done) | (simp; omega)) (hMu) rfl (by first | exact .inl rfl | exact .inr rfl) rfl ?_
              simp [go_sem, hn, d1]
              repeat (refine And.intro (by first | omega | (intros; omega) | (intros; exact And.intro (by assumption) (by omega)) | kernel_rfl | grind) ?_)
              refine DoLD.call true 2314 rfl rfl rfl rfl (by first | exact trivial | omega | (simp; done) | (simp; omega)) (hSc) rfl (by first | exact .inl rfl | exact .inr rfl) rfl ?_
              simp [go_sem, hn, d1]
              refine DoLD.call true 2315 rfl rfl rfl rfl (by first | exact trivial | omega | (simp; done) | (simp; omega)) (hRd) rfl (by first | exact .inl rfl | exact .inr rfl) rfl ?_
              simp [go_sem, hn, d1]
              repeat (refine And.intro (by first | omega | (intros; omega) | (intros; exact And.intro (by assumption) (by omega)) | kernel_rfl | grind) ?_)
              try (refine And.intro (by kernel_rfl) ?_)
              apply k20_; clear k20_
              refine Do.seqk fun _ k21_ => ?_
              refine Do.region [8] true ?_
              simp [go_sem, hn, d1]
              repeat (refine And.intro (by first | omega | (intros; omega) | (intros; exact And.intro (by assumption) (by omega)) | grind) ?_)
              refine DoL.call true 2406 rfl rfl rfl rfl (by first | exact trivial | omega | (simp; done) | (simp; omega)) (hF) rfl (by first | exact .inl rfl | exact .inr rfl) rfl ?_
              simp [go_sem, hn, d1]
              refine DoL.callg true 2408 rfl rfl rfl rfl rfl (by simp [go_sem] <;> omega) (fun _ => awake_does) rfl (by first | exact .inl rfl | exact .inr rfl) rfl ?_
              simp [go_sem, hn, d1]
              apply k21_; clear k21_
              refine Do.ret ?_
              simp [endQ, rets, ret1, go_sem, hn, d1]
              repeat (refine And.intro (by first | omega | (intros; omega) | (intros; exact And.intro (by assumption) (by omega)) | grind) ?_)
              exact TLe.refl _
      · rw [if_neg he] at hz
        have hF := @Fits_none 0 0 false [] 0 (argsE f p r false (List.replicate n x)) ⟨rfl, rfl, rfl, rfl⟩ he (argsE f p r false (List.replicate n x))
        generalize argsE f p r false (List.replicate n x) = ae at *
        have hT : Does Tryz.prog Gv 20 [Fm f p, .c (.i .i64 r), .s false (List.replicate n x.cs)] (.t [Fl 0 false 0 (nat 0), .c (.i .i64 0), .c (.i .i64 ae)]) := by rw [← hz] at hT; exact hT
        rw [nat_zero] at hT
        refine Does.of (nt := 140) Tryz.func7 rfl rfl rfl (by simp) ?_
        simp only [argTm, PV.ext, Ce.ext]
        refine Do.seqk fun _ k1_ => ?_
        refine Do.region [1,3,4,6] true ?_
        simp [go_sem, hn]
        apply k1_; clear k1_
        refine Do.seqk fun _ k2_ => ?_
        refine Do.region [1,4,6,9] true ?_
        simp [go_sem, hn]
        repeat (refine And.intro (by first | omega | (intros; omega) | (intros; exact And.intro (by assumption) (by omega)) | grind) ?_)
        apply k2_; clear k2_
        refine Do.seqk fun _ k3_ => ?_
        refine Do.seqk fun _ k4_ => ?_
        refine Do.region [1,4,6,9,28] true ?_
        simp [go_sem, hn]
        repeat (refine And.intro (by first | omega | (intros; omega) | (intros; exact And.intro (by assumption) (by omega)) | grind) ?_)
        refine DoL.sealS true 202 201 rfl ?_
        simp [go_sem]
        refine DoL.call true 203 rfl rfl rfl rfl (by first | exact trivial | omega | (simp; done) | (simp; omega)) (hS) rfl (by first | exact .inl rfl | exact .inr rfl) rfl ?_
        simp [go_sem, hn]
        repeat (refine And.intro (by first | omega | (intros; omega) | (intros; exact And.intro (by assumption) (by omega)) | grind) ?_)
        apply k4_; clear k4_
        refine Do.cond [1,4,6,9] rfl (fun h => ?_) (fun h => ?_) <;> simp [go_sem, hn] at h ⊢
        refine Do.skip ?_
        simp [go_sem]
        apply k3_; clear k3_
        refine Do.seqk fun _ k5_ => ?_
        refine Do.region [1,4,6,9,10] true ?_
        simp [go_sem, hn]
        repeat (refine And.intro (by first | omega | (intros; omega) | (intros; exact And.intro (by assumption) (by omega)) | grind) ?_)
        apply k5_; clear k5_
        refine Do.seqk fun _ k6_ => ?_
        refine Do.seqk fun _ k7_ => ?_
        refine Do.region [1,4,6,9,10,11] true ?_
        simp [go_sem, hn]
        apply k7_; clear k7_
        refine Do.block ?_
        refine Do.loopF [1,4,6,9,10,11] (fun (i : Nat) => [(11, .int .i64 i)]) (fun (i : Nat) => [(401, .sr 4 (List.replicate i x.cs ++ List.replicate (n - i) [.i .i64 0, .b false, .i .i64 0, .z]))]) (fun (i : Nat) => i ≤ n) (fun (i : Nat) => n - i) (0) (fun _ => by first | (simp [go_sem, mixS]; done) | (simp [go_sem, mixS]; rfl)) (St.le_of (by first | rfl | simp [keep]) (by first | rfl | simp [keep])) (Nat.zero_le _) ?_
        intro i hi
        refine Do.seqk fun _ k8_ => ?_
        refine Do.seqk fun _ k9_ => ?_
        refine Do.region [1,4,6,9,10,11,34] true ?_
        simp [go_sem, hn]
        apply k9_; clear k9_
        refine Do.cond [1,4,6,9,10,11] rfl (fun h2 => ?_) (fun h2 => ?_) <;> simp [go_sem, hn] at h2 ⊢
        · obtain ⟨d, hd⟩ : ∃ d, n - i = d + 1 := ⟨n - i - 1, by omega⟩
          have hd2 : n - (i + 1) = d := by omega
          refine Do.skip ?_
          simp [go_sem]
          apply k8_; clear k8_
          refine Do.seqk fun _ k10_ => ?_
          refine Do.block ?_
          refine Do.region [1,4,6,9,10,11] true ?_
          simp [go_sem, hn, hd, List.replicate_succ]
          repeat (refine And.intro (by first | omega | (intros; omega) | (intros; exact And.intro (by assumption) (by omega)) | grind) ?_)
          apply k10_; clear k10_
          refine Do.region [1,4,6,9,10,11] true ?_
          simp [go_sem, hn, hd, List.replicate_succ]
          repeat (refine And.intro (by first | omega | (intros; omega) | (intros; exact And.intro (by assumption) (by omega)) | grind) ?_)
          refine ⟨i + 1, St.le_of rfl (by simp [keep, hd2, List.replicate_succ']), by omega, by simp; omega⟩
        · obtain rfl : i = n := by omega
          simp only [Nat.sub_self, List.replicate_zero, List.append_nil]
          refine Do.exit ?_
          simp [go_sem]
          apply k6_; clear k6_
          refine Do.seqk fun _ k11_ => ?_
          refine Do.region [1,4,6,9,10,12,13,14] true ?_
          simp [go_sem, hn, d1]
          repeat (refine And.intro (by first | omega | (intros; omega) | (intros; exact And.intro (by assumption) (by omega)) | grind) ?_)
          refine DoL.sealS true 903 401 rfl ?_
          simp [go_sem]
          refine DoL.call true 904 rfl rfl rfl rfl (by first | exact trivial | omega | (simp; done) | (simp; omega)) (hT) rfl (by first | exact .inl rfl | exact .inr rfl) rfl ?_
          simp [go_sem, hn, d1]
          repeat (refine And.intro (by first | omega | (intros; omega) | (intros; exact And.intro (by assumption) (by omega)) | grind) ?_)
          apply k11_; clear k11_
          refine Do.seqk fun _ k12_ => ?_
          refine Do.region [1,4,6,9,10,12,13,14,15,16] true ?_
          simp [go_sem, hn, d1]
          repeat (refine And.intro (by first | omega | (intros; omega) | (intros; exact And.intro (by assumption) (by omega)) | grind) ?_)
          refine DoL.call true 1003 rfl rfl rfl rfl (by first | exact trivial | omega | (simp; done) | (simp; omega)) (hX) rfl (by first | exact .inl rfl | exact .inr rfl) rfl ?_
          simp [go_sem, hn, d1]
          apply k12_; clear k12_
          refine Do.seqk fun _ k13_ => ?_
          refine Do.region [1,4,6,9,10,12,13,14,15,16,17] true ?_
          simp [go_sem, hn, d1]
          repeat (refine And.intro (by first | omega | (intros; omega) | (intros; exact And.intro (by assumption) (by omega)) | grind) ?_)
          refine DoL.call true 1104 rfl rfl rfl rfl (by first | exact trivial | omega | (simp; done) | (simp; omega)) (hA) rfl (by first | exact .inl rfl | exact .inr rfl) rfl ?_
          simp [go_sem, hn, d1]
          apply k13_; clear k13_
          refine Do.seqk fun _ k14_ => ?_
          refine Do.seqk fun _ k15_ => ?_
          refine Do.region [1,4,6,9,10,12,13,14,15,16,17,60] true ?_
          simp [go_sem, hn, d1]
          apply k15_; clear k15_
          refine Do.cond [1,4,6,9,10,12,13,14,15,16,17] rfl (fun h3 => ?_) (fun h3 => ?_) <;> simp [go_sem, hn, d1] at h3 ⊢
          refine Do.skip ?_
          simp [go_sem]
          apply k14_; clear k14_
          refine Do.seqk fun _ k16_ => ?_
          refine Do.seqk fun _ k17_ => ?_
          refine Do.region [1,4,6,9,10,12,13,14,17,73] true ?_
          simp [go_sem, hn, d1]
          apply k17_; clear k17_
          refine Do.cond [1,4,6,9,10,12,13,14,17] rfl (fun h4 => ?_) (fun h4 => ?_) <;> simp [go_sem, hn, d1] at h4 ⊢
          · refine Do.seqk fun _ k18_ => ?_
            refine Do.region [8] true ?_
            simp [go_sem, hn, d1]
            repeat (refine And.intro (by first | omega | (intros; omega) | (intros; exact And.intro (by assumption) (by omega)) | grind) ?_)
            refine DoL.call true 1906 rfl rfl rfl rfl (by first | exact trivial | omega | (simp; done) | (simp; omega)) (hF) rfl (by first | exact .inl rfl | exact .inr rfl) rfl ?_
            simp [go_sem, hn, d1]
            refine DoL.callg true 1908 rfl rfl rfl rfl rfl (by simp [go_sem] <;> omega) (fun _ => awake_does) rfl (by first | exact .inl rfl | exact .inr rfl) rfl ?_
            simp [go_sem, hn, d1]
            apply k18_; clear k18_
            refine Do.ret ?_
            simp [endQ, rets, ret1, go_sem, hn, d1]
            repeat (refine And.intro (by first | omega | (intros; omega) | (intros; exact And.intro (by assumption) (by omega)) | grind) ?_)
            exact TLe.refl _
          · exact absurd h4 he
end Go.Proofs.YtdaecibpkhcllaaGreatDoor
/- The row of SumMany. No condition. -/
namespace Go.Proofs.YtdaecibpkhcllaaGreatDoor
set_option linter.unusedVariables false
set_option linter.unusedSimpArgs false
open Go.ChangeShapes Go.WideShapes Go.ChangeAt Go.RowKit
set_option maxRecDepth 100000
theorem wf_u16 {x : Int} (h : (Lit.int .u16 x).wf = true) : 0 ≤ x ∧ x < 65536 := by
  simp only [Lit.wf, Bool.and_eq_true, decide_eq_true_eq] at h
  have h1 : IntKind.min .u16 = 0 := rfl
  have h2 : IntKind.max .u16 = 65535 := rfl
  rw [h1, h2] at h; omega
namespace sumMany
set_option maxRecDepth 100000 in
theorem lifted (os : Os) (started : os.Started) (H : Type) (enc : TypeId × Value → H) :
    ReturnsInHanded {} Tryz.checked os 7 .any (fun w args => (Rows.sumManySpec.pre enc Tryz.prog Tryz.f7 [] false w args ∧ laidMetH Tryz.prog laidL w) ∧ sizedMet enc Tryz.prog Tryz.f7 (OpenSpec.ofChange Rows.sumManySpec) false w args)
      (Rows.sumManySpec.post enc Tryz.prog Tryz.f7 false true false false) := by
  refine returnsInHanded_of_change_and (C := Tryz.checked) (X := fun w _ => laidMetH Tryz.prog laidL w) (fun _ _ _ hh h => h.of_heap hh) own started (by kernel_rfl) Tryz.func7
    (ChangeSpec.witness_shaped (enc := enc) (C := Tryz.checked) (os := os) (X := fun w _ => laidMetH Tryz.prog laidL w) false (World.doorLaid Tryz.prog doorN os) #[.agg #[.int .i64 0, .int .i64 0], .int .i64 0, .agg #[.int .i64 0, .bool false, .int .i64 0, .slice Option.none 0 0], .int .u16 0] doorK rfl (World.shaped_of_RefB (by kernel_rfl) (by kernel_rfl)) (by kernel_rfl) (by kernel_rfl) (by kernel_rfl) (door_met os _)) ?_
  intro W base args ds gs before hval0 hW _ _ hL _
  have hval : ∀ (j : Nat) t v, Tryz.f7.params[j]? = some t → args[j]? = some v → Value.okWide Tryz.prog W .any base t v := hval0
  have hW' := hW
  obtain ⟨p, q, hA0, hV, rfl, hfz, hnd⟩ := hW
  have hA : DataW.TrodAll enc Tryz.prog W 0 (fun _ => true) true Tryz.f7.params.toList args.toList ds p := hA0
  rw [Tryz.params7] at hA hval
  obtain ⟨v0, vs0, d0, ds0, p0, q0, hargs, rfl, rfl, h0, r0⟩ := trodAll_cons hA
  obtain ⟨v1, vs1, d1, ds1, p1, q1, rfl, rfl, rfl, h1, r1⟩ := trodAll_cons r0
  obtain ⟨v2, vs2, d2, ds2, p2, q2, rfl, rfl, rfl, h2, r2⟩ := trodAll_cons r1
  obtain ⟨v3, vs3, d3, ds3, p3, q3, rfl, rfl, rfl, h3, r3⟩ := trodAll_cons r2
  obtain ⟨rfl, rfl, rfl⟩ := trodAll_nil r3
  obtain rfl : args = #[v0, v1, v2, v3] := by cases args; simp_all
  obtain ⟨rfl, rfl⟩ := trodVars_none hV
  have lt0 : ∀ x ∈ p0, x.block < W.heap.size := by obtain ⟨m, hm⟩ := h0; exact DataW.trod_lt m _ _ _ hm
  have lt1 : ∀ x ∈ p1, x.block < W.heap.size := by obtain ⟨m, hm⟩ := h1; exact DataW.trod_lt m _ _ _ hm
  have lt2 : ∀ x ∈ p2, x.block < W.heap.size := by obtain ⟨m, hm⟩ := h2; exact DataW.trod_lt m _ _ _ hm
  have lt3 : ∀ x ∈ p3, x.block < W.heap.size := by obtain ⟨m, hm⟩ := h3; exact DataW.trod_lt m _ _ _ hm
  obtain ⟨f, fp, a0⟩ := arg_fm (hval 0 _ v0 rfl rfl) h0
  have k1 := h1
  obtain ⟨r, rfl, rfl, rfl, w1⟩ := open_int Tryz.underlying24 (hval 1 _ v1 rfl rfl) h1
  obtain ⟨x, wx, ex, a2⟩ := arg_fl (hval 2 _ v2 rfl rfl) h2
  have k3 := h3
  obtain ⟨k, rfl, rfl, rfl, w3⟩ := open_int Tryz.underlying65 (hval 3 _ v3 rfl rfl) h3
  clear hA0 hval0
  refine (law_calls (vals := [v0, .int .i64 r, v2, .int .u16 k]) (SumMany_does (f := f) (p := fp) (r := r) wx ex (wf_u16 w3)) Tryz.func7 rfl rfl (of_laid hL) (.cons a0 (.cons rfl (.cons a2 (.cons rfl .nil))))).mono fun e W' ⟨he, bel⟩ => ?_
  subst he
  exact ⟨_, rfl, _, _, _, [], _, [], hW', trodAll_mk1 (shut_bool Tryz.underlying4 _), (trodAll_cons_mk (Below.trod laidOut (by kernel_rfl) (of_decide_eq_true (by kernel_rfl)) h0 bel lt0) (trodAll_cons_mk (Below.trod laidOut (by kernel_rfl) (of_decide_eq_true (by kernel_rfl)) k1 bel lt1) (trodAll_cons_mk (Below.trod laidOut (by kernel_rfl) (of_decide_eq_true (by kernel_rfl)) h2 bel lt2) (trodAll_mk1 (Below.trod laidOut (by kernel_rfl) (of_decide_eq_true (by kernel_rfl)) k3 bel lt3))))), rfl, bel.frame _, fun h => by cases h⟩
theorem over : Rows.sumManyRow.holds Tryz.pinned (OpenSpec.ofChange Rows.sumManySpec) :=
  OpenClaim.holds_of_wide 7 Tryz.f7 rfl rfl rfl rfl rfl rfl rfl ⟨rfl, rfl, rfl, rfl, rfl⟩ rfl rfl rfl rfl rfl (by kernel_rfl) Tryz.func7 (by kernel_rfl)
    (of_decide_eq_true (by kernel_rfl)) (by unfold Func.isWrapper; first | (rw [if_pos (by decide +kernel)]; kernel_rfl) | (rw [if_neg (by decide +kernel)]; exact ⟨rfl, rfl⟩))
    (fun os started H enc _ => lifted os started H enc)
end sumMany
end Go.Proofs.YtdaecibpkhcllaaGreatDoor
/- The law SumMany holds, for every input: the sum of up to 1002 copies of a float of up to 40 words is so many times its value, rounded once; more than 1000 copies are an error. Conditions: the two listed package variables hold what the program's text lays (tied by the card). -/
namespace Go.Proofs.YtdaecibpkhcllaaGreatDoor
set_option linter.unusedVariables false
set_option linter.unusedSimpArgs false
open Go
theorem sumMany_holds : Rows.SumManyCardSaid :=
  Claim7.holds_tied_plain_at .later [] [.data, .funcs] true Rows.sumManyCard.stood.harness false
    sumMany.over (fun _ h => by cases h) (by kernel_rfl) (fun _ h => by cases h) sumMany_row_tie rfl ⟨rfl, rfl⟩ (by kernel_rfl) rfl
    (fun f fn hf hfn => by
      obtain rfl : f = 7 := Option.some.inj ((show Tryz.prog.funcNamed "reckoner/reckonerlaw17.SumMany" = some 7 by kernel_rfl).symm.trans hf) |>.symm
      obtain rfl : fn = Tryz.f7 := (Option.some.inj (Tryz.func7.symm.trans hfn)).symm
      exact ⟨by kernel_rfl, fun j t ht => by
        have hm : t ∈ Tryz.f7.params.toList := by simpa using Array.mem_of_getElem? ht
        have hall : (Tryz.f7.params.toList.all fun u => !Tryz.prog.wantsStandIn u) = true := by kernel_rfl
        exact (show Tryz.prog.wantsStandIn t = false by simpa using List.all_eq_true.1 hall t hm)⟩)
    (by kernel_rfl)
#print axioms sumMany_holds
end Go.Proofs.YtdaecibpkhcllaaGreatDoor

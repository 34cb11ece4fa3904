/- The law ProductHalves holds, for every input: where there are two parts of a product, their values add up to the exact one; there are some where it is a multiple of the least float, and the rounded one is Finite. Conditions: the two listed package variables hold what the program's text lays (tied by the card). -/
import Derived.Test.YthpkhmbjmnhmoaaGreatDoorMk
import Derived.Test.YthpkhmbjmnhmoaaGreatDoorMi
import Derived.Test.YthpkhmbjmnhmoaaGreatDoorMj
import Derived.Test.YthpkhmbjmnhmoaaGreatDoorCards
import Derived.Test.YthpkhmbjmnhmoaaGreatDoorTie
import Derived.SevenTiedAt
/- Operations under a test whose outcome is known, in a region whose order is open. No condition. -/
namespace Go.Proofs.YthpkhmbjmnhmoaaGreatDoor
set_option linter.unusedVariables false
set_option linter.unusedSimpArgs false
section
variable {P : Program} {G : Gl} {nt : Nat} {st st0 : St} {cx : Cx} {a : Act} {W W' : World} {m : Nat → Option Nat} {ops l : List Oper} {acc : List Sm} {Q : List Sm → St → Prop} {o : Oper} {j : Nat} {want g : Bool}
theorem gOf_congr {tm tm' : List (Nat × TV)} (hg : o.guard = some (j, want)) (h : ∀ t ∈ rdOf ops o, lk t tm' = lk t tm) : gOf ops tm' j want = gOf ops tm j want := by
  unfold gOf
  split
  · rename_i d _ _ _ _ _ hj
    rw [h d (by unfold rdOf; simp only [List.mem_append, hg, hj]; exact .inr (by simp))]
  · rfl
theorem DoLD.gOff (md : Bool) (lab : Nat) (hg : o.guard = some (j, want)) (hgo : gOf ops st.tm j want = some false) (x : TV) (hx : x.labs = []) (hd : dstOk nt o.dst = true) (next : runsD P G nt md ops st0 Q lab l (acc ++ [⟨[], [], [], none⟩]) ⟨setv o.dst (some (.gd false x)) st.tm, st.ob⟩) : DoLD P G nt ops st0 Q (o :: l) acc st := by
  have h : OpOk P G nt ops (boxes st0.ob) o st ⟨o.dst, some (.gd false x), .none, 0, []⟩ := by
    refine ⟨rfl, fun cx a W m S hn _ hrd hus hfree hr Q' K hK => ?_⟩
    rw [gOf_spec hr ((gOf_congr hg hrd).trans hgo) hg, if_neg Bool.false_ne_true]
    exact hK _ _ (Rel.put hr hn hd (show RT _ (.gd false x) undef from ⟨(fun e => by cases e), fun _ => rfl⟩))
  refine DoLD.cons h (fun l hl => by simp [Tr.nw, Eff.isNew] at hl) rfl ?_
  have e1 : Tr.sm ⟨o.dst, some (.gd false x), .none, 0, []⟩ = ⟨[], [], [], none⟩ := by
    simp [Tr.sm, Tr.wr, Tr.mn, Tr.nw, Tr.ob, Eff.isNew, TV.labs, hx]
  rw [e1]
  exact DoLD.run next
theorem tmHas_unw {l : Nat} (ts : List Nat) : ∀ {tm : List (Nat × TV)}, tmHas l tm = false → tmHas l (unw ts tm) = false
  | [], _ => rfl
  | (k, x) :: r, h => by
    simp only [tmHas, Bool.or_eq_false_iff] at h
    cases x with
    | gd c y =>
      simp only [Go.Proofs.YthpkhmbjmnhmoaaGreatDoor.unw, tmHas, Bool.or_eq_false_iff]
      refine ⟨?_, tmHas_unw ts h.2⟩
      split <;> exact h.1
    | _ => simp only [Go.Proofs.YthpkhmbjmnhmoaaGreatDoor.unw, tmHas, Bool.or_eq_false_iff]; exact ⟨h.1, tmHas_unw ts h.2⟩
theorem free_unw {S : St} {l : Nat} (ts : List Nat) (h : S.free l = true) : (⟨unw ts S.tm, S.ob⟩ : St).free l = true := by
  simp only [St.free, Bool.not_eq_true', Bool.or_eq_false_iff] at h ⊢
  exact ⟨⟨tmHas_unw ts h.1.1, h.1.2⟩, h.2⟩
/-- Slots that hold no more than they did. -/
theorem RelM.less (h : RelM G cx m st a W) {tm' : List (Nat × TV)} (hs : ∀ t y, lk t tm' = some y → ∃ z, lk t st.tm = some z ∧ ∀ E v, RT E z v → RT E y v) : RelM G cx m ⟨tm', st.ob⟩ a W :=
  { h with
    tm := fun t y hy => by
      have ⟨z, hz, hl⟩ := hs t y hy
      have ⟨v, hv, hr⟩ := h.tm t z hz
      exact ⟨v, hv, hl _ _ hr⟩ }
theorem lk_setv {d : Option Nat} {v : Option TV} {tm : List (Nat × TV)} {t : Nat} {y : TV} (h : lk t (setv d v tm) = some y) : (d = some t ∧ v = some y) ∨ (d ≠ some t ∧ lk t tm = some y) := by
  cases d with
  | none => exact .inr ⟨by simp, h⟩
  | some d =>
    cases v with
    | none =>
      simp only [setv] at h
      rw [lk_del] at h
      split at h
      · cases h
      · rename_i e; exact .inr ⟨fun e2 => e (Option.some.inj e2).symm, h⟩
    | some v =>
      simp only [setv] at h
      rw [lk_put] at h
      split at h
      · rename_i e; exact .inl ⟨by rw [e], h⟩
      · rename_i e; exact .inr ⟨fun e2 => e (Option.some.inj e2).symm, h⟩
theorem setv_lk {d : Option Nat} {v : Option TV} {tm : List (Nat × TV)} {t : Nat} {y : TV} (h : (d = some t ∧ v = some y) ∨ (d ≠ some t ∧ lk t tm = some y)) : lk t (setv d v tm) = some y := by
  rcases h with ⟨rfl, rfl⟩ | ⟨h1, h2⟩
  · simp only [setv]; rw [lk_put_self]
  · cases d with
    | none => exact h2
    | some d =>
      have : t ≠ d := fun e => h1 (by rw [e])
      cases v with
      | none => simp only [setv]; rw [lk_del, if_neg this]; exact h2
      | some v => simp only [setv]; rw [lk_put_ne _ _ this]; exact h2
theorem DoLD.gOn {p : Prop} {v : Option TV} {ef : Eff} (md : Bool) (lab : Nat) (hg : o.guard = some (j, want)) (hgo : gOf ops st.tm j want = some true) (ts : List Nat) (hts : ∀ t ∈ ts, t ∈ rdOf ops o) (ht : tests ts st.tm)
    (hE : stepE P G nt md ops lab (unw ts st.tm) (fun j => lk j st.ob) { o with guard := none } = some ⟨p, v, ef⟩) (hp : p) (hf : ef.isNew = true → st0.free lab = true) (hfr : ef.fresh lab = true) (hef : efOk (boxes st0.ob) ef = true)
    (next : runsD P G nt md ops st0 Q (lab + 1) l (acc ++ [Tr.sm ⟨o.dst, v, ef, lab, usOf (boxes st0.ob) (unw ts st.tm) o.op⟩]) (Tr.app ⟨o.dst, v, ef, lab, usOf (boxes st0.ob) (unw ts st.tm) o.op⟩ st)) : DoLD P G nt ops st0 Q (o :: l) acc st := by
  have h : OpOk P G nt ops (boxes st0.ob) o st ⟨o.dst, v, ef, lab, usOf (boxes st0.ob) (unw ts st.tm) o.op⟩ := by
    refine ⟨rfl, fun cx a W m S hn hB hrd hus hfree hr Q' K hK => ?_⟩
    rw [gOf_spec hr ((gOf_congr hg hrd).trans hgo) hg, if_pos rfl]
    have htsS : tests ts S.tm := by rw [tests_congr fun t h => hrd t (hts t h)]; exact ht
    have hr2 := hr.unw htsS
    have hsub : ∀ x ∈ rdOf ops { o with guard := none }, x ∈ rdOf ops o := fun x hx => by
      unfold rdOf at hx ⊢
      simp only [List.mem_append] at hx ⊢
      rcases hx with hx | hx
      · exact .inl hx
      · simp at hx
    have h0 := (opOk_step (ops := ops) (st := ⟨unw ts st.tm, st.ob⟩) (o := { o with guard := none }) hE hp hfr (boxes st0.ob)).2 cx a W m ⟨unw ts S.tm, S.ob⟩ hn hB (fun x hx => by
      show lk x (unw ts S.tm) = lk x (unw ts st.tm)
      rw [lk_unw, lk_unw, hrd x (hsub x hx)]) hus (fun e => free_unw ts (hfree e)) hr2 Q' K (fun a' W' hr' => hK a' W' (by
        obtain ⟨m', hr'⟩ := hr'
        refine ⟨m', RelM.less hr' fun t y hy => ?_⟩
        rcases lk_setv hy with ⟨e1, e2⟩ | ⟨e1, e2⟩
        · exact ⟨y, setv_lk (.inl ⟨e1, e2⟩), fun _ _ h => h⟩
        · cases y with
          | gd c x =>
            by_cases hm : t ∈ ts
            · have hc := tests_spec htsS e2 hm
              refine ⟨x, setv_lk (.inr ⟨e1, ?_⟩), fun E u hu => ⟨fun _ => hu, fun e => by rw [hc] at e; cases e⟩⟩
              show lk t (unw ts S.tm) = some x
              rw [lk_unw, e2]; simp [hm]
            · refine ⟨.gd c x, setv_lk (.inr ⟨e1, ?_⟩), fun _ _ h => h⟩
              show lk t (unw ts S.tm) = _
              rw [lk_unw, e2]; simp [hm]
          | _ =>
            refine ⟨_, setv_lk (.inr ⟨e1, ?_⟩), fun _ _ h => h⟩
            show lk t (unw ts S.tm) = _
            rw [lk_unw, e2]; rfl))
    rw [wanted_none rfl, if_pos rfl] at h0
    exact h0
  refine DoLD.cons h (fun l hl => ?_) hef (DoLD.run next)
  simp only [Tr.nw] at hl
  split at hl
  · rename_i e; injection hl with hl; subst hl; exact hf e
  · cases hl
end
end Go.Proofs.YthpkhmbjmnhmoaaGreatDoor
/- A float as a rational number; Holds. No condition. -/
namespace Go.Proofs.YthpkhmbjmnhmoaaGreatDoor
set_option linter.unusedVariables false
set_option linter.unusedSimpArgs false
set_option maxHeartbeats 4000000
set_option maxRecDepth 10000
theorem tz_half {v : Nat} (h : 0 < v) : v / 2 ^ tz v % 2 = 1 := by
  obtain ⟨c, hc⟩ := tz_form h
  have : v / 2 ^ tz v = 2 * c + 1 := by
    conv => lhs; rw [hc]
    rw [tz_odd]
    exact Nat.mul_div_cancel_left _ (Nat.pow_pos (by decide))
  omega
theorem FRat {G : Gl} {x : Fla} (hx : Rt x) {K : Nat} (hK : K ≤ 8000000) (he : x.k = 1 → -(K : Int) ≤ x.e) : ∃ z d, Does Tryz.prog G 24 [Fl x.k x.n x.e x.m] (.v (Qv z d)) ∧ Dq K z d (fv (-K) x.flt) := by
  have hlen := hx.len
  by_cases hk : x.k = 1
  · have hc := canon_one hx.can hk
    have hv : 0 < val x.m := by have : x.flt.v ≠ 0 := hc.2.2; exact Nat.pos_of_ne_zero this
    have hc1 : -1048576 ≤ x.e := hc.1
    have hc2 : x.e + tz (val x.m) ≤ 1048576 := hc.2.1
    have hkk := he hk
    have ho := @odd_does G x.k x.e x.n x.m (by omega) hx.ws hx.md
    have hbv : bl (val x.m) ≤ 262144 := by have := bl_le_ws hx.ws; omega
    have hbv2 : bl (val x.m / 2 ^ tz (val x.m)) ≤ 262144 := Nat.le_trans (bl_mono (Nat.div_le_self _ _)) hbv
    obtain ⟨f1, f2⟩ := @Dq.float K x.n (val x.m / 2 ^ tz (val x.m)) (x.e + tz (val x.m)) (tz_half hv) (by omega)
    have hfv : fv (-K) ⟨1, x.n, x.e + tz (val x.m), val x.m / 2 ^ tz (val x.m)⟩ = fv (-K) x.flt := by
      have := @fv_rcan x.flt (-(K : Int)) (fun _ => hkk)
      rw [← this]
      unfold rcanon
      rw [if_pos (show x.flt.k = 1 from hk)]
      rfl
    rw [hfv] at f1 f2
    generalize val x.m / 2 ^ tz (val x.m) = v at *
    generalize hE : x.e + tz (val x.m) = E at *
    by_cases h0 : E < 0
    · refine ⟨_, _, ?_, f1 h0⟩
      have i1 := @IvMake G x.n v (by omega)
      have i2 := @RWord_does G 1 (by decide)
      have i3 := @RLeft_does G (nat 1) (-E).toNat (by rw [nat_one]; decide) (nat_ws _) (by omega)
      rw [val_nat, Nat.one_mul, show (((-E).toNat : Nat) : Int) = -E by omega] at i3
      generalize sgn x.n v = z at *
      generalize 2 ^ (-E).toNat = d at *
      refine Does.of (nt := 32) Tryz.func24 rfl rfl rfl (by simp) ?_
      simp only [argTm, PV.ext, Ce.ext]
      refine Do.seqk fun _ k1_ => ?_
      refine Do.region [1,2] true ?_
      simp [go_sem]
      apply k1_; clear k1_
      refine Do.seqk fun _ k2_ => ?_
      refine Do.seqk fun _ k3_ => ?_
      refine Do.region [1,2,7] true ?_
      simp [go_sem]
      repeat (refine And.intro (by first | omega | (intros; omega) | (intros; exact And.intro (by assumption) (by omega)) | grind) ?_)
      apply k3_; clear k3_
      refine Do.cond [1,2] rfl (fun h1 => ?_) (fun h1 => ?_) <;> simp [go_sem] at h1 ⊢
      · exact absurd hk h1
      · refine Do.skip ?_
        simp [go_sem]
        apply k2_; clear k2_
        refine Do.seqk fun _ k4_ => ?_
        refine Do.region [1,2,3,4] true ?_
        simp [go_sem]
        repeat (refine And.intro (by first | omega | (intros; omega) | (intros; exact And.intro (by assumption) (by omega)) | grind) ?_)
        refine DoL.call true 302 rfl rfl rfl rfl (by first | exact trivial | omega | (simp; done) | (simp; omega)) (ho) rfl (by first | exact .inl rfl | exact .inr rfl) rfl ?_
        simp [go_sem]
        apply k4_; clear k4_
        refine Do.seqk fun _ k5_ => ?_
        refine Do.seqk fun _ k6_ => ?_
        refine Do.region [1,2,3,4,15] true ?_
        simp [go_sem]
        apply k6_; clear k6_
        refine Do.cond [1,2,3,4] rfl (fun h2 => ?_) (fun h2 => ?_) <;> simp [go_sem] at h2 ⊢
        · refine Do.seqk fun _ k7_ => ?_
          refine Do.region [2] true ?_
          simp [go_sem]
          repeat (refine And.intro (by first | omega | (intros; omega) | (intros; exact And.intro (by assumption) (by omega)) | grind) ?_)
          refine DoL.call true 504 rfl rfl rfl rfl (by first | exact trivial | omega | (simp; done) | (simp; omega)) (i1) rfl (by first | exact .inl rfl | exact .inr rfl) rfl ?_
          simp [go_sem]
          refine DoL.call true 505 rfl rfl rfl rfl (by first | exact trivial | omega | (simp; done) | (simp; omega)) (i2) rfl (by first | exact .inl rfl | exact .inr rfl) rfl ?_
          simp [go_sem]
          repeat (refine And.intro (by first | omega | (intros; omega) | (intros; exact And.intro (by assumption) (by omega)) | grind) ?_)
          refine DoL.call true 508 rfl rfl rfl rfl (by first | exact trivial | omega | (simp; done) | (simp; omega)) (i3) rfl (by first | exact .inl rfl | exact .inr rfl) rfl ?_
          simp [go_sem]
          repeat (refine And.intro (by first | omega | (intros; omega) | (intros; exact And.intro (by assumption) (by omega)) | grind) ?_)
          apply k7_; clear k7_
          refine Do.ret ?_
          simp [endQ, rets, ret1, go_sem]
          repeat (refine And.intro (by first | omega | (intros; omega) | (intros; exact And.intro (by assumption) (by omega)) | grind) ?_)
          exact TLe.v (PLe.qv rfl (PLe.refl _) (PLe.ext (.c (.w true _))))
        · omega
    · refine ⟨_, _, ?_, f2 (by omega)⟩
      have hbl : bl (v * 2 ^ E.toNat) ≤ 2000000 := by
        have := bl_mulN v (2 ^ E.toNat)
        have h3 : bl (2 ^ E.toNat) ≤ E.toNat + 1 := by rw [bl_lt]; exact Nat.pow_lt_pow_right (by decide) (by omega)
        omega
      have i3 := @RLeft_does G (nat v) E.toNat (by have := len_bl hbv2; omega) (nat_ws _) (by omega)
      rw [val_nat, show ((E.toNat : Nat) : Int) = E by omega] at i3
      have i1 := @IvMake G x.n (v * 2 ^ E.toNat) (by omega)
      have i4 := @QWhole G (sgn x.n (v * 2 ^ E.toNat)) (by unfold Bz; rw [sgn_abs]; omega)
      generalize sgn x.n (v * 2 ^ E.toNat) = z at *
      generalize v * 2 ^ E.toNat = d at *
      refine Does.of (nt := 32) Tryz.func24 rfl rfl rfl (by simp) ?_
      simp only [argTm, PV.ext, Ce.ext]
      refine Do.seqk fun _ k1_ => ?_
      refine Do.region [1,2] true ?_
      simp [go_sem]
      apply k1_; clear k1_
      refine Do.seqk fun _ k2_ => ?_
      refine Do.seqk fun _ k3_ => ?_
      refine Do.region [1,2,7] true ?_
      simp [go_sem]
      repeat (refine And.intro (by first | omega | (intros; omega) | (intros; exact And.intro (by assumption) (by omega)) | grind) ?_)
      apply k3_; clear k3_
      refine Do.cond [1,2] rfl (fun h1 => ?_) (fun h1 => ?_) <;> simp [go_sem] at h1 ⊢
      · exact absurd hk h1
      · refine Do.skip ?_
        simp [go_sem]
        apply k2_; clear k2_
        refine Do.seqk fun _ k4_ => ?_
        refine Do.region [1,2,3,4] true ?_
        simp [go_sem]
        repeat (refine And.intro (by first | omega | (intros; omega) | (intros; exact And.intro (by assumption) (by omega)) | grind) ?_)
        refine DoL.call true 302 rfl rfl rfl rfl (by first | exact trivial | omega | (simp; done) | (simp; omega)) (ho) rfl (by first | exact .inl rfl | exact .inr rfl) rfl ?_
        simp [go_sem]
        apply k4_; clear k4_
        refine Do.seqk fun _ k5_ => ?_
        refine Do.seqk fun _ k6_ => ?_
        refine Do.region [1,2,3,4,15] true ?_
        simp [go_sem]
        apply k6_; clear k6_
        refine Do.cond [1,2,3,4] rfl (fun h2 => ?_) (fun h2 => ?_) <;> simp [go_sem] at h2 ⊢
        · omega
        · refine Do.skip ?_
          simp [go_sem]
          apply k5_; clear k5_
          refine Do.seqk fun _ k7_ => ?_
          refine Do.draw [2] true (by kernel_rfl) ?_
          simp [go_sem]
          repeat (refine And.intro (by first | omega | (intros; omega) | (intros; exact And.intro (by assumption) (by omega)) | kernel_rfl | grind) ?_)
          refine DoLD.call true 605 rfl rfl rfl rfl (by first | exact trivial | omega | (simp; done) | (simp; omega)) (i3) rfl (by first | exact .inl rfl | exact .inr rfl) rfl ?_
          simp [go_sem]
          refine DoLD.call true 606 rfl rfl rfl rfl (by first | exact trivial | omega | (simp; done) | (simp; omega)) (i1) rfl (by first | exact .inl rfl | exact .inr rfl) rfl ?_
          simp [go_sem]
          refine DoLD.call true 607 rfl rfl rfl rfl (by first | exact trivial | omega | (simp; done) | (simp; omega)) (i4) rfl (by first | exact .inl rfl | exact .inr rfl) rfl ?_
          simp [go_sem]
          repeat (refine And.intro (by first | omega | (intros; omega) | (intros; exact And.intro (by assumption) (by omega)) | kernel_rfl | grind) ?_)
          try (refine And.intro (by kernel_rfl) ?_)
          apply k7_; clear k7_
          refine Do.ret ?_
          simp [endQ, rets, ret1, go_sem]
          repeat (refine And.intro (by first | omega | (intros; omega) | (intros; exact And.intro (by assumption) (by omega)) | grind) ?_)
          exact TLe.refl _
  · have i1 : Does Tryz.prog G 25 [.c (.i .i64 0), .c (.i .i64 1)] (.v (Qv 0 1)) := @QFrom G 0 (by decide)
    have hz : fv (-K) x.flt = 0 := by unfold fv; rw [if_neg (show ¬ x.flt.k = 1 from hk)]
    rw [hz]
    refine ⟨0, 1, ?_, Dq.zero K⟩
    refine Does.of (nt := 32) Tryz.func24 rfl rfl rfl (by simp) ?_
    simp only [argTm, PV.ext, Ce.ext]
    refine Do.seqk fun _ k1_ => ?_
    refine Do.region [1,2] true ?_
    simp [go_sem]
    apply k1_; clear k1_
    refine Do.seqk fun _ k2_ => ?_
    refine Do.seqk fun _ k3_ => ?_
    refine Do.region [1,2,7] true ?_
    simp [go_sem]
    repeat (refine And.intro (by first | omega | (intros; omega) | (intros; exact And.intro (by assumption) (by omega)) | grind) ?_)
    apply k3_; clear k3_
    refine Do.cond [1,2] rfl (fun h1 => ?_) (fun h1 => ?_) <;> simp [go_sem] at h1 ⊢
    · refine Do.seqk fun _ k4_ => ?_
      refine Do.region [2] true ?_
      simp [go_sem]
      refine DoL.call true 201 rfl rfl rfl rfl (by first | exact trivial | omega | (simp; done) | (simp; omega)) (i1) rfl (by first | exact .inl rfl | exact .inr rfl) rfl ?_
      simp [go_sem]
      repeat (refine And.intro (by first | omega | (intros; omega) | (intros; exact And.intro (by assumption) (by omega)) | grind) ?_)
      apply k4_; clear k4_
      refine Do.ret ?_
      simp [endQ, rets, ret1, go_sem]
      repeat (refine And.intro (by first | omega | (intros; omega) | (intros; exact And.intro (by assumption) (by omega)) | grind) ?_)
      exact TLe.refl _
    · exact absurd (by omega) hk
theorem Holds_ok {f p : Int} {x : Fla} (hf : fmOk f p = true) (hx : x.Ok) (hl : x.m.length ≤ 4096) (h : (holdsP f p x.flt).2 = true) : Does Tryz.prog Gv 34 [Fm f p, Fl x.k x.n x.e x.m] (.v (.c (.i .i64 0))) := by
  have hO := @Floats_own f p [x] (by simp) (by simpa using hl) hf (by simpa using hx) (by simpa [allHold] using h)
  have hD : Does Tryz.prog Gv 77 [Fm f p, .s false [x.cs]] (.t [.s true ((heldL f p [x]).map Flt.cs), .c (.i .i64 0)]) := hO.does rfl (by simp)
  generalize (heldL f p [x]).map Flt.cs = rows at *
  refine Does.of (nt := 15) Tryz.func34 rfl rfl rfl (by simp) ?_
  simp only [argTm, PV.ext, Ce.ext]
  refine Do.seqk fun _ k1_ => ?_
  refine Do.region [2,3] true ?_
  simp [go_sem]
  apply k1_; clear k1_
  refine Do.seqk fun _ k2_ => ?_
  refine Do.region [6] true ?_
  simp [go_sem]
  repeat (refine And.intro (by first | omega | (intros; omega) | (intros; exact And.intro (by assumption) (by omega)) | grind) ?_)
  refine DoL.sealS true 103 102 rfl ?_
  simp [go_sem]
  refine DoL.call true 104 rfl rfl rfl rfl (by first | exact trivial | omega | (simp; done) | (simp; omega)) (hD) rfl (by first | exact .inl rfl | exact .inr rfl) rfl ?_
  simp [go_sem]
  apply k2_; clear k2_
  refine Do.seqk fun _ k3_ => ?_
  refine Do.region [4] true ?_
  simp [go_sem]
  apply k3_; clear k3_
  refine Do.ret ?_
  simp [endQ, rets, ret1, go_sem]
  repeat (refine And.intro (by first | omega | (intros; omega) | (intros; exact And.intro (by assumption) (by omega)) | grind) ?_)
  exact TLe.refl _
theorem Holds_flt {f p : Int} {x : Flt} (hf : fmOk f p = true) (hx : Fine x) (h : (holdsP f p x).2 = true) : Does Tryz.prog Gv 34 [Fm f p, x.pv] (.v (.c (.i .i64 0))) :=
  @Holds_ok f p x.fla hf ⟨hx.sh, nat_ws _, hx.e⟩ (by have := len_bl hx.v; show (nat x.v).length ≤ 4096; omega) (by rw [Flt.fla_flt]; exact h)
theorem Fine.rt {x : Flt} (hx : Fine x) : Rt x.fla := ⟨by rw [Flt.fla_flt]; exact hx.can, nat_ws _, by have := len_bl hx.v; show (nat x.v).length ≤ 4096; omega⟩
theorem restP_fv {z D : Int} {K : Nat} (hK : -(K : Int) ≤ z) : fv (-K) (restP z D) = D * ((2 ^ (z + K).toNat : Nat) : Int) := by
  unfold restP
  split
  · rename_i h; subst h; simp [fv]
  · rw [fv_rcan (x := ⟨1, decide (D < 0), z, D.natAbs⟩) (fun _ => hK)]
    unfold fv Nu.sv
    simp only [if_true]
    rw [show (z - -(K : Int)).toNat = (z + K).toNat by omega]
    by_cases hD : D < 0
    · simp only [hD, decide_true, if_true]
      rw [Int.natCast_mul, ← Int.neg_mul]
      congr 1; omega
    · simp only [hD, decide_false, Bool.false_eq_true, if_false]
      rw [Int.natCast_mul]
      congr 1; omega
/-- A number in finer units. -/
theorem fv_fine {x : Flt} {z : Int} {K : Nat} (hK : -(K : Int) ≤ z) (hz : x.k = 1 → z ≤ x.e) : fv (-K) x = fv z x * ((2 ^ (z + K).toNat : Nat) : Int) := by
  unfold fv
  split
  · rename_i hk
    have h1 := hz hk
    unfold Nu.sv
    simp only []
    have h2 : x.v * 2 ^ (x.e - -(K : Int)).toNat = x.v * 2 ^ (x.e - z).toNat * 2 ^ (z + K).toNat := by
      rw [Nat.mul_assoc, ← Nat.pow_add]
      congr 2; omega
    rw [h2]
    split
    · rw [Int.natCast_mul (x.v * 2 ^ (x.e - z).toNat), Int.neg_mul]
    · rw [Int.natCast_mul (x.v * 2 ^ (x.e - z).toNat)]
  · simp
end Go.Proofs.YthpkhmbjmnhmoaaGreatDoor
/- What the floats of a pair add up to, plain. No condition. -/
namespace Go.Proofs.YthpkhmbjmnhmoaaGreatDoor
set_option linter.unusedVariables false
set_option linter.unusedSimpArgs false
set_option maxHeartbeats 4000000
set_option maxRecDepth 10000
theorem fv_bits {x : Flt} {K : Nat} (h : x.k = 1 → x.e ≤ 1048576) : bl (fv (-K) x).natAbs ≤ bl x.v + (1048577 + K) := by
  unfold fv
  split
  · rename_i hk
    have h1 := h hk
    have e : (Nu.sv (-(K : Int)) ⟨x.n, x.v, x.e⟩).natAbs = x.v * 2 ^ (x.e - -(K : Int)).toNat := by
      unfold Nu.sv
      simp only []
      generalize x.v * 2 ^ (x.e - -(K : Int)).toNat = u
      split <;> omega
    rw [e]
    have h2 := bl_mulN x.v (2 ^ (x.e - -(K : Int)).toNat)
    have h3 : bl (2 ^ (x.e - -(K : Int)).toNat) ≤ (x.e - -(K : Int)).toNat + 1 := by rw [bl_lt]; exact Nat.pow_lt_pow_right (by decide) (by omega)
    omega
  · rw [Int.natAbs_zero, bl_zero]; omega
/-- A right float as a rational number. -/
theorem FRatK {G : Gl} {x : Fla} (hx : Rt x) : ∃ z d, Does Tryz.prog G 24 [Fl x.k x.n x.e x.m] (.v (Qv z d)) ∧ Dq 1048576 z d (fv (-(1048576 : Nat)) x.flt) ∧ bl (fv (-(1048576 : Nat)) x.flt).natAbs ≤ 2400000 := by
  obtain ⟨z, d, h1, h2⟩ := @FRat G x hx 1048576 (by decide) (fun hk => (canon_one hx.can hk).1)
  refine ⟨z, d, h1, h2, ?_⟩
  have hb := @fv_bits x.flt 1048576 (fun hk => by have := canon_one hx.can hk; omega)
  have h3 := bl_le_ws hx.ws
  have h4 := hx.len
  have h5 : x.flt.v = val x.m := rfl
  rw [h5] at hb
  omega
end Go.Proofs.YthpkhmbjmnhmoaaGreatDoor
/- The float with a rational value, in general. No condition. -/
namespace Go.Proofs.YthpkhmbjmnhmoaaGreatDoor
set_option linter.unusedVariables false
set_option linter.unusedSimpArgs false
set_option maxHeartbeats 8000000
set_option maxRecDepth 10000
theorem two_dvd18 : ∀ {K d : Nat}, d ∣ 2 ^ K → ∃ t, t ≤ K ∧ d = 2 ^ t
  | 0, d, h => ⟨0, Nat.le_refl _, Nat.dvd_one.1 h⟩
  | K + 1, d, h => by
    by_cases h2 : d % 2 = 0
    · obtain ⟨c, rfl⟩ : ∃ c, d = 2 * c := ⟨d / 2, by omega⟩
      have : c ∣ 2 ^ K := by
        rw [Nat.pow_succ, Nat.mul_comm (2 ^ K)] at h
        exact Nat.dvd_of_mul_dvd_mul_left (by decide) h
      obtain ⟨t, h3, rfl⟩ := two_dvd18 this
      exact ⟨t + 1, by omega, by rw [Nat.pow_succ, Nat.mul_comm]⟩
    · have hc : Nat.Coprime d 2 := by
        rw [Nat.coprime_iff_gcd_eq_one]
        have h3 := Nat.gcd_dvd_right d 2
        have h4 := Nat.gcd_dvd_left d 2
        have h5 : Nat.gcd d 2 ≤ 2 := Nat.le_of_dvd (by decide) h3
        have h6 : 0 < Nat.gcd d 2 := Nat.gcd_pos_of_pos_right _ (by decide)
        rcases (show Nat.gcd d 2 = 1 ∨ Nat.gcd d 2 = 2 by omega) with h7 | h7
        · exact h7
        · rw [h7] at h4; omega
      rw [Nat.pow_succ] at h
      obtain ⟨t, h3, h4⟩ := two_dvd18 (hc.dvd_of_dvd_mul_right h)
      exact ⟨t, by omega, h4⟩
theorem pow_bit18 {t j : Nat} (h : j ≤ t) : (2 ^ t / 2 ^ j % 2 = 1) ↔ j = t := by
  have e : 2 ^ t / 2 ^ j = 2 ^ (t - j) := by
    rw [show 2 ^ t = 2 ^ (t - j) * 2 ^ j by rw [← Nat.pow_add]; congr 1; omega]
    exact Nat.mul_div_cancel _ (Nat.pow_pos (by decide))
  rw [e]
  constructor
  · intro h1
    by_cases h2 : j = t
    · exact h2
    · rw [show t - j = t - j - 1 + 1 by omega, Nat.pow_succ] at h1; omega
  · intro h1
    rw [h1, Nat.sub_self]
theorem RBits18_does {G : Gl} {t : Nat} (ht : t ≤ 8000000) : Does Tryz.prog G 72 [Wd (nat (2 ^ t))] (.t [.c (.i .i64 t), .c (.i .i64 1)]) := by
  have hb : bl (2 ^ t) = t + 1 := by have := bl_mul_pow 1 t (by decide); rw [Nat.one_mul] at this; rw [this]; rfl
  have hl := len_bl (Nat.le_of_eq hb)
  have h1 := @RLen_does G (nat (2 ^ t)) (by omega) (nat_ws _)
  rw [val_nat, hb] at h1
  have h2 := fun j (hj : j < 100000000) => @RBit_does G (nat (2 ^ t)) (by omega) (nat_ws _) (j : Nat) (by constructor <;> omega)
  rw [val_nat] at h2
  have hp := fun j (hj : j ≤ t) => @pow_bit18 t j hj
  generalize 2 ^ t = P at *
  refine Does.of (nt := 22) Tryz.func72 rfl rfl rfl (by simp) ?_
  simp only [argTm, PV.ext, Ce.ext]
  refine Do.seqk fun _ k1_ => ?_
  refine Do.region [0] true ?_
  simp [go_sem]
  apply k1_; clear k1_
  refine Do.seqk fun _ k2_ => ?_
  refine Do.region [0,4,5] true ?_
  simp [go_sem]
  apply k2_; clear k2_
  refine Do.seqk fun _ k3_ => ?_
  refine Do.seqk fun _ k4_ => ?_
  refine Do.region [0,4,5,6] true ?_
  simp [go_sem]
  refine DoL.call true 202 rfl rfl rfl rfl (by first | exact trivial | omega | (simp; done) | (simp; omega)) (h1) rfl (by first | exact .inl rfl | exact .inr rfl) rfl ?_
  simp [go_sem]
  repeat (refine And.intro (by first | omega | (intros; omega) | (intros; exact And.intro (by assumption) (by omega)) | grind) ?_)
  apply k4_; clear k4_
  refine Do.block ?_
  refine Do.loopF [0,4,5,6] (fun (s : Nat) => [(4, .int .i64 (if s ≤ t then (t : Int) else 0)), (5, .int .i64 (if s ≤ t then 1 else 0)), (6, .int .i64 ((s : Int) - 1))]) (fun (s : Nat) => []) (fun (s : Nat) => s ≤ t + 1) (fun (s : Nat) => s) ((t + 1)) (fun _ => by first | (simp [go_sem, mixS]; done) | (simp [go_sem, mixS]; rfl)) (St.le_of (by simp [keep, show ¬ t + 1 ≤ t by omega]) (by simp [keep])) (Nat.le_refl _) ?_
  intro s hs
  refine Do.seqk fun _ k5_ => ?_
  refine Do.seqk fun _ k6_ => ?_
  refine Do.region [0,4,5,6,11] true ?_
  simp [go_sem]
  apply k6_; clear k6_
  refine Do.cond [0,4,5,6] rfl (fun g => ?_) (fun g => ?_) <;> simp [go_sem] at g ⊢
  · obtain ⟨j, rfl⟩ : ∃ j, s = j + 1 := ⟨s - 1, by omega⟩
    have hj := h2 j (by omega)
    have hpj := hp j (by omega)
    refine Do.skip ?_
    simp [go_sem]
    apply k5_; clear k5_
    refine Do.seqk fun _ k7_ => ?_
    refine Do.block ?_
    refine Do.seqk fun _ k8_ => ?_
    refine Do.region [0,4,5,6,16] true ?_
    simp [go_sem, show ((j : Int) + 1 - 1) = j by omega]
    refine DoL.call true 503 rfl rfl rfl rfl (by first | exact trivial | omega | (simp; done) | (simp; omega)) (hj) rfl (by first | exact .inl rfl | exact .inr rfl) rfl ?_
    simp [go_sem, show ((j : Int) + 1 - 1) = j by omega]
    apply k8_; clear k8_
    refine Do.cond [0,4,5,6] rfl (fun g2 => ?_) (fun g2 => ?_) <;> simp [go_sem, show ((j : Int) + 1 - 1) = j by omega] at g2 ⊢
    · obtain rfl : j = t := hpj.1 (by simpa using g2)
      refine Do.seqk fun _ k9_ => ?_
      refine Do.region [0,4,5,6] true ?_
      simp [go_sem, show ((j : Int) + 1 - 1) = j by omega, show ¬ (j + 1 ≤ j) by omega]
      apply k9_; clear k9_
      refine Do.region [0,4,5,6] true ?_
      simp [go_sem, show ((j : Int) + 1 - 1) = j by omega, show ¬ (j + 1 ≤ j) by omega]
      repeat (refine And.intro (by first | omega | (intros; omega) | (intros; exact And.intro (by assumption) (by omega)) | grind) ?_)
      apply k7_; clear k7_
      refine Do.region [0,4,5,6] true ?_
      simp [go_sem, show ((j : Int) + 1 - 1) = j by omega, show ¬ (j + 1 ≤ j) by omega]
      repeat (refine And.intro (by first | omega | (intros; omega) | (intros; exact And.intro (by assumption) (by omega)) | grind) ?_)
      refine ⟨j, St.le_of (by simp [keep]) (by simp [keep]), by omega, by simp⟩
    · have hne : j ≠ t := fun h => by have := hpj.2 h; omega
      have hj1 : j + 1 ≤ t := by omega
      have hj2 : j ≤ t := by omega
      refine Do.skip ?_
      simp [go_sem]
      apply k7_; clear k7_
      refine Do.region [0,4,5,6] true ?_
      simp [go_sem, show ((j : Int) + 1 - 1) = j by omega, hj1, hj2]
      repeat (refine And.intro (by first | omega | (intros; omega) | (intros; exact And.intro (by assumption) (by omega)) | grind) ?_)
      refine ⟨j, St.le_of (by simp [keep, hj1, hj2]) (by simp [keep]), by omega, by simp⟩
  · obtain rfl : s = 0 := by omega
    refine Do.exit ?_
    simp [go_sem]
    apply k3_; clear k3_
    refine Do.seqk fun _ k10_ => ?_
    refine Do.region [2,3] true ?_
    simp [go_sem]
    apply k10_; clear k10_
    refine Do.ret ?_
    simp [endQ, rets, ret1, go_sem]
    repeat (refine And.intro (by first | omega | (intros; omega) | (intros; exact And.intro (by assumption) (by omega)) | grind) ?_)
    exact TLe.refl _
/-- A rational number as the float that it is. -/
theorem of_rest18 {K : Nat} {z w : Int} {t : Nat} (h : Dq K z (2 ^ t) w) (ht : t ≤ K) : restP (-(t : Int)) z = restP (-(K : Int)) w := by
  have e : w = z * 2 ^ (-(t : Int) - -(K : Int)).toNat := by
    have h1 := h.eq
    rw [show K = (K - t) + t by omega, Nat.pow_add, Int.natCast_mul, ← Int.mul_assoc] at h1
    have h2 := Int.eq_of_mul_eq_mul_right (pow_ne t) h1
    rw [← h2, show (-(t : Int) - -(K : Int)).toNat = K - t by omega]
    simp
  rw [e, restP_low (by omega)]
theorem ROf18_does {G : Gl} {K : Nat} {z w : Int} {d : Nat} (h : Dq K z d w) (hK : K ≤ 1000000) (hb : bl w.natAbs ≤ 1000000) : Does Tryz.prog G 31 [Qv z d] (.t [(restP (-(K : Int)) w).pw, .c (.b true)]) := by
  obtain ⟨s1, s2, s3⟩ := h.small
  have hN := @QNorm G z d (by omega) (by omega) h.pos
  have h2 := Dq.norm h.eq h.pos
  generalize nz z d = z' at *
  generalize nd z d = d' at *
  clear h s1 s2 s3
  obtain ⟨s1, s2, s3⟩ := h2.small
  have hS := @QSign G K z' w d' h2 (by omega)
  rw [← h2.sign] at hS
  have hdv : d' ∣ 2 ^ K := by
    have e := congrArg Int.natAbs h2.eq
    rw [Int.natAbs_mul, Int.natAbs_mul, Int.natAbs_natCast, Int.natAbs_natCast] at e
    have hc : Nat.Coprime d' z'.natAbs := by rw [Nat.coprime_iff_gcd_eq_one, Nat.gcd_comm]; exact h2.cop
    exact hc.dvd_of_dvd_mul_left ⟨w.natAbs, by rw [e, Nat.mul_comm]⟩
  obtain ⟨t, ht, rfl⟩ := two_dvd18 hdv
  rw [← of_rest18 h2 ht]
  have hB := @RBits18_does G t (by omega)
  unfold restP
  by_cases h0 : z' = 0
  · rw [if_pos h0]
    have hs : (z'.sign == 0) = true := by rw [h0]; rfl
    generalize z'.sign = sg at *
    refine Does.of (nt := 37) Tryz.func31 rfl rfl rfl (by simp) ?_
    simp only [argTm, PV.ext, Ce.ext]
    refine Do.seqk fun _ k1_ => ?_
    refine Do.region [1,2] true ?_
    simp [go_sem]
    apply k1_; clear k1_
    refine Do.seqk fun _ k2_ => ?_
    refine Do.region [1,2] true ?_
    simp [go_sem]
    repeat (refine And.intro (by first | omega | (intros; omega) | (intros; exact And.intro (by assumption) (by omega)) | grind) ?_)
    refine DoL.call true 102 rfl rfl rfl rfl (by first | exact trivial | omega | (simp; done) | (simp; omega)) (hN) rfl (by first | exact .inl rfl | exact .inr rfl) rfl ?_
    simp [go_sem]
    repeat (refine And.intro (by first | omega | (intros; omega) | (intros; exact And.intro (by assumption) (by omega)) | grind) ?_)
    apply k2_; clear k2_
    refine Do.seqk fun _ k3_ => ?_
    refine Do.seqk fun _ k4_ => ?_
    refine Do.region [1,2,11] true ?_
    simp [go_sem]
    repeat (refine And.intro (by first | omega | (intros; omega) | (intros; exact And.intro (by assumption) (by omega)) | grind) ?_)
    refine DoL.call true 202 rfl rfl rfl rfl (by first | exact trivial | omega | (simp; done) | (simp; omega)) (hS) rfl (by first | exact .inl rfl | exact .inr rfl) rfl ?_
    simp [go_sem]
    apply k4_; clear k4_
    refine Do.cond [1,2] rfl (fun g => ?_) (fun g => ?_) <;> simp [go_sem, hs] at g ⊢
    refine Do.seqk fun _ k5_ => ?_
    refine Do.region [2,3] true ?_
    simp [go_sem, hs]
    repeat (refine And.intro (by first | omega | (intros; omega) | (intros; exact And.intro (by assumption) (by omega)) | grind) ?_)
    apply k5_; clear k5_
    refine Do.ret ?_
    simp [endQ, rets, ret1, go_sem, hs]
    repeat (refine And.intro (by first | omega | (intros; omega) | (intros; exact And.intro (by assumption) (by omega)) | grind) ?_)
    exact TLe.t (.cons (PLe.flw (ret_zw rfl)) (.cons (PLe.refl _) .nil))
  · rw [if_neg h0]
    have hs : (z'.sign == 0) = false := by
      rw [beq_eq_false_iff_ne, ne_eq, Int.sign_eq_zero_iff_zero]; exact h0
    have hl := len_bl (show bl z'.natAbs ≤ 1000000 by omega)
    have htz := tz_lt_bl (show 0 < z'.natAbs by omega)
    have hcan : (canon ⟨1, decide (z' < 0), -(t : Int), z'.natAbs⟩).2 = true := by
      unfold canon
      rw [if_neg (by simp only []; omega), if_neg (by simp only []; omega), if_pos rfl, if_neg (by simp only []; omega)]
      simp only [decide_eq_true_eq]
      omega
    have hG := @Good_does G 1 (-(t : Int)) (decide (z' < 0)) (nat z'.natAbs) (by omega) (nat_ws _)
    rw [val_nat, hcan] at hG
    have hC := @Canonical_new G 1 (-(t : Int)) (decide (z' < 0)) (nat z'.natAbs) (by omega) (nat_ws _) (by constructor <;> omega)
    rw [val_nat] at hC
    generalize rcanon ⟨1, decide (z' < 0), -(t : Int), z'.natAbs⟩ = y at *
    generalize z'.sign = sg at *
    refine Does.of (nt := 37) Tryz.func31 rfl rfl rfl (by simp) ?_
    simp only [argTm, PV.ext, Ce.ext]
    refine Do.seqk fun _ k1_ => ?_
    refine Do.region [1,2] true ?_
    simp [go_sem]
    apply k1_; clear k1_
    refine Do.seqk fun _ k2_ => ?_
    refine Do.region [1,2] true ?_
    simp [go_sem]
    repeat (refine And.intro (by first | omega | (intros; omega) | (intros; exact And.intro (by assumption) (by omega)) | grind) ?_)
    refine DoL.call true 102 rfl rfl rfl rfl (by first | exact trivial | omega | (simp; done) | (simp; omega)) (hN) rfl (by first | exact .inl rfl | exact .inr rfl) rfl ?_
    simp [go_sem]
    repeat (refine And.intro (by first | omega | (intros; omega) | (intros; exact And.intro (by assumption) (by omega)) | grind) ?_)
    apply k2_; clear k2_
    refine Do.seqk fun _ k3_ => ?_
    refine Do.seqk fun _ k4_ => ?_
    refine Do.region [1,2,11] true ?_
    simp [go_sem]
    repeat (refine And.intro (by first | omega | (intros; omega) | (intros; exact And.intro (by assumption) (by omega)) | grind) ?_)
    refine DoL.call true 202 rfl rfl rfl rfl (by first | exact trivial | omega | (simp; done) | (simp; omega)) (hS) rfl (by first | exact .inl rfl | exact .inr rfl) rfl ?_
    simp [go_sem]
    apply k4_; clear k4_
    refine Do.cond [1,2] rfl (fun g => ?_) (fun g => ?_) <;> simp [go_sem, hs] at g ⊢
    refine Do.skip ?_
    simp [go_sem]
    apply k3_; clear k3_
    refine Do.seqk fun _ k5_ => ?_
    refine Do.region [1,2,4,5] true ?_
    simp [go_sem, hs]
    repeat (refine And.intro (by first | omega | (intros; omega) | (intros; exact And.intro (by assumption) (by omega)) | grind) ?_)
    refine DoL.call true 403 rfl rfl rfl rfl (by first | exact trivial | omega | (simp; done) | (simp; omega)) (hB) rfl (by first | exact .inl rfl | exact .inr rfl) rfl ?_
    simp [go_sem, hs]
    apply k5_; clear k5_
    refine Do.seqk fun _ k6_ => ?_
    refine Do.seqk fun _ k7_ => ?_
    refine Do.region [1,2,4,20] true ?_
    simp [go_sem, hs]
    apply k7_; clear k7_
    refine Do.cond [1,2,4] rfl (fun g2 => ?_) (fun g2 => ?_) <;> simp [go_sem, hs] at g2 ⊢
    refine Do.skip ?_
    simp [go_sem]
    apply k6_; clear k6_
    refine Do.seqk fun _ k8_ => ?_
    refine Do.region [2,6] true ?_
    simp [go_sem, hs]
    repeat (refine And.intro (by first | omega | (intros; omega) | (intros; exact And.intro (by assumption) (by omega)) | grind) ?_)
    apply k8_; clear k8_
    refine Do.seqk fun _ k9_ => ?_
    refine Do.seqk fun _ k10_ => ?_
    refine Do.region [2,6,33] true ?_
    simp [go_sem, hs]
    repeat (refine And.intro (by first | omega | (intros; omega) | (intros; exact And.intro (by assumption) (by omega)) | grind) ?_)
    refine DoL.call true 802 rfl rfl rfl rfl (by first | exact trivial | omega | (simp; done) | (simp; omega)) (hG) rfl (by first | exact .inl rfl | exact .inr rfl) rfl ?_
    simp [go_sem, hs]
    repeat (refine And.intro (by first | omega | (intros; omega) | (intros; exact And.intro (by assumption) (by omega)) | grind) ?_)
    apply k10_; clear k10_
    refine Do.cond [2,6] rfl (fun g3 => ?_) (fun g3 => ?_) <;> simp [go_sem, hs] at g3 ⊢
    refine Do.skip ?_
    simp [go_sem]
    apply k9_; clear k9_
    refine Do.seqk fun _ k11_ => ?_
    refine Do.region [2,3] true ?_
    simp [go_sem, hs]
    repeat (refine And.intro (by first | omega | (intros; omega) | (intros; exact And.intro (by assumption) (by omega)) | grind) ?_)
    refine DoL.call true 1002 rfl rfl rfl rfl (by first | exact trivial | omega | (simp; done) | (simp; omega)) (hC) rfl (by first | exact .inl rfl | exact .inr rfl) rfl ?_
    simp [go_sem, hs]
    repeat (refine And.intro (by first | omega | (intros; omega) | (intros; exact And.intro (by assumption) (by omega)) | grind) ?_)
    apply k11_; clear k11_
    refine Do.ret ?_
    simp [endQ, rets, ret1, go_sem, hs]
    repeat (refine And.intro (by first | omega | (intros; omega) | (intros; exact And.intro (by assumption) (by omega)) | grind) ?_)
    exact TLe.refl _
theorem Dq.down {K J : Nat} {z w : Int} {d : Nat} (h : Dq (K + J) z d (w * ((2 ^ J : Nat) : Int))) : Dq K z d w := by
  refine ⟨?_, h.pos, h.cop⟩
  have e := h.eq
  rw [Nat.pow_add, Int.natCast_mul, ← Int.mul_assoc] at e
  have e2 : z * ((2 ^ K : Nat) : Int) * ((2 ^ J : Nat) : Int) = w * (d : Int) * ((2 ^ J : Nat) : Int) := by rw [e]; ac_rfl
  exact Int.eq_of_mul_eq_mul_right (pow_ne J) e2
end Go.Proofs.YthpkhmbjmnhmoaaGreatDoor
/- What is left of a product, plain. No condition. -/
namespace Go.Proofs.YthpkhmbjmnhmoaaGreatDoor
set_option linter.unusedVariables false
set_option linter.unusedSimpArgs false
set_option maxHeartbeats 8000000
set_option maxRecDepth 10000
theorem mulP_lt {a b p : Nat} (ha : a < 2 ^ p) (hb : b < 2 ^ p) : a * b < 2 ^ (p + p) := by
  rw [Nat.pow_add]; exact Nat.mul_lt_mul'' ha hb
/-- A rounded product and what it drops: the rest is of the format, where the product is a multiple of the least float. -/
theorem prod_rest {f p : Int} (hf : fmOk f p = true) {n : Bool} {V0 : Nat} {E : Int} (hV : 0 < V0) (hb : V0 < 2 ^ (p.toNat + p.toNat)) (hE : tiny f p ≤ E) (hk : (roundP f p 0 n V0 E false).1.k = 1) : ∃ d k, OfF f p Z0 (sgn n (V0 * 2 ^ (E - Z0).toNat) - fv Z0 (roundP f p 0 n V0 E false).1) d k := by
  obtain ⟨b1, b2, b3, b4⟩ := fmOk_spec hf
  obtain ⟨b5, b6⟩ := gOfE_le b1 b2
  have htd : tiny f p = 1 - gOfE f - (p - 1) := rfl
  have hz0 : Z0 ≤ 1 - gOfE f - (p - 1) := by unfold Z0; omega
  obtain ⟨c, hc⟩ : ∃ c : Nat, E = Z0 + c := ⟨(E - Z0).toNat, by omega⟩
  have hsc := @roundP_scale f p 0 n V0 c E hV
  rw [show E - (c : Int) = Z0 by omega] at hsc
  rw [← hsc] at hk ⊢
  have hpc : 0 < 2 ^ c := Nat.pow_pos (by decide)
  have hVp : 0 < V0 * 2 ^ c := Nat.mul_pos hV hpc
  have ht := round_top hf hk
  obtain ⟨q, j, g1, g2, g3, g4, g5⟩ := roundP_near hf hz0 hVp (by rw [hk]; decide)
  rw [g5] at hk ht ⊢
  rw [mkP_fv, show (E - Z0).toNat = c by omega]
  have hq : q ≠ 0 := fun h => by
    unfold mkP at hk
    rw [if_pos h] at hk
    cases hk
  have htop : Z0 + (j : Int) + bl q ≤ gOfE f + 1 := by
    unfold mkP at ht
    rw [if_neg hq] at ht
    simp only [bl_div] at ht
    have := tz_lt_bl (Nat.pos_of_ne_zero hq)
    omega
  have hqb := bl_pos (Nat.pos_of_ne_zero hq)
  have hD : ∀ X Y : Nat, sgn n X - sgn n Y = if n then (Y : Int) - X else (X : Int) - Y := fun X Y => by unfold sgn; split <;> omega
  rw [hD]
  by_cases hj : j ≤ c
  · have e1 : V0 * 2 ^ c = V0 * 2 ^ (c - j) * 2 ^ j := by rw [Nat.mul_assoc, ← Nat.pow_add]; congr 2; omega
    rw [e1] at g3 g4 ⊢
    have hpj : 0 < 2 ^ j := Nat.pow_pos (by decide)
    have h1 : V0 * 2 ^ (c - j) = q := by
      generalize V0 * 2 ^ (c - j) = A at *
      generalize 2 ^ j = P at *
      apply Nat.le_antisymm
      · apply Nat.le_of_not_lt
        intro h
        have h2 : (q + 1) * P ≤ A * P := Nat.mul_le_mul_right _ h
        rw [Nat.add_mul, Nat.one_mul] at h2
        omega
      · apply Nat.le_of_not_lt
        intro h
        have h2 : (A + 1) * P ≤ q * P := Nat.mul_le_mul_right _ h
        rw [Nat.add_mul, Nat.one_mul] at h2
        omega
    rw [h1]
    exact ⟨0, tiny f p, ⟨Int.le_refl _, by rw [bl_zero]; omega, by rw [bl_zero]; omega, by rw [Nat.zero_mul]; split <;> omega⟩⟩
  · obtain ⟨g, hg⟩ : ∃ g, j = c + g := ⟨j - c, by omega⟩
    have hg0 : 1 ≤ g := by omega
    have e1 : q * 2 ^ j = q * 2 ^ g * 2 ^ c := by rw [hg, Nat.pow_add, Nat.mul_assoc, Nat.mul_comm (2 ^ g)]
    have e2 : 2 ^ j = 2 ^ g * 2 ^ c := by rw [hg, Nat.pow_add, Nat.mul_comm]
    have hgp : g ≤ p.toNat := by
      rcases g2 with h | h
      · omega
      · rw [e2, ← Nat.mul_assoc, ← Nat.pow_add] at h
        have h3 := Nat.le_of_mul_le_mul_right h hpc
        have h4 : 2 ^ (p.toNat - 1 + g) < 2 ^ (p.toNat + p.toNat) := Nat.lt_of_le_of_lt h3 hb
        have h5 := (Nat.pow_lt_pow_iff_right (show 1 < 2 by decide)).1 h4
        omega
    have k3 : 2 * V0 ≤ 2 * (q * 2 ^ g) + 2 ^ g := by
      rw [e1, e2] at g3
      have : (2 * V0) * 2 ^ c ≤ (2 * (q * 2 ^ g) + 2 ^ g) * 2 ^ c := by
        rw [Nat.add_mul, Nat.mul_assoc, Nat.mul_assoc 2 (q * 2 ^ g)]; exact g3
      exact Nat.le_of_mul_le_mul_right this hpc
    have k4 : 2 * (q * 2 ^ g) ≤ 2 * V0 + 2 ^ g := by
      rw [e1, e2] at g4
      have : (2 * (q * 2 ^ g)) * 2 ^ c ≤ (2 * V0 + 2 ^ g) * 2 ^ c := by
        rw [Nat.add_mul, Nat.mul_assoc, Nat.mul_assoc 2 V0]; exact g4
      exact Nat.le_of_mul_le_mul_right this hpc
    rw [e1]
    generalize hQ : q * 2 ^ g = Q at *
    have hd : ∃ d : Nat, (if n then ((Q * 2 ^ c : Nat) : Int) - (V0 * 2 ^ c : Nat) else ((V0 * 2 ^ c : Nat) : Int) - (Q * 2 ^ c : Nat)).natAbs = d * 2 ^ c ∧ 2 * d ≤ 2 ^ g := by
      refine ⟨((V0 : Int) - Q).natAbs, ?_, by omega⟩
      have e3 : (if n then ((Q * 2 ^ c : Nat) : Int) - (V0 * 2 ^ c : Nat) else ((V0 * 2 ^ c : Nat) : Int) - (Q * 2 ^ c : Nat)).natAbs = (((V0 : Int) - Q) * ((2 ^ c : Nat) : Int)).natAbs := by
        rw [Int.sub_mul, ← Int.natCast_mul, ← Int.natCast_mul]
        split <;> omega
      rw [e3, Int.natAbs_mul, Int.natAbs_natCast]
    obtain ⟨d, d1, d2⟩ := hd
    have hbd : bl d ≤ g := by
      rw [bl_lt]
      have := Nat.pow_pos (n := g) (show 0 < 2 by decide)
      omega
    exact ⟨d, E, ⟨hE, by omega, by omega, by rw [d1, show (E - Z0).toNat = c by omega]⟩⟩
theorem fv_sgn {a : Flt} (hk : a.k = 1) (z : Int) : fv z a = sgn a.n (a.v * 2 ^ (a.e - z).toNat) := by
  unfold fv
  rw [if_pos hk]
  rfl
theorem sgn_times (m n : Bool) (u v : Nat) : sgn m u * sgn n v = sgn (!m == n) (u * v) := by
  cases m <;> cases n <;> simp [sgn, Int.natCast_mul, Int.neg_mul, Int.mul_neg]
/-- The exact product of two floats over a low exponent. -/
theorem prod_fv {a b : Flt} (ha : a.k = 1) (hb : b.k = 1) {K : Nat} (h1 : -(K : Int) ≤ a.e) (h2 : -(K : Int) ≤ b.e) : fv (-K) a * fv (-K) b = sgn (!a.n == b.n) (a.v * b.v * 2 ^ (a.e + b.e + (K + K : Nat)).toNat) := by
  rw [fv_sgn ha, fv_sgn hb, sgn_times]
  congr 1
  rw [show (a.e + b.e + ((K + K : Nat) : Int)).toNat = (a.e - -(K : Int)).toNat + (b.e - -(K : Int)).toNat by omega, Nat.pow_add]
  ac_rfl
theorem tz_prod {u v m : Nat} (hu : u % 2 = 1) (hv : v % 2 = 1) : tz (u * v * 2 ^ m) = m := by
  have h : u * v % 2 = 1 := by rw [Nat.mul_mod, hu, hv]
  have := tz_odd m (u * v / 2)
  rw [show 2 * (u * v / 2) + 1 = u * v by omega, Nat.mul_comm] at this
  exact this
theorem canon_odd {a : Flt} (hf : rcanon a = a) (hk : a.k = 1) (hv : a.v ≠ 0) : a.v % 2 = 1 := by
  have h1 := congrArg Flt.v hf
  unfold rcanon at h1
  rw [if_pos hk] at h1
  simp only [] at h1
  have h2 := tz_half (Nat.pos_of_ne_zero hv)
  rw [h1] at h2
  exact h2
end Go.Proofs.YthpkhmbjmnhmoaaGreatDoor
/- The law ProductHalves. No condition. -/
namespace Go.Proofs.YthpkhmbjmnhmoaaGreatDoor
set_option linter.unusedVariables false
set_option linter.unusedSimpArgs false
set_option maxHeartbeats 8000000
set_option maxRecDepth 10000
theorem held_fin18 {f p : Int} {x : Flt} (h : (holdsP f p x).2 = true) (hk : (holdsP f p x).1.k = 1) : (bl (holdsP f p x).1.v : Int) ≤ p ∧ 1 - gOfE f - (p - 1) ≤ (holdsP f p x).1.e ∧ (holdsP f p x).1.e + bl (holdsP f p x).1.v ≤ gOfE f + 1 := by
  unfold holdsP at *
  split at h
  · rename_i hc
    rw [if_pos hc] at hk
    rcases hc with hc | hc
    · rw [h] at hc; cases hc
    · exact absurd hk hc
  · rename_i hc
    rw [if_neg hc]
    simp only [Bool.and_eq_true, decide_eq_true_eq] at h
    simp only []
    omega
theorem FRat_low {G : Gl} {x : Fla} (hx : Rt x) {a : Flt} (ha : rcanon x.flt = a) {K J : Nat} (hKJ : K + J = 1048576) (hl : a.k = 1 → -(K : Int) ≤ a.e) : ∃ z d, Does Tryz.prog G 24 [Fl x.k x.n x.e x.m] (.v (Qv z d)) ∧ Dq K z d (fv (-K) a) := by
  obtain ⟨z, d, h1, h2⟩ := @FRat G x hx (K + J) (by omega) (fun hk => by have := (canon_one hx.can hk).1; have h3 : x.flt.e = x.e := rfl; omega)
  refine ⟨z, d, h1, ?_⟩
  have e1 : fv (-((K + J : Nat) : Int)) x.flt = fv (-((K + J : Nat) : Int)) a := by
    rw [← ha]; exact (@fv_rcan x.flt (-((K + J : Nat) : Int)) (fun hk => by have := (canon_one hx.can hk).1; omega)).symm
  have e2 := @fv_fine a (-(K : Int)) (K + J) (by omega) hl
  rw [show (-(K : Int) + ((K + J : Nat) : Int)).toNat = J by omega] at e2
  rw [e1, e2] at h2
  exact Dq.down h2
theorem sgn_mul18 (n : Bool) (u v : Nat) : sgn n (u * v) = sgn n u * (v : Int) := by
  unfold sgn
  split
  · rw [Int.neg_mul, Int.natCast_mul]
  · rw [Int.natCast_mul]
theorem exact_up {a b : Flt} (ka : a.k = 1) (kb : b.k = 1) {K J : Nat} (hKJ : K + K + J = 1048576) (h1 : -(K : Int) ≤ a.e) (h2 : -(K : Int) ≤ b.e) {z : Int} {d : Nat} (h : Dq (K + K) z d (fv (-K) a * fv (-K) b)) : Dq 1048576 z d (sgn (!a.n == b.n) (a.v * b.v * 2 ^ (a.e + b.e - Z0).toNat)) := by
  have hu := @Dq.up (K + K) J _ _ _ h
  rw [hKJ, prod_fv ka kb h1 h2, ← sgn_mul18, Nat.mul_assoc, ← Nat.pow_add] at hu
  rw [show (a.e + b.e + ((K + K : Nat) : Int)).toNat + J = (a.e + b.e - Z0).toNat by unfold Z0; omega] at hu
  exact hu
theorem in_of {f p : Int} (hf : fmOk f p = true) {D : Int} (h : ∃ d k, OfF f p Z0 D d k) : inP f p (restP Z0 D) = true := by
  obtain ⟨b1, b2, b3, b4⟩ := fmOk_spec hf
  obtain ⟨b5, b6⟩ := gOfE_le b1 b2
  obtain ⟨d, k, ho⟩ := h
  refine (@inP_flags f p hf Z0 D ⟨decide (D < 0), D.natAbs, Z0⟩ (Int.le_refl _) (sv_abs _ _)).2 ?_
  rw [round_exact hf (by show (-1048576 : Int) ≤ 1 - gOfE f - (p - 1); omega) ho]
theorem rest_in {f p : Int} (hf : fmOk f p = true) {D : Int} (h : inP f p (restP Z0 D) = true) : Fine (restP Z0 D) ∧ (holdsP f p (restP Z0 D)).2 = true := by
  have h1 := (@inP_flags f p hf Z0 D ⟨decide (D < 0), D.natAbs, Z0⟩ (Int.le_refl _) (sv_abs _ _)).1 h
  have h2 : Fine (restP Z0 D) := by
    have e := congrArg Prod.fst h1
    simp only [] at e
    rw [← e]
    unfold Nu.round
    split
    · exact fine_zero
    · exact roundP_fine hf
  exact ⟨h2, by rw [← inP_good h2.can]; exact h⟩
theorem restP_k18 (z D : Int) : (restP z D).k = 0 ∨ (restP z D).k = 1 := by
  unfold restP
  split
  · exact .inl rfl
  · rw [rcanon_k]; exact .inr rfl
theorem Same_same18 {x : Flt} (hx : Fine x) : Does Tryz.prog Gv 33 [x.pv, x.pv] (.v (.c (.b true))) := by
  have h := @Same_does x.k x.n x.e (nat x.v) x.k x.n x.e (nat x.v) hx.sh (nat_ws _) hx.e hx.sh (nat_ws _) hx.e
  rw [val_nat] at h
  have hs : sameP ⟨x.k, x.n, x.e, x.v⟩ ⟨x.k, x.n, x.e, x.v⟩ = true := by
    have h2 : (canon ⟨x.k, x.n, x.e, x.v⟩).2 = true := hx.can
    unfold sameP
    rw [h2]; simp
  rwa [hs] at h
/-- A product of which a factor is no number is none. -/
theorem times_none {a b : Flt} (ka : a.k = 0 ∨ a.k = 1 ∨ a.k = 2 ∨ a.k = 3) (kb : b.k = 0 ∨ b.k = 1 ∨ b.k = 2 ∨ b.k = 3) (h : 1 < a.k ∨ 1 < b.k) (f p : Int) : ¬ ((roundT (timesP a b) f p 0).1.k = 0 ∨ (roundT (timesP a b) f p 0).1.k = 1) := by
  unfold roundT timesP
  by_cases h3 : a.k = 3 ∨ b.k = 3
  · rw [if_pos h3]; simp
  · rw [if_neg h3, if_pos (show a.k = 2 ∨ b.k = 2 by omega)]
    split <;> simp
theorem times_fin {a b : Flt} (ka : a.k = 1) (kb : b.k = 1) : timesP a b = (false, 1, ⟨!a.n == b.n, a.v * b.v, a.e + b.e⟩) := by
  unfold timesP
  rw [if_neg (by omega), if_neg (by omega), if_pos ⟨ka, kb⟩]
theorem times_zero {a b : Flt} (ka : a.k = 0 ∨ a.k = 1) (kb : b.k = 0 ∨ b.k = 1) (h : ¬ (a.k = 1 ∧ b.k = 1)) (f p : Int) : timesP a b = (false, 0, ⟨!a.n == b.n, 0, 0⟩) ∧ (roundT (timesP a b) f p 0).1 = ⟨0, !a.n == b.n, 0, 0⟩ := by
  have e : timesP a b = (false, 0, ⟨!a.n == b.n, 0, 0⟩) := by
    unfold timesP
    rw [if_neg (by omega), if_neg (by omega), if_neg h]
  refine ⟨e, ?_⟩
  rw [e]
  rfl
end Go.Proofs.YthpkhmbjmnhmoaaGreatDoor
/- The law ProductHalves, joined. No condition. -/
namespace Go.Proofs.YthpkhmbjmnhmoaaGreatDoor
set_option linter.unusedVariables false
set_option linter.unusedSimpArgs false
set_option maxHeartbeats 8000000
set_option maxRecDepth 10000
theorem ProductHalves_does {f p : Int} {x y : Fla} (hx : Ws x.m) (ex : I64 x.e) (hy : Ws y.m) (ey : I64 y.e) : Does Tryz.prog Gv 8 [Fm f p, Fl x.k x.n x.e x.m, Fl y.k y.n y.e y.m] (.v (.c (.b true))) := by
  have hS : Does Tryz.prog Gv 10 [.s false [x.cs, y.cs]] (.v (.c (.b (shortP [x, y])))) := Short15_does (l := [x, y]) (by simp)
  cases hs : shortP [x, y] with
  | false =>
    rw [hs] at hS
    refine Does.of (nt := 142) Tryz.func8 rfl rfl rfl (by simp) ?_
    simp only [argTm, PV.ext, Ce.ext]
    refine Do.seqk fun _ k1_ => ?_
    refine Do.region [3,4,5] true ?_
    simp [go_sem]
    apply k1_; clear k1_
    refine Do.seqk fun _ k2_ => ?_
    refine Do.seqk fun _ k3_ => ?_
    refine Do.draw [3,4,5,32] true (by kernel_rfl) ?_
    simp [go_sem]
    repeat (refine And.intro (by first | omega | (intros; omega) | (intros; exact And.intro (by assumption) (by omega)) | kernel_rfl | grind) ?_)
    refine DoLD.call true 104 rfl rfl rfl rfl (by first | exact trivial | omega | (simp; done) | (simp; omega)) (hS) rfl (by first | exact .inl rfl | exact .inr rfl) rfl ?_
    simp [go_sem]
    repeat (refine And.intro (by first | omega | (intros; omega) | (intros; exact And.intro (by assumption) (by omega)) | kernel_rfl | grind) ?_)
    refine DoLD.gOff true 108 rfl rfl (.v (Fm f p)) rfl rfl ?_
    simp [go_sem]
    repeat (refine And.intro (by first | omega | (intros; omega) | (intros; exact And.intro (by assumption) (by omega)) | kernel_rfl | grind) ?_)
    refine DoLD.gOff true 110 rfl rfl (.v (Fl 0 false 0 [])) rfl rfl ?_
    simp [go_sem]
    repeat (refine And.intro (by first | omega | (intros; omega) | (intros; exact And.intro (by assumption) (by omega)) | kernel_rfl | grind) ?_)
    refine DoLD.gOff true 112 rfl rfl (.v (Fl 0 false 0 [])) rfl rfl ?_
    simp [go_sem]
    refine DoLD.gOff true 112 rfl rfl (.v (.s true [x.cs, y.cs])) rfl rfl ?_
    simp [go_sem]
    refine DoLD.gOff true 114 rfl rfl (.int .i64 0) rfl rfl ?_
    simp [go_sem]
    try (refine And.intro (by kernel_rfl) ?_)
    apply k3_; clear k3_
    refine Do.cond [3,4,5] rfl (fun h => ?_) (fun h => ?_) <;> simp [go_sem] at h ⊢
    refine Do.seqk fun _ k4_ => ?_
    refine Do.region [6] true ?_
    simp [go_sem]
    refine DoL.call true 201 rfl rfl rfl rfl (by first | exact trivial | omega | (simp; done) | (simp; omega)) (awake18_does) rfl (by first | exact .inl rfl | exact .inr rfl) rfl ?_
    simp [go_sem]
    apply k4_; clear k4_
    refine Do.ret ?_
    simp [endQ, rets, ret1, go_sem]
    repeat (refine And.intro (by first | omega | (intros; omega) | (intros; exact And.intro (by assumption) (by omega)) | grind) ?_)
    exact TLe.refl _
  | true =>
    rw [hs] at hS
    have hsx : x.m.length ≤ 40 ∧ y.m.length ≤ 40 := by simpa [shortP] using hs
    have ox : x.Ok := ⟨by simp [Sh]; omega, hx, ex⟩
    have oy : y.Ok := ⟨by simp [Sh]; omega, hy, ey⟩
    have ho : ∀ u ∈ [x, y], u.Ok := by simp [ox, oy]
    have hC : Does Tryz.prog Gv 27 [Fm f p, .s false [x.cs, y.cs]] (.int .i64 (argsE f p 0 false [x, y])) := @RCheck_does Gv f p [x, y] (by simp) ho
    by_cases he : argsE f p 0 false [x, y] = 0
    case neg =>
      generalize argsE f p 0 false [x, y] = ae at *
      refine Does.of (nt := 142) Tryz.func8 rfl rfl rfl (by simp) ?_
      simp only [argTm, PV.ext, Ce.ext]
      refine Do.seqk fun _ k1_ => ?_
      refine Do.region [3,4,5] true ?_
      simp [go_sem]
      apply k1_; clear k1_
      refine Do.seqk fun _ k2_ => ?_
      refine Do.seqk fun _ k3_ => ?_
      refine Do.draw [3,4,5,32] true (by kernel_rfl) ?_
      simp [go_sem]
      repeat (refine And.intro (by first | omega | (intros; omega) | (intros; exact And.intro (by assumption) (by omega)) | kernel_rfl | grind) ?_)
      refine DoLD.call true 104 rfl rfl rfl rfl (by first | exact trivial | omega | (simp; done) | (simp; omega)) (hS) rfl (by first | exact .inl rfl | exact .inr rfl) rfl ?_
      simp [go_sem]
      repeat (refine And.intro (by first | omega | (intros; omega) | (intros; exact And.intro (by assumption) (by omega)) | kernel_rfl | grind) ?_)
      refine DoLD.callg true 108 rfl rfl rfl rfl rfl (by simp [go_sem] <;> omega) (fun _ => Fmt_does) rfl (by first | exact .inl rfl | exact .inr rfl) rfl ?_
      simp [go_sem]
      repeat (refine And.intro (by first | omega | (intros; omega) | (intros; exact And.intro (by assumption) (by omega)) | kernel_rfl | grind) ?_)
      refine DoLD.callg true 110 rfl rfl rfl rfl rfl (by simp [go_sem] <;> omega) (fun _ => Their_does) rfl (by first | exact .inl rfl | exact .inr rfl) rfl ?_
      simp [go_sem]
      repeat (refine And.intro (by first | omega | (intros; omega) | (intros; exact And.intro (by assumption) (by omega)) | kernel_rfl | grind) ?_)
      refine DoLD.callg true 112 rfl rfl rfl rfl rfl (by simp [go_sem] <;> omega) (fun _ => Their_does) rfl (by first | exact .inl rfl | exact .inr rfl) rfl ?_
      simp [go_sem]
      refine DoLD.gOn true 112 rfl rfl [26, 28] (by decide) (by simp [go_sem]) rfl (show 0 < 4 ∧ 2 * 4 ≤ 16777216 by decide) (fun _ => rfl) rfl rfl ?_
      simp [go_sem]
      refine DoLD.callg true 114 rfl rfl rfl rfl rfl (by simp [go_sem] <;> omega) (fun _ => hC) rfl (by first | exact .inl rfl | exact .inr rfl) rfl ?_
      simp [go_sem]
      try (refine And.intro (by kernel_rfl) ?_)
      apply k3_; clear k3_
      refine Do.cond [3,4,5] rfl (fun h => ?_) (fun h => ?_) <;> simp [go_sem] at h ⊢
      · refine Do.seqk fun _ k4_ => ?_
        refine Do.region [6] true ?_
        simp [go_sem]
        refine DoL.call true 201 rfl rfl rfl rfl (by first | exact trivial | omega | (simp; done) | (simp; omega)) (awake18_does) rfl (by first | exact .inl rfl | exact .inr rfl) rfl ?_
        simp [go_sem]
        apply k4_; clear k4_
        refine Do.ret ?_
        simp [endQ, rets, ret1, go_sem]
        repeat (refine And.intro (by first | omega | (intros; omega) | (intros; exact And.intro (by assumption) (by omega)) | grind) ?_)
        exact TLe.refl _
      · exact absurd h he
    obtain ⟨h1, h2, h3, h4, h5, h6⟩ := argsE_zero he
    have hrt := held_rt h6 ho h1
    have hhx : (holdsP f p x.flt).2 = true := by simpa using List.all_eq_true.1 h6 x (by simp)
    have hhy : (holdsP f p y.flt).2 = true := by simpa using List.all_eq_true.1 h6 y (by simp)
    have ca := (held_rcanon hhx).1
    have cb := (held_rcanon hhy).1
    have fa := held_fin18 hhx
    have fb := held_fin18 hhy
    have hfa := held_cf hhx
    have hfb := held_cf hhy
    obtain ⟨b1, b2, b3, b4⟩ := fmOk_spec h5
    obtain ⟨b5, b6⟩ := gOfE_le b1 b2
    have htd : tiny f p = 1 - gOfE f - (p - 1) := rfl
    have hP := fun s => @PParts_does f p x y ox oy he _ _ s _ rfl rfl rfl
    have hT := PMul_does (f := f) (p := p) (r := 0) ox oy
    rw [mulP, if_pos he] at hT
    rw [he] at hC
    have hxr := hrt x (by simp)
    have hyr := hrt y (by simp)
    have hxk : (holdsP f p x.flt).1.k = x.k := by rw [← ca, rcanon_k]; rfl
    have hyk : (holdsP f p y.flt).1.k = y.k := by rw [← cb, rcanon_k]; rfl
    obtain ⟨zx, dx, rx1, rx2⟩ := @FRat_low Gv x hxr _ ca 20000 1028576 rfl (fun hk => by have := fa hk; omega)
    obtain ⟨zy, dy, ry1, ry2⟩ := @FRat_low Gv y hyr _ cb 20000 1028576 rfl (fun hk => by have := fb hk; omega)
    generalize (holdsP f p x.flt).1 = a at *
    generalize (holdsP f p y.flt).1 = b at *
    have hP := hP _ rfl
    obtain ⟨sfx, sfn⟩ := @roundT_fine f p 0 h5 (timesP a b) (timesP_k a b)
    have hT : Does Tryz.prog Gv 12 [Fm f p, .c (.i .i64 0), Fl x.k x.n x.e x.m, Fl y.k y.n y.e y.m] (.t [(roundT (timesP a b) f p 0).1.pv, .c (.i .i64 (roundT (timesP a b) f p 0).2), .c (.i .i64 0)]) := hT
    have ka := hfa.k
    have kb := hfb.k
    unfold K4 at ka kb
    by_cases hbig : 1 < x.k ∨ 1 < y.k
    · have hn := times_none ka kb (by omega) f p
      have pP := hP.2 (fun h => hn h.1)
      clear hP
      generalize (roundT (timesP a b) f p 0).1 = s at *
      generalize (roundT (timesP a b) f p 0).2 = fl at *
      refine Does.of (nt := 142) Tryz.func8 rfl rfl rfl (by simp) ?_
      simp only [argTm, PV.ext, Ce.ext]
      refine Do.seqk fun _ k1_ => ?_
      refine Do.region [3,4,5] true ?_
      simp [go_sem]
      apply k1_; clear k1_
      refine Do.seqk fun _ k2_ => ?_
      refine Do.seqk fun _ k3_ => ?_
      refine Do.draw [3,4,5,32] true (by kernel_rfl) ?_
      simp [go_sem]
      repeat (refine And.intro (by first | omega | (intros; omega) | (intros; exact And.intro (by assumption) (by omega)) | kernel_rfl | grind) ?_)
      refine DoLD.call true 104 rfl rfl rfl rfl (by first | exact trivial | omega | (simp; done) | (simp; omega)) (hS) rfl (by first | exact .inl rfl | exact .inr rfl) rfl ?_
      simp [go_sem]
      repeat (refine And.intro (by first | omega | (intros; omega) | (intros; exact And.intro (by assumption) (by omega)) | kernel_rfl | grind) ?_)
      refine DoLD.callg true 108 rfl rfl rfl rfl rfl (by simp [go_sem] <;> omega) (fun _ => Fmt_does) rfl (by first | exact .inl rfl | exact .inr rfl) rfl ?_
      simp [go_sem]
      repeat (refine And.intro (by first | omega | (intros; omega) | (intros; exact And.intro (by assumption) (by omega)) | kernel_rfl | grind) ?_)
      refine DoLD.callg true 110 rfl rfl rfl rfl rfl (by simp [go_sem] <;> omega) (fun _ => Their_does) rfl (by first | exact .inl rfl | exact .inr rfl) rfl ?_
      simp [go_sem]
      repeat (refine And.intro (by first | omega | (intros; omega) | (intros; exact And.intro (by assumption) (by omega)) | kernel_rfl | grind) ?_)
      refine DoLD.callg true 112 rfl rfl rfl rfl rfl (by simp [go_sem] <;> omega) (fun _ => Their_does) rfl (by first | exact .inl rfl | exact .inr rfl) rfl ?_
      simp [go_sem]
      refine DoLD.gOn true 112 rfl rfl [26, 28] (by decide) (by simp [go_sem]) rfl (show 0 < 4 ∧ 2 * 4 ≤ 16777216 by decide) (fun _ => rfl) rfl rfl ?_
      simp [go_sem]
      refine DoLD.callg true 114 rfl rfl rfl rfl rfl (by simp [go_sem] <;> omega) (fun _ => hC) rfl (by first | exact .inl rfl | exact .inr rfl) rfl ?_
      simp [go_sem]
      try (refine And.intro (by kernel_rfl) ?_)
      apply k3_; clear k3_
      refine Do.cond [3,4,5] rfl (fun h => ?_) (fun h => ?_) <;> simp [go_sem] at h ⊢
      refine Do.skip ?_
      simp [go_sem]
      apply k2_; clear k2_
      refine Do.seqk fun _ k4_ => ?_
      refine Do.region [3,4,5,7,8,9] true ?_
      simp [go_sem]
      repeat (refine And.intro (by first | omega | (intros; omega) | (intros; exact And.intro (by assumption) (by omega)) | grind) ?_)
      refine DoL.call true 304 rfl rfl rfl rfl (by first | exact trivial | omega | (simp; done) | (simp; omega)) (pP) rfl (by first | exact .inl rfl | exact .inr rfl) rfl ?_
      simp [go_sem]
      repeat (refine And.intro (by first | omega | (intros; omega) | (intros; exact And.intro (by assumption) (by omega)) | grind) ?_)
      apply k4_; clear k4_
      refine Do.seqk fun _ k5_ => ?_
      refine Do.region [3,4,5,7,8,9,10,12] true ?_
      simp [go_sem]
      repeat (refine And.intro (by first | omega | (intros; omega) | (intros; exact And.intro (by assumption) (by omega)) | grind) ?_)
      refine DoL.call true 404 rfl rfl rfl rfl (by first | exact trivial | omega | (simp; done) | (simp; omega)) (hT) rfl (by first | exact .inl rfl | exact .inr rfl) rfl ?_
      simp [go_sem]
      repeat (refine And.intro (by first | omega | (intros; omega) | (intros; exact And.intro (by assumption) (by omega)) | grind) ?_)
      apply k5_; clear k5_
      refine Do.seqk fun _ k6_ => ?_
      refine Do.seqk fun _ k7_ => ?_
      refine Do.region [3,4,5,7,8,9,10,12,61] true ?_
      simp [go_sem]
      repeat (refine And.intro (by first | omega | (intros; omega) | (intros; exact And.intro (by assumption) (by omega)) | grind) ?_)
      apply k7_; clear k7_
      refine Do.cond [3,4,5,7,8,9,10,12] rfl (fun h => ?_) (fun h => ?_) <;> simp [go_sem] at h ⊢
      · refine Do.seqk fun _ k8_ => ?_
        refine Do.region [6] true ?_
        simp [go_sem]
        refine DoL.callg true 608 rfl rfl rfl rfl rfl (by simp [go_sem] <;> omega) (fun _ => awake18_does) rfl (by first | exact .inl rfl | exact .inr rfl) rfl ?_
        simp [go_sem]
        apply k8_; clear k8_
        refine Do.ret ?_
        simp [endQ, rets, ret1, go_sem]
        repeat (refine And.intro (by first | omega | (intros; omega) | (intros; exact And.intro (by assumption) (by omega)) | grind) ?_)
        exact TLe.refl _
      · omega
    · have ka : a.k = 0 ∨ a.k = 1 := by omega
      have kb : b.k = 0 ∨ b.k = 1 := by omega
      have hba : bl (fv (-(20000 : Nat)) a).natAbs ≤ 60000 := by
        have := @fv_abs (-(20000 : Nat)) a 16384 (by decide) (fun hk => by have := fa hk; omega) (by decide)
        omega
      have hbb : bl (fv (-(20000 : Nat)) b).natAbs ≤ 60000 := by
        have := @fv_abs (-(20000 : Nat)) b 16384 (by decide) (fun hk => by have := fb hk; omega) (by decide)
        omega
      have hbw := bl_mulz (fv (-(20000 : Nat)) a) (fv (-(20000 : Nat)) b)
      obtain ⟨ze, de, M1, M2⟩ := @QMul Gv _ _ _ _ _ _ _ _ rx2 ry2 (by decide) (by decide) (by omega) (by omega)
      by_cases hin : ((roundT (timesP a b) f p 0).1.k = 0 ∨ (roundT (timesP a b) f p 0).1.k = 1) ∧ inP f p (restP Z0 (leftT (timesP a b) (roundT (timesP a b) f p 0).1)) = true
      · obtain ⟨g1, g2⟩ := hin
        have pP := hP.1 g1 g2
        clear hP
        obtain ⟨tfn, th⟩ := rest_in h5 g2
        have tk := restP_k18 Z0 (leftT (timesP a b) (roundT (timesP a b) f p 0).1)
        have hSm := Same_same18 sfn
        have hH := @Holds_flt f p _ h5 tfn th
        obtain ⟨zs, ds, rs1, rs2, rs3⟩ := @FRatK Gv _ sfn.rt
        obtain ⟨zt, dt, rt1, rt2, rt3⟩ := @FRatK Gv _ tfn.rt
        rw [Flt.fla_flt] at rs2 rs3 rt2 rt3
        have hrv := @restP_fv Z0 (leftT (timesP a b) (roundT (timesP a b) f p 0).1) 1048576 (by decide)
        rw [show (Z0 + ((1048576 : Nat) : Int)).toNat = 0 by decide, Nat.pow_zero, Int.natCast_one, Int.mul_one] at hrv
        rw [hrv] at rt2 rt3
        obtain ⟨z3, d3, A1, A2⟩ := @QAdd Gv _ _ _ _ _ _ _ rs2 rt2 (by decide) (by omega) (by omega)
        have hsum : fv (-(1048576 : Nat)) (roundT (timesP a b) f p 0).1 + leftT (timesP a b) (roundT (timesP a b) f p 0).1 = fv Z0 (tFlt (timesP a b)) := by
          unfold leftT
          show fv Z0 (roundT (timesP a b) f p 0).1 + (fv Z0 (tFlt (timesP a b)) - fv Z0 (roundT (timesP a b) f p 0).1) = _
          omega
        rw [hsum] at A2
        have hex : Dq 1048576 ze de (fv Z0 (tFlt (timesP a b))) ∧ bl (fv Z0 (tFlt (timesP a b))).natAbs ≤ 2000000 := by
          by_cases hk2 : a.k = 1 ∧ b.k = 1
          · have la := fa hk2.1
            have lb := fb hk2.2
            have h7 := exact_up hk2.1 hk2.2 (show 20000 + 20000 + 1008576 = 1048576 from rfl) (by omega) (by omega) M2
            rw [times_fin hk2.1 hk2.2]
            have e : fv Z0 (tFlt (false, 1, ⟨!a.n == b.n, a.v * b.v, a.e + b.e⟩)) = sgn (!a.n == b.n) (a.v * b.v * 2 ^ (a.e + b.e - Z0).toNat) := rfl
            rw [e]
            refine ⟨h7, ?_⟩
            rw [sgn_abs]
            have h8 := bl_mulN (a.v * b.v) (2 ^ (a.e + b.e - Z0).toNat)
            have h9 := bl_mulN a.v b.v
            have h10 : bl (2 ^ (a.e + b.e - Z0).toNat) ≤ (a.e + b.e - Z0).toNat + 1 := by rw [bl_lt]; exact Nat.pow_lt_pow_right (by decide) (by omega)
            unfold Z0 at *
            omega
          · obtain ⟨e1, e2⟩ := times_zero ka kb hk2 f p
            rw [e1]
            have e : fv Z0 (tFlt (false, 0, ⟨!a.n == b.n, 0, 0⟩)) = 0 := rfl
            rw [e]
            have hw0 : fv (-(20000 : Nat)) a * fv (-(20000 : Nat)) b = 0 := by
              rcases ka with h | h
              · have : fv (-(20000 : Nat)) a = 0 := by unfold fv; rw [if_neg (by omega)]
                rw [this, Int.zero_mul]
              · have : fv (-(20000 : Nat)) b = 0 := by unfold fv; rw [if_neg (by omega)]
                rw [this, Int.mul_zero]
            rw [hw0] at M2
            have h7 := @Dq.up (20000 + 20000) 1008576 _ _ _ M2
            rw [Int.zero_mul] at h7
            exact ⟨h7, by rw [Int.natAbs_zero, bl_zero]; omega⟩
        have hCmp := @QCmp Gv _ _ _ _ _ _ _ A2 hex.1 (by decide) (by omega) (by omega)
        rw [Int.sub_self] at hCmp
        have hCmp : Does Tryz.prog Gv 35 [Qv z3 d3, Qv ze de] (.int .i64 0) := hCmp
        clear rs2 rs3 rt2 rt3 hrv A2 hsum hex M2 hbw hba hbb rx2 ry2 sfx
        generalize restP Z0 (leftT (timesP a b) (roundT (timesP a b) f p 0).1) = t at *
        generalize (roundT (timesP a b) f p 0).1 = s at *
        generalize (roundT (timesP a b) f p 0).2 = fl at *
        have rs1 : Does Tryz.prog Gv 24 [Fl s.k s.n s.e (nat s.v)] (.v (Qv zs ds)) := rs1
        have rt1 : Does Tryz.prog Gv 24 [Fl t.k t.n t.e (nat t.v)] (.v (Qv zt dt)) := rt1
        have tk2 : (t.k != 2) = true := by simp; omega
        have tk3 : (t.k != 3) = true := by simp; omega
        refine Does.of (nt := 142) Tryz.func8 rfl rfl rfl (by simp) ?_
        simp only [argTm, PV.ext, Ce.ext]
        refine Do.seqk fun _ k1_ => ?_
        refine Do.region [3,4,5] true ?_
        simp [go_sem]
        apply k1_; clear k1_
        refine Do.seqk fun _ k2_ => ?_
        refine Do.seqk fun _ k3_ => ?_
        refine Do.draw [3,4,5,32] true (by kernel_rfl) ?_
        simp [go_sem]
        repeat (refine And.intro (by first | omega | (intros; omega) | (intros; exact And.intro (by assumption) (by omega)) | kernel_rfl | grind) ?_)
        refine DoLD.call true 104 rfl rfl rfl rfl (by first | exact trivial | omega | (simp; done) | (simp; omega)) (hS) rfl (by first | exact .inl rfl | exact .inr rfl) rfl ?_
        simp [go_sem]
        repeat (refine And.intro (by first | omega | (intros; omega) | (intros; exact And.intro (by assumption) (by omega)) | kernel_rfl | grind) ?_)
        refine DoLD.callg true 108 rfl rfl rfl rfl rfl (by simp [go_sem] <;> omega) (fun _ => Fmt_does) rfl (by first | exact .inl rfl | exact .inr rfl) rfl ?_
        simp [go_sem]
        repeat (refine And.intro (by first | omega | (intros; omega) | (intros; exact And.intro (by assumption) (by omega)) | kernel_rfl | grind) ?_)
        refine DoLD.callg true 110 rfl rfl rfl rfl rfl (by simp [go_sem] <;> omega) (fun _ => Their_does) rfl (by first | exact .inl rfl | exact .inr rfl) rfl ?_
        simp [go_sem]
        repeat (refine And.intro (by first | omega | (intros; omega) | (intros; exact And.intro (by assumption) (by omega)) | kernel_rfl | grind) ?_)
        refine DoLD.callg true 112 rfl rfl rfl rfl rfl (by simp [go_sem] <;> omega) (fun _ => Their_does) rfl (by first | exact .inl rfl | exact .inr rfl) rfl ?_
        simp [go_sem]
        refine DoLD.gOn true 112 rfl rfl [26, 28] (by decide) (by simp [go_sem]) rfl (show 0 < 4 ∧ 2 * 4 ≤ 16777216 by decide) (fun _ => rfl) rfl rfl ?_
        simp [go_sem]
        refine DoLD.callg true 114 rfl rfl rfl rfl rfl (by simp [go_sem] <;> omega) (fun _ => hC) rfl (by first | exact .inl rfl | exact .inr rfl) rfl ?_
        simp [go_sem]
        try (refine And.intro (by kernel_rfl) ?_)
        apply k3_; clear k3_
        refine Do.cond [3,4,5] rfl (fun h => ?_) (fun h => ?_) <;> simp [go_sem] at h ⊢
        refine Do.skip ?_
        simp [go_sem]
        apply k2_; clear k2_
        refine Do.seqk fun _ k4_ => ?_
        refine Do.region [3,4,5,7,8,9] true ?_
        simp [go_sem]
        repeat (refine And.intro (by first | omega | (intros; omega) | (intros; exact And.intro (by assumption) (by omega)) | grind) ?_)
        refine DoL.call true 304 rfl rfl rfl rfl (by first | exact trivial | omega | (simp; done) | (simp; omega)) (pP) rfl (by first | exact .inl rfl | exact .inr rfl) rfl ?_
        simp [go_sem]
        repeat (refine And.intro (by first | omega | (intros; omega) | (intros; exact And.intro (by assumption) (by omega)) | grind) ?_)
        apply k4_; clear k4_
        refine Do.seqk fun _ k5_ => ?_
        refine Do.region [3,4,5,7,8,9,10,12] true ?_
        simp [go_sem]
        repeat (refine And.intro (by first | omega | (intros; omega) | (intros; exact And.intro (by assumption) (by omega)) | grind) ?_)
        refine DoL.call true 404 rfl rfl rfl rfl (by first | exact trivial | omega | (simp; done) | (simp; omega)) (hT) rfl (by first | exact .inl rfl | exact .inr rfl) rfl ?_
        simp [go_sem]
        repeat (refine And.intro (by first | omega | (intros; omega) | (intros; exact And.intro (by assumption) (by omega)) | grind) ?_)
        apply k5_; clear k5_
        refine Do.seqk fun _ k6_ => ?_
        refine Do.seqk fun _ k7_ => ?_
        refine Do.region [3,4,5,7,8,9,10,12,61] true ?_
        simp [go_sem]
        repeat (refine And.intro (by first | omega | (intros; omega) | (intros; exact And.intro (by assumption) (by omega)) | grind) ?_)
        apply k7_; clear k7_
        refine Do.cond [3,4,5,7,8,9,10,12] rfl (fun h => ?_) (fun h => ?_) <;> simp [go_sem] at h ⊢
        · omega
        · refine Do.skip ?_
          simp [go_sem]
          apply k6_; clear k6_
          refine Do.seqk fun _ k8_ => ?_
          refine Do.draw [3,7,8,9,10,13] true (by kernel_rfl) ?_
          simp [go_sem]
          repeat (refine And.intro (by first | omega | (intros; omega) | (intros; exact And.intro (by assumption) (by omega)) | kernel_rfl | grind) ?_)
          refine DoLD.call true 702 rfl rfl rfl rfl (by first | exact trivial | omega | (simp; done) | (simp; omega)) (Their_does) rfl (by first | exact .inl rfl | exact .inr rfl) rfl ?_
          simp [go_sem]
          refine DoLD.call true 703 rfl rfl rfl rfl (by first | exact trivial | omega | (simp; done) | (simp; omega)) (rx1) rfl (by first | exact .inl rfl | exact .inr rfl) rfl ?_
          simp [go_sem]
          repeat (refine And.intro (by first | omega | (intros; omega) | (intros; exact And.intro (by assumption) (by omega)) | kernel_rfl | grind) ?_)
          refine DoLD.call true 705 rfl rfl rfl rfl (by first | exact trivial | omega | (simp; done) | (simp; omega)) (Their_does) rfl (by first | exact .inl rfl | exact .inr rfl) rfl ?_
          simp [go_sem]
          refine DoLD.call true 706 rfl rfl rfl rfl (by first | exact trivial | omega | (simp; done) | (simp; omega)) (ry1) rfl (by first | exact .inl rfl | exact .inr rfl) rfl ?_
          simp [go_sem]
          refine DoLD.call true 707 rfl rfl rfl rfl (by first | exact trivial | omega | (simp; done) | (simp; omega)) (M1) rfl (by first | exact .inl rfl | exact .inr rfl) rfl ?_
          simp [go_sem]
          repeat (refine And.intro (by first | omega | (intros; omega) | (intros; exact And.intro (by assumption) (by omega)) | kernel_rfl | grind) ?_)
          try (refine And.intro (by kernel_rfl) ?_)
          apply k8_; clear k8_
          refine Do.seqk fun _ k9_ => ?_
          refine Do.seqk fun _ k10_ => ?_
          refine Do.region [3,7,8,9,10,13,79] true ?_
          simp [go_sem]
          apply k10_; clear k10_
          refine Do.cond [3,7,8,9,10,13] rfl (fun h7 => ?_) (fun h7 => ?_) <;> simp [go_sem] at h7 ⊢
          refine Do.skip ?_
          simp [go_sem]
          apply k9_; clear k9_
          refine Do.seqk fun _ k11_ => ?_
          refine Do.draw [6] true (by kernel_rfl) ?_
          simp [go_sem, tk2, tk3]
          repeat (refine And.intro (by first | omega | (intros; omega) | (intros; exact And.intro (by assumption) (by omega)) | kernel_rfl | grind) ?_)
          refine DoLD.call true 1203 rfl rfl rfl rfl (by first | exact trivial | omega | (simp; done) | (simp; omega)) (hSm) rfl (by first | exact .inl rfl | exact .inr rfl) rfl ?_
          simp [go_sem, tk2, tk3]
          repeat (refine And.intro (by first | omega | (intros; omega) | (intros; exact And.intro (by assumption) (by omega)) | kernel_rfl | grind) ?_)
          refine DoLD.callg true 1207 rfl rfl rfl rfl rfl (by simp [go_sem] <;> omega) (fun _ => hH) rfl (by first | exact .inl rfl | exact .inr rfl) rfl ?_
          simp [go_sem, tk2, tk3]
          repeat (refine And.intro (by first | omega | (intros; omega) | (intros; exact And.intro (by assumption) (by omega)) | kernel_rfl | grind) ?_)
          refine DoLD.callg true 1222 rfl rfl rfl rfl rfl (by simp [go_sem] <;> omega) (fun _ => Their_does) rfl (by first | exact .inl rfl | exact .inr rfl) rfl ?_
          simp [go_sem, tk2, tk3]
          refine DoLD.callg true 1223 rfl rfl rfl rfl rfl (by simp [go_sem] <;> omega) (fun _ => rs1) rfl (by first | exact .inl rfl | exact .inr rfl) rfl ?_
          simp [go_sem, tk2, tk3]
          repeat (refine And.intro (by first | omega | (intros; omega) | (intros; exact And.intro (by assumption) (by omega)) | kernel_rfl | grind) ?_)
          refine DoLD.callg true 1225 rfl rfl rfl rfl rfl (by simp [go_sem] <;> omega) (fun _ => Their_does) rfl (by first | exact .inl rfl | exact .inr rfl) rfl ?_
          simp [go_sem, tk2, tk3]
          refine DoLD.callg true 1226 rfl rfl rfl rfl rfl (by simp [go_sem] <;> omega) (fun _ => rt1) rfl (by first | exact .inl rfl | exact .inr rfl) rfl ?_
          simp [go_sem, tk2, tk3]
          refine DoLD.callg true 1227 rfl rfl rfl rfl rfl (by simp [go_sem] <;> omega) (fun _ => A1) rfl (by first | exact .inl rfl | exact .inr rfl) rfl ?_
          simp [go_sem, tk2, tk3]
          repeat (refine And.intro (by first | omega | (intros; omega) | (intros; exact And.intro (by assumption) (by omega)) | kernel_rfl | grind) ?_)
          refine DoLD.callg true 1229 rfl rfl rfl rfl rfl (by simp [go_sem] <;> omega) (fun _ => hCmp) rfl (by first | exact .inl rfl | exact .inr rfl) rfl ?_
          simp [go_sem, tk2, tk3]
          refine DoLD.callg true 1233 rfl rfl rfl rfl rfl (by simp [go_sem] <;> omega) (fun _ => awake18_does) rfl (by first | exact .inl rfl | exact .inr rfl) rfl ?_
          simp [go_sem, tk2, tk3]
          try (refine And.intro (by kernel_rfl) ?_)
          apply k11_; clear k11_
          refine Do.ret ?_
          simp [endQ, rets, ret1, go_sem, tk2, tk3]
          repeat (refine And.intro (by first | omega | (intros; omega) | (intros; exact And.intro (by assumption) (by omega)) | grind) ?_)
          exact TLe.refl _
      · have pP := hP.2 hin
        have hO := @ROf18_does Gv (20000 + 20000) ze _ de M2 (by decide) (by omega)
        have hTy := @RTiny_does Gv f p h5
        have hfine : ((roundT (timesP a b) f p 0).1.k == 1 && decide (1 - gOfE f - (p - 1) ≤ (restP (-((20000 + 20000 : Nat) : Int)) (fv (-(20000 : Nat)) a * fv (-(20000 : Nat)) b)).e)) = false := by
          cases hk1 : ((roundT (timesP a b) f p 0).1.k == 1) with
          | false => rfl
          | true =>
            simp only [Bool.true_and, decide_eq_false_iff_not]
            intro hle
            have hs1 : (roundT (timesP a b) f p 0).1.k = 1 := by simpa using hk1
            by_cases hk2 : a.k = 1 ∧ b.k = 1
            · have la := fa hk2.1
              have lb := fb hk2.2
              have va := hfa.pos hk2.1
              have vb := hfb.pos hk2.2
              have oa := canon_odd hfa.fix hk2.1 va
              have ob := canon_odd hfb.fix hk2.2 vb
              have hVp : 0 < a.v * b.v := Nat.mul_pos (Nat.pos_of_ne_zero va) (Nat.pos_of_ne_zero vb)
              have hpf := @prod_fv a b hk2.1 hk2.2 20000 (by omega) (by omega)
              have hue : (restP (-((20000 + 20000 : Nat) : Int)) (fv (-(20000 : Nat)) a * fv (-(20000 : Nat)) b)).e = a.e + b.e := by
                rw [hpf]
                have hne : sgn (!a.n == b.n) (a.v * b.v * 2 ^ (a.e + b.e + ((20000 + 20000 : Nat) : Int)).toNat) ≠ 0 := by
                  intro h
                  have h7 := sgn_abs (!a.n == b.n) (a.v * b.v * 2 ^ (a.e + b.e + ((20000 + 20000 : Nat) : Int)).toNat)
                  rw [h] at h7
                  have h8 := Nat.mul_pos hVp (Nat.pow_pos (n := (a.e + b.e + ((20000 + 20000 : Nat) : Int)).toNat) (show 0 < 2 by decide))
                  rw [← h7] at h8
                  exact absurd h8 (by decide)
                unfold restP
                rw [if_neg hne]
                unfold rcanon
                rw [if_pos rfl]
                simp only [sgn_abs]
                rw [tz_prod oa ob]
                omega
              rw [hue] at hle
              have ht := times_fin hk2.1 hk2.2
              have hr : (roundT (timesP a b) f p 0).1 = (roundP f p 0 (!a.n == b.n) (a.v * b.v) (a.e + b.e) false).1 := by
                rw [ht]
                unfold roundT Nu.round
                simp only [Bool.false_eq_true, if_false]
                rw [if_neg (by decide), if_neg (by decide), if_neg (by omega)]
              rw [hr] at hs1
              have hlt : a.v * b.v < 2 ^ (p.toNat + p.toNat) := mulP_lt ((bl_lt _ _).1 (by omega)) ((bl_lt _ _).1 (by omega))
              have hpr := prod_rest h5 hVp hlt (show tiny f p ≤ a.e + b.e from hle) hs1
              have hleft : leftT (timesP a b) (roundT (timesP a b) f p 0).1 = sgn (!a.n == b.n) (a.v * b.v * 2 ^ (a.e + b.e - Z0).toNat) - fv Z0 (roundP f p 0 (!a.n == b.n) (a.v * b.v) (a.e + b.e) false).1 := by
                unfold leftT
                rw [hr, ht]
                rfl
              have := in_of h5 hpr
              rw [← hleft] at this
              exact hin ⟨.inr (by rw [hr]; exact hs1), this⟩
            · obtain ⟨e1, e2⟩ := times_zero ka kb hk2 f p
              rw [e2] at hs1
              cases hs1
        generalize restP (-((20000 + 20000 : Nat) : Int)) (fv (-(20000 : Nat)) a * fv (-(20000 : Nat)) b) = u at *
        generalize (roundT (timesP a b) f p 0).1 = s at *
        generalize (roundT (timesP a b) f p 0).2 = fl at *
        generalize 1 - gOfE f - (p - 1) = tt at *
        refine Does.of (nt := 142) Tryz.func8 rfl rfl rfl (by simp) ?_
        simp only [argTm, PV.ext, Ce.ext]
        refine Do.seqk fun _ k1_ => ?_
        refine Do.region [3,4,5] true ?_
        simp [go_sem]
        apply k1_; clear k1_
        refine Do.seqk fun _ k2_ => ?_
        refine Do.seqk fun _ k3_ => ?_
        refine Do.draw [3,4,5,32] true (by kernel_rfl) ?_
        simp [go_sem]
        repeat (refine And.intro (by first | omega | (intros; omega) | (intros; exact And.intro (by assumption) (by omega)) | kernel_rfl | grind) ?_)
        refine DoLD.call true 104 rfl rfl rfl rfl (by first | exact trivial | omega | (simp; done) | (simp; omega)) (hS) rfl (by first | exact .inl rfl | exact .inr rfl) rfl ?_
        simp [go_sem]
        repeat (refine And.intro (by first | omega | (intros; omega) | (intros; exact And.intro (by assumption) (by omega)) | kernel_rfl | grind) ?_)
        refine DoLD.callg true 108 rfl rfl rfl rfl rfl (by simp [go_sem] <;> omega) (fun _ => Fmt_does) rfl (by first | exact .inl rfl | exact .inr rfl) rfl ?_
        simp [go_sem]
        repeat (refine And.intro (by first | omega | (intros; omega) | (intros; exact And.intro (by assumption) (by omega)) | kernel_rfl | grind) ?_)
        refine DoLD.callg true 110 rfl rfl rfl rfl rfl (by simp [go_sem] <;> omega) (fun _ => Their_does) rfl (by first | exact .inl rfl | exact .inr rfl) rfl ?_
        simp [go_sem]
        repeat (refine And.intro (by first | omega | (intros; omega) | (intros; exact And.intro (by assumption) (by omega)) | kernel_rfl | grind) ?_)
        refine DoLD.callg true 112 rfl rfl rfl rfl rfl (by simp [go_sem] <;> omega) (fun _ => Their_does) rfl (by first | exact .inl rfl | exact .inr rfl) rfl ?_
        simp [go_sem]
        refine DoLD.gOn true 112 rfl rfl [26, 28] (by decide) (by simp [go_sem]) rfl (show 0 < 4 ∧ 2 * 4 ≤ 16777216 by decide) (fun _ => rfl) rfl rfl ?_
        simp [go_sem]
        refine DoLD.callg true 114 rfl rfl rfl rfl rfl (by simp [go_sem] <;> omega) (fun _ => hC) rfl (by first | exact .inl rfl | exact .inr rfl) rfl ?_
        simp [go_sem]
        try (refine And.intro (by kernel_rfl) ?_)
        apply k3_; clear k3_
        refine Do.cond [3,4,5] rfl (fun h => ?_) (fun h => ?_) <;> simp [go_sem] at h ⊢
        refine Do.skip ?_
        simp [go_sem]
        apply k2_; clear k2_
        refine Do.seqk fun _ k4_ => ?_
        refine Do.region [3,4,5,7,8,9] true ?_
        simp [go_sem]
        repeat (refine And.intro (by first | omega | (intros; omega) | (intros; exact And.intro (by assumption) (by omega)) | grind) ?_)
        refine DoL.call true 304 rfl rfl rfl rfl (by first | exact trivial | omega | (simp; done) | (simp; omega)) (pP) rfl (by first | exact .inl rfl | exact .inr rfl) rfl ?_
        simp [go_sem]
        repeat (refine And.intro (by first | omega | (intros; omega) | (intros; exact And.intro (by assumption) (by omega)) | grind) ?_)
        apply k4_; clear k4_
        refine Do.seqk fun _ k5_ => ?_
        refine Do.region [3,4,5,7,8,9,10,12] true ?_
        simp [go_sem]
        repeat (refine And.intro (by first | omega | (intros; omega) | (intros; exact And.intro (by assumption) (by omega)) | grind) ?_)
        refine DoL.call true 404 rfl rfl rfl rfl (by first | exact trivial | omega | (simp; done) | (simp; omega)) (hT) rfl (by first | exact .inl rfl | exact .inr rfl) rfl ?_
        simp [go_sem]
        repeat (refine And.intro (by first | omega | (intros; omega) | (intros; exact And.intro (by assumption) (by omega)) | grind) ?_)
        apply k5_; clear k5_
        refine Do.seqk fun _ k6_ => ?_
        refine Do.seqk fun _ k7_ => ?_
        refine Do.region [3,4,5,7,8,9,10,12,61] true ?_
        simp [go_sem]
        repeat (refine And.intro (by first | omega | (intros; omega) | (intros; exact And.intro (by assumption) (by omega)) | grind) ?_)
        apply k7_; clear k7_
        refine Do.cond [3,4,5,7,8,9,10,12] rfl (fun h => ?_) (fun h => ?_) <;> simp [go_sem] at h ⊢
        · omega
        · refine Do.skip ?_
          simp [go_sem]
          apply k6_; clear k6_
          refine Do.seqk fun _ k8_ => ?_
          refine Do.draw [3,7,8,9,10,13] true (by kernel_rfl) ?_
          simp [go_sem]
          repeat (refine And.intro (by first | omega | (intros; omega) | (intros; exact And.intro (by assumption) (by omega)) | kernel_rfl | grind) ?_)
          refine DoLD.call true 702 rfl rfl rfl rfl (by first | exact trivial | omega | (simp; done) | (simp; omega)) (Their_does) rfl (by first | exact .inl rfl | exact .inr rfl) rfl ?_
          simp [go_sem]
          refine DoLD.call true 703 rfl rfl rfl rfl (by first | exact trivial | omega | (simp; done) | (simp; omega)) (rx1) rfl (by first | exact .inl rfl | exact .inr rfl) rfl ?_
          simp [go_sem]
          repeat (refine And.intro (by first | omega | (intros; omega) | (intros; exact And.intro (by assumption) (by omega)) | kernel_rfl | grind) ?_)
          refine DoLD.call true 705 rfl rfl rfl rfl (by first | exact trivial | omega | (simp; done) | (simp; omega)) (Their_does) rfl (by first | exact .inl rfl | exact .inr rfl) rfl ?_
          simp [go_sem]
          refine DoLD.call true 706 rfl rfl rfl rfl (by first | exact trivial | omega | (simp; done) | (simp; omega)) (ry1) rfl (by first | exact .inl rfl | exact .inr rfl) rfl ?_
          simp [go_sem]
          refine DoLD.call true 707 rfl rfl rfl rfl (by first | exact trivial | omega | (simp; done) | (simp; omega)) (M1) rfl (by first | exact .inl rfl | exact .inr rfl) rfl ?_
          simp [go_sem]
          repeat (refine And.intro (by first | omega | (intros; omega) | (intros; exact And.intro (by assumption) (by omega)) | kernel_rfl | grind) ?_)
          try (refine And.intro (by kernel_rfl) ?_)
          apply k8_; clear k8_
          refine Do.seqk fun _ k9_ => ?_
          refine Do.seqk fun _ k10_ => ?_
          refine Do.region [3,7,8,9,10,13,79] true ?_
          simp [go_sem]
          apply k10_; clear k10_
          refine Do.cond [3,7,8,9,10,13] rfl (fun h7 => ?_) (fun h7 => ?_) <;> simp [go_sem] at h7 ⊢
          refine Do.seqk fun _ k11_ => ?_
          refine Do.region [3,9,10,14,15] true ?_
          simp [go_sem]
          repeat (refine And.intro (by first | omega | (intros; omega) | (intros; exact And.intro (by assumption) (by omega)) | grind) ?_)
          refine DoL.call true 902 rfl rfl rfl rfl (by first | exact trivial | omega | (simp; done) | (simp; omega)) (hO) rfl (by first | exact .inl rfl | exact .inr rfl) rfl ?_
          simp [go_sem]
          repeat (refine And.intro (by first | omega | (intros; omega) | (intros; exact And.intro (by assumption) (by omega)) | grind) ?_)
          apply k11_; clear k11_
          refine Do.seqk fun _ k12_ => ?_
          refine Do.draw [9,16] true (by kernel_rfl) ?_
          simp [go_sem]
          repeat (refine And.intro (by first | omega | (intros; omega) | (intros; exact And.intro (by assumption) (by omega)) | kernel_rfl | grind) ?_)
          refine DoLD.callg true 1011 rfl rfl rfl rfl rfl (by simp [go_sem] <;> omega) (fun _ => Fmt_does) rfl (by first | exact .inl rfl | exact .inr rfl) rfl ?_
          simp [go_sem]
          refine DoLD.callg true 1012 rfl rfl rfl rfl rfl (by simp [go_sem] <;> omega) (fun _ => hTy) rfl (by first | exact .inl rfl | exact .inr rfl) rfl ?_
          simp [go_sem]
          try (refine And.intro (by kernel_rfl) ?_)
          apply k12_; clear k12_
          refine Do.seqk fun _ k13_ => ?_
          refine Do.region [6] true ?_
          simp [go_sem, hfine]
          repeat (refine And.intro (by first | omega | (intros; omega) | (intros; exact And.intro (by assumption) (by omega)) | grind) ?_)
          refine DoL.callg true 1108 rfl rfl rfl rfl rfl (by simp [go_sem] <;> omega) (fun _ => awake18_does) rfl (by first | exact .inl rfl | exact .inr rfl) rfl ?_
          simp [go_sem, hfine]
          apply k13_; clear k13_
          refine Do.ret ?_
          simp [endQ, rets, ret1, go_sem, hfine]
          repeat (refine And.intro (by first | omega | (intros; omega) | (intros; exact And.intro (by assumption) (by omega)) | grind) ?_)
          exact TLe.refl _
end Go.Proofs.YthpkhmbjmnhmoaaGreatDoor
/- The row of ProductHalves. No condition. -/
namespace Go.Proofs.YthpkhmbjmnhmoaaGreatDoor
set_option linter.unusedVariables false
set_option linter.unusedSimpArgs false
open Go.ChangeShapes Go.WideShapes Go.ChangeAt Go.RowKit
set_option maxRecDepth 100000
namespace productHalves
set_option maxRecDepth 100000 in
theorem lifted (os : Os) (started : os.Started) (H : Type) (enc : TypeId × Value → H) :
    ReturnsInHanded {} Tryz.checked os 8 .any (fun w args => (Rows.productHalvesSpec.pre enc Tryz.prog Tryz.f8 [] false w args ∧ laidMetH Tryz.prog laidL w) ∧ sizedMet enc Tryz.prog Tryz.f8 (OpenSpec.ofChange Rows.productHalvesSpec) false w args)
      (Rows.productHalvesSpec.post enc Tryz.prog Tryz.f8 false true false false) := by
  refine returnsInHanded_of_change_and (C := Tryz.checked) (X := fun w _ => laidMetH Tryz.prog laidL w) (fun _ _ _ hh h => h.of_heap hh) own started (by kernel_rfl) Tryz.func8
    (ChangeSpec.witness_shaped (enc := enc) (C := Tryz.checked) (os := os) (X := fun w _ => laidMetH Tryz.prog laidL w) false (World.doorLaid Tryz.prog doorN os) #[.agg #[.int .i64 0, .int .i64 0], .agg #[.int .i64 0, .bool false, .int .i64 0, .slice Option.none 0 0], .agg #[.int .i64 0, .bool false, .int .i64 0, .slice Option.none 0 0]] doorK rfl (World.shaped_of_RefB (by kernel_rfl) (by kernel_rfl)) (by kernel_rfl) (by kernel_rfl) (by kernel_rfl) (door_met os _)) ?_
  intro W base args ds gs before hval0 hW _ _ hL _
  have hval : ∀ (j : Nat) t v, Tryz.f8.params[j]? = some t → args[j]? = some v → Value.okWide Tryz.prog W .any base t v := hval0
  have hW' := hW
  obtain ⟨p, q, hA0, hV, rfl, hfz, hnd⟩ := hW
  have hA : DataW.TrodAll enc Tryz.prog W 0 (fun _ => true) true Tryz.f8.params.toList args.toList ds p := hA0
  rw [Tryz.params8] at hA hval
  obtain ⟨v0, vs0, d0, ds0, p0, q0, hargs, rfl, rfl, h0, r0⟩ := trodAll_cons hA
  obtain ⟨v1, vs1, d1, ds1, p1, q1, rfl, rfl, rfl, h1, r1⟩ := trodAll_cons r0
  obtain ⟨v2, vs2, d2, ds2, p2, q2, rfl, rfl, rfl, h2, r2⟩ := trodAll_cons r1
  obtain ⟨rfl, rfl, rfl⟩ := trodAll_nil r2
  obtain rfl : args = #[v0, v1, v2] := by cases args; simp_all
  obtain ⟨rfl, rfl⟩ := trodVars_none hV
  have lt0 : ∀ x ∈ p0, x.block < W.heap.size := by obtain ⟨m, hm⟩ := h0; exact DataW.trod_lt m _ _ _ hm
  have lt1 : ∀ x ∈ p1, x.block < W.heap.size := by obtain ⟨m, hm⟩ := h1; exact DataW.trod_lt m _ _ _ hm
  have lt2 : ∀ x ∈ p2, x.block < W.heap.size := by obtain ⟨m, hm⟩ := h2; exact DataW.trod_lt m _ _ _ hm
  obtain ⟨f, fp, a0⟩ := arg_fm (hval 0 _ v0 rfl rfl) h0
  obtain ⟨x, wx, ex, a1⟩ := arg_fl (hval 1 _ v1 rfl rfl) h1
  obtain ⟨y, wy, ey, a2⟩ := arg_fl (hval 2 _ v2 rfl rfl) h2
  clear hA0 hval0
  refine (law_calls (vals := [v0, v1, v2]) (ProductHalves_does (f := f) (p := fp) wx ex wy ey) Tryz.func8 rfl rfl (of_laid hL) (.cons a0 (.cons a1 (.cons a2 .nil)))).mono fun e W' ⟨he, bel⟩ => ?_
  subst he
  exact ⟨_, rfl, _, _, _, [], _, [], hW', trodAll_mk1 (shut_bool Tryz.underlying4 _), (trodAll_cons_mk (Below.trod laidOut (by kernel_rfl) (of_decide_eq_true (by kernel_rfl)) h0 bel lt0) (trodAll_cons_mk (Below.trod laidOut (by kernel_rfl) (of_decide_eq_true (by kernel_rfl)) h1 bel lt1) (trodAll_mk1 (Below.trod laidOut (by kernel_rfl) (of_decide_eq_true (by kernel_rfl)) h2 bel lt2)))), rfl, bel.frame _, fun h => by cases h⟩
theorem over : Rows.productHalvesRow.holds Tryz.pinned (OpenSpec.ofChange Rows.productHalvesSpec) :=
  OpenClaim.holds_of_wide 8 Tryz.f8 rfl rfl rfl rfl rfl rfl rfl ⟨rfl, rfl, rfl, rfl, rfl⟩ rfl rfl rfl rfl rfl (by kernel_rfl) Tryz.func8 (by kernel_rfl)
    (of_decide_eq_true (by kernel_rfl)) (by unfold Func.isWrapper; first | (rw [if_pos (by decide +kernel)]; kernel_rfl) | (rw [if_neg (by decide +kernel)]; exact ⟨rfl, rfl⟩))
    (fun os started H enc _ => lifted os started H enc)
end productHalves
end Go.Proofs.YthpkhmbjmnhmoaaGreatDoor
/- The law ProductHalves holds, for every input: where there are two parts of a product, their values add up to the exact one; there are some where it is a multiple of the least float, and the rounded one is Finite. Conditions: the two listed package variables hold what the program's text lays (tied by the card). -/
namespace Go.Proofs.YthpkhmbjmnhmoaaGreatDoor
set_option linter.unusedVariables false
set_option linter.unusedSimpArgs false
open Go
theorem productHalves_holds : Rows.ProductHalvesCardSaid :=
  Claim7.holds_tied_plain_at .later [] [.data, .funcs] true Rows.productHalvesCard.stood.harness false
    productHalves.over (fun _ h => by cases h) (by kernel_rfl) (fun _ h => by cases h) productHalves_row_tie rfl ⟨rfl, rfl⟩ (by kernel_rfl) rfl
    (fun f fn hf hfn => by
      obtain rfl : f = 8 := Option.some.inj ((show Tryz.prog.funcNamed "reckoner/reckonerlaw18.ProductHalves" = some 8 by kernel_rfl).symm.trans hf) |>.symm
      obtain rfl : fn = Tryz.f8 := (Option.some.inj (Tryz.func8.symm.trans hfn)).symm
      exact ⟨by kernel_rfl, fun j t ht => by
        have hm : t ∈ Tryz.f8.params.toList := by simpa using Array.mem_of_getElem? ht
        have hall : (Tryz.f8.params.toList.all fun u => !Tryz.prog.wantsStandIn u) = true := by kernel_rfl
        exact (show Tryz.prog.wantsStandIn t = false by simpa using List.all_eq_true.1 hall t hm)⟩)
    (by kernel_rfl)
#print axioms productHalves_holds
end Go.Proofs.YthpkhmbjmnhmoaaGreatDoor

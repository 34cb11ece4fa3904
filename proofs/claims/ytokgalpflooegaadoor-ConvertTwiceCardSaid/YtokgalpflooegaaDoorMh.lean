/- Rational numbers with a power of 2 below. No condition. The rational numbers of the reference. No condition. Operations under a test whose outcome is known, in a region whose order is open. No condition. A float as a rational number; Holds. No condition. What the floats of a pair add up to, plain. No condition. Division by 1; a ratio by 1, rounded. No condition. Conversions, plain. No condition. The integer part of a number; the arguments of conversions. No condition. -/
import Derived.Test.YtokgalpflooegaaDoorMg
import Derived.Test.YtokgalpflooegaaDoorMf
import Derived.Test.YtokgalpflooegaaDoorMd
/- Rational numbers with a power of 2 below. No condition. -/
namespace Go.Proofs.YtokgalpflooegaaDoor
set_option linter.unusedVariables false
set_option linter.unusedSimpArgs false
set_option maxHeartbeats 2000000
/-- What is above and below, divided by what both are multiples of. -/
def nz (z : Int) (d : Nat) : Int := z / (Nat.gcd z.natAbs d : Int)
def nd (z : Int) (d : Nat) : Nat := d / Nat.gcd z.natAbs d
theorem gcd_pos {z : Int} {d : Nat} (hd : 0 < d) : 0 < Nat.gcd z.natAbs d := Nat.gcd_pos_of_pos_right _ hd
theorem gcd_dvd_int (z : Int) (d : Nat) : (Nat.gcd z.natAbs d : Int) ∣ z := Int.natAbs_dvd_natAbs.1 (by rw [Int.natAbs_natCast]; exact Nat.gcd_dvd_left _ _)
theorem nz_mul (z : Int) (d : Nat) : nz z d * (Nat.gcd z.natAbs d : Int) = z := Int.ediv_mul_cancel (gcd_dvd_int z d)
theorem nd_mul (z : Int) (d : Nat) : nd z d * Nat.gcd z.natAbs d = d := Nat.div_mul_cancel (Nat.gcd_dvd_right _ _)
theorem nz_abs (z : Int) (d : Nat) : (nz z d).natAbs = z.natAbs / Nat.gcd z.natAbs d := by
  unfold nz
  rw [Int.natAbs_ediv_of_dvd (gcd_dvd_int z d)]; rfl
theorem nd_pos {z : Int} {d : Nat} (hd : 0 < d) : 0 < nd z d := by
  have := nd_mul z d
  rcases Nat.eq_zero_or_pos (nd z d) with h | h
  · rw [h] at this; omega
  · exact h
theorem nz_cop {z : Int} {d : Nat} (hd : 0 < d) : Nat.gcd (nz z d).natAbs (nd z d) = 1 := by
  rw [nz_abs]
  exact Nat.gcd_div_gcd_div_gcd_of_pos_right hd
/-- z / d, in lowest terms, is w / 2^K. -/
structure Dq (K : Nat) (z : Int) (d : Nat) (w : Int) : Prop where
  eq : z * ((2 ^ K : Nat) : Int) = w * (d : Int)
  pos : 0 < d
  cop : Nat.gcd z.natAbs d = 1
theorem pow_ne (K : Nat) : ((2 ^ K : Nat) : Int) ≠ 0 := by
  have := Nat.pow_pos (n := K) (show 0 < 2 by decide)
  omega
theorem pow_gt (K : Nat) : 0 < ((2 ^ K : Nat) : Int) := by
  have := Nat.pow_pos (n := K) (show 0 < 2 by decide)
  omega
theorem Dq.norm {K : Nat} {z w : Int} {d : Nat} (h : z * ((2 ^ K : Nat) : Int) = w * (d : Int)) (hd : 0 < d) : Dq K (nz z d) (nd z d) w := by
  refine ⟨?_, nd_pos hd, nz_cop hd⟩
  have hg := gcd_pos (z := z) hd
  have h1 := nz_mul z d
  have h2 := nd_mul z d
  refine Int.eq_of_mul_eq_mul_right (a := (Nat.gcd z.natAbs d : Int)) (by omega) ?_
  have h3 : (d : Int) = (nd z d : Int) * (Nat.gcd z.natAbs d : Int) := by rw [← Int.natCast_mul, h2]
  have h4 : nz z d * ((2 ^ K : Nat) : Int) * (Nat.gcd z.natAbs d : Int) = nz z d * (Nat.gcd z.natAbs d : Int) * ((2 ^ K : Nat) : Int) := by ac_rfl
  have h5 : w * (nd z d : Int) * (Nat.gcd z.natAbs d : Int) = w * ((nd z d : Int) * (Nat.gcd z.natAbs d : Int)) := by ac_rfl
  rw [h4, h1, h5, ← h3]
  exact h
theorem Dq.small {K : Nat} {z w : Int} {d : Nat} (h : Dq K z d w) : z.natAbs ≤ w.natAbs ∧ bl d ≤ K + 1 ∧ bl z.natAbs ≤ bl w.natAbs := by
  have h1 : z.natAbs * 2 ^ K = w.natAbs * d := by
    have := congrArg Int.natAbs h.eq
    rw [Int.natAbs_mul, Int.natAbs_mul] at this
    exact this
  have h2 : d ∣ 2 ^ K := by
    have hc : Nat.Coprime d z.natAbs := by rw [Nat.coprime_iff_gcd_eq_one, Nat.gcd_comm]; exact h.cop
    exact hc.dvd_of_dvd_mul_left ⟨w.natAbs, by rw [h1, Nat.mul_comm]⟩
  have hp := Nat.pow_pos (n := K) (show 0 < 2 by decide)
  obtain ⟨c, hc⟩ := h2
  have hc0 : 0 < c := by
    rcases Nat.eq_zero_or_pos c with h3 | h3
    · rw [h3] at hc; omega
    · exact h3
  have h3 : z.natAbs * c = w.natAbs := by
    rw [hc, ← Nat.mul_assoc, Nat.mul_right_comm] at h1
    exact Nat.eq_of_mul_eq_mul_right h.pos h1
  have h4 : z.natAbs ≤ w.natAbs := by rw [← h3]; exact Nat.le_mul_of_pos_right _ hc0
  have h5 : d ≤ 2 ^ K := by rw [hc]; exact Nat.le_mul_of_pos_right _ hc0
  refine ⟨h4, ?_, bl_mono h4⟩
  rw [bl_lt, Nat.pow_succ]
  omega
theorem Dq.add_eq {K : Nat} {z1 z2 w1 w2 : Int} {d1 d2 : Nat} (h1 : Dq K z1 d1 w1) (h2 : Dq K z2 d2 w2) : (z1 * d2 + z2 * d1) * ((2 ^ K : Nat) : Int) = (w1 + w2) * ((d1 * d2 : Nat) : Int) := by
  have e1 := h1.eq
  have e2 := h2.eq
  generalize ((2 ^ K : Nat) : Int) = P at *
  rw [Int.natCast_mul, Int.add_mul, Int.add_mul]
  have a1 : z1 * d2 * P = z1 * P * d2 := by ac_rfl
  have a2 : z2 * d1 * P = z2 * P * d1 := by ac_rfl
  rw [a1, a2, e1, e2]
  congr 1 <;> ac_rfl
theorem Dq.neg {K : Nat} {z w : Int} {d : Nat} (h : Dq K z d w) : Dq K (-z) d (-w) :=
  ⟨by rw [Int.neg_mul, Int.neg_mul, h.eq], h.pos, by rw [Int.natAbs_neg]; exact h.cop⟩
theorem Dq.abs {K : Nat} {z w : Int} {d : Nat} (h : Dq K z d w) : Dq K (z.natAbs : Int) d (w.natAbs : Int) :=
  ⟨by
    have := congrArg Int.natAbs h.eq
    rw [Int.natAbs_mul, Int.natAbs_mul] at this
    exact_mod_cast this, h.pos, by rw [Int.natAbs_natCast]; exact h.cop⟩
theorem sign_scale {a b : Int} {P D : Int} (h : a * P = b * D) (hP : 0 < P) (hD : 0 < D) : a.sign = b.sign := by
  have := congrArg Int.sign h
  rw [Int.sign_mul, Int.sign_mul, Int.sign_eq_one_of_pos hP, Int.sign_eq_one_of_pos hD, Int.mul_one, Int.mul_one] at this
  exact this
theorem Dq.sign {K : Nat} {z w : Int} {d : Nat} (h : Dq K z d w) : z.sign = w.sign :=
  sign_scale h.eq (pow_gt K) (by have := h.pos; omega)
theorem Dq.cmp {K : Nat} {z1 z2 w1 w2 : Int} {d1 d2 : Nat} (h1 : Dq K z1 d1 w1) (h2 : Dq K z2 d2 w2) : (z1 * d2 - z2 * d1).sign = (w1 - w2).sign := by
  have := h1.add_eq h2.neg
  rw [Int.neg_mul, ← Int.sub_eq_add_neg, ← Int.sub_eq_add_neg] at this
  exact sign_scale this (pow_gt K) (by
    have := Nat.mul_pos h1.pos h2.pos
    omega)
theorem Dq.up {K J : Nat} {z w : Int} {d : Nat} (h : Dq K z d w) : Dq (K + J) z d (w * ((2 ^ J : Nat) : Int)) :=
  ⟨by
    have e := h.eq
    rw [Nat.pow_add, Int.natCast_mul]
    generalize ((2 ^ K : Nat) : Int) = P at *
    generalize ((2 ^ J : Nat) : Int) = P' at *
    rw [← Int.mul_assoc, e]; ac_rfl, h.pos, h.cop⟩
/-- A float's number, with nothing below or a power of 2. -/
theorem Dq.float {K : Nat} {n : Bool} {v : Nat} {e : Int} (hv : v % 2 = 1) (he : -(K : Int) ≤ e) :
    (e < 0 → Dq K (sgn n v) (2 ^ (-e).toNat) (fv (-K) ⟨1, n, e, v⟩)) ∧ (0 ≤ e → Dq K (sgn n (v * 2 ^ e.toNat)) 1 (fv (-K) ⟨1, n, e, v⟩)) := by
  have e1 : fv (-K) ⟨1, n, e, v⟩ = sgn n (v * 2 ^ (e - -(K : Int)).toNat) := by
    unfold fv Nu.sv sgn
    simp
  rw [e1]
  have hs : ∀ a b : Nat, sgn n a * (b : Int) = sgn n (a * b) := fun a b => by
    unfold sgn
    split
    · rw [Int.natCast_mul, Int.neg_mul]
    · rw [Int.natCast_mul]
  refine ⟨fun h => ⟨?_, Nat.pow_pos (by decide), ?_⟩, fun h => ⟨?_, by decide, ?_⟩⟩
  · rw [hs, hs, Nat.mul_assoc, ← Nat.pow_add]
    congr 3; omega
  · rw [sgn_abs]
    have h2 : Nat.Coprime v 2 := by
      rw [Nat.coprime_comm, Nat.coprime_iff_gcd_eq_one, Nat.gcd_rec, hv]
      decide
    exact h2.pow_right _
  · rw [hs, hs, Nat.mul_assoc, ← Nat.pow_add, Nat.mul_one]
    congr 3; omega
  · exact Nat.gcd_one_right _
theorem Dq.zero (K : Nat) : Dq K 0 1 0 := ⟨by simp, by decide, by decide⟩
end Go.Proofs.YtokgalpflooegaaDoor
/- The rational numbers of the reference. No condition. -/
namespace Go.Proofs.YtokgalpflooegaaDoor
set_option linter.unusedVariables false
set_option linter.unusedSimpArgs false
variable {G : Gl}
set_option maxHeartbeats 4000000
set_option maxRecDepth 10000
/-- An integer of a size that all that is asked of it allows. -/
abbrev Bz (z : Int) : Prop := bl z.natAbs ≤ 100000000
theorem Bz.len {z : Int} (h : Bz z) : (nat z.natAbs).length ≤ 1562501 := by have := len_bl h; omega
section
variable {K : Nat} {z1 z2 w1 w2 : Int} {d1 d2 : Nat}
end
end Go.Proofs.YtokgalpflooegaaDoor
/- Operations under a test whose outcome is known, in a region whose order is open. No condition. -/
namespace Go.Proofs.YtokgalpflooegaaDoor
set_option linter.unusedVariables false
set_option linter.unusedSimpArgs false
section
variable {P : Program} {G : Gl} {nt : Nat} {st st0 : St} {cx : Cx} {a : Act} {W W' : World} {m : Nat → Option Nat} {ops l : List Oper} {acc : List Sm} {Q : List Sm → St → Prop} {o : Oper} {j : Nat} {want g : Bool}
theorem gOf_congr {tm tm' : List (Nat × TV)} (hg : o.guard = some (j, want)) (h : ∀ t ∈ rdOf ops o, lk t tm' = lk t tm) : gOf ops tm' j want = gOf ops tm j want := by
  unfold gOf
  split
  · rename_i d _ _ _ _ _ hj
    rw [h d (by unfold rdOf; simp only [List.mem_append, hg, hj]; exact .inr (by simp))]
  · rfl
theorem DoLD.gOff (md : Bool) (lab : Nat) (hg : o.guard = some (j, want)) (hgo : gOf ops st.tm j want = some false) (x : TV) (hx : x.labs = []) (hd : dstOk nt o.dst = true) (next : runsD P G nt md ops st0 Q lab l (acc ++ [⟨[], [], [], none⟩]) ⟨setv o.dst (some (.gd false x)) st.tm, st.ob⟩) : DoLD P G nt ops st0 Q (o :: l) acc st := by
  have h : OpOk P G nt ops (boxes st0.ob) o st ⟨o.dst, some (.gd false x), .none, 0, []⟩ := by
    refine ⟨rfl, fun cx a W m S hn _ hrd hus hfree hr Q' K hK => ?_⟩
    rw [gOf_spec hr ((gOf_congr hg hrd).trans hgo) hg, if_neg Bool.false_ne_true]
    exact hK _ _ (Rel.put hr hn hd (show RT _ (.gd false x) undef from ⟨(fun e => by cases e), fun _ => rfl⟩))
  refine DoLD.cons h (fun l hl => by simp [Tr.nw, Eff.isNew] at hl) rfl ?_
  have e1 : Tr.sm ⟨o.dst, some (.gd false x), .none, 0, []⟩ = ⟨[], [], [], none⟩ := by
    simp [Tr.sm, Tr.wr, Tr.mn, Tr.nw, Tr.ob, Eff.isNew, TV.labs, hx]
  rw [e1]
  exact DoLD.run next
theorem tmHas_unw {l : Nat} (ts : List Nat) : ∀ {tm : List (Nat × TV)}, tmHas l tm = false → tmHas l (unw ts tm) = false
  | [], _ => rfl
  | (k, x) :: r, h => by
    simp only [tmHas, Bool.or_eq_false_iff] at h
    cases x with
    | gd c y =>
      simp only [Go.Proofs.YtokgalpflooegaaDoor.unw, tmHas, Bool.or_eq_false_iff]
      refine ⟨?_, tmHas_unw ts h.2⟩
      split <;> exact h.1
    | _ => simp only [Go.Proofs.YtokgalpflooegaaDoor.unw, tmHas, Bool.or_eq_false_iff]; exact ⟨h.1, tmHas_unw ts h.2⟩
theorem free_unw {S : St} {l : Nat} (ts : List Nat) (h : S.free l = true) : (⟨unw ts S.tm, S.ob⟩ : St).free l = true := by
  simp only [St.free, Bool.not_eq_true', Bool.or_eq_false_iff] at h ⊢
  exact ⟨⟨tmHas_unw ts h.1.1, h.1.2⟩, h.2⟩
/-- Slots that hold no more than they did. -/
theorem RelM.less (h : RelM G cx m st a W) {tm' : List (Nat × TV)} (hs : ∀ t y, lk t tm' = some y → ∃ z, lk t st.tm = some z ∧ ∀ E v, RT E z v → RT E y v) : RelM G cx m ⟨tm', st.ob⟩ a W :=
  { h with
    tm := fun t y hy => by
      have ⟨z, hz, hl⟩ := hs t y hy
      have ⟨v, hv, hr⟩ := h.tm t z hz
      exact ⟨v, hv, hl _ _ hr⟩ }
theorem lk_setv {d : Option Nat} {v : Option TV} {tm : List (Nat × TV)} {t : Nat} {y : TV} (h : lk t (setv d v tm) = some y) : (d = some t ∧ v = some y) ∨ (d ≠ some t ∧ lk t tm = some y) := by
  cases d with
  | none => exact .inr ⟨by simp, h⟩
  | some d =>
    cases v with
    | none =>
      simp only [setv] at h
      rw [lk_del] at h
      split at h
      · cases h
      · rename_i e; exact .inr ⟨fun e2 => e (Option.some.inj e2).symm, h⟩
    | some v =>
      simp only [setv] at h
      rw [lk_put] at h
      split at h
      · rename_i e; exact .inl ⟨by rw [e], h⟩
      · rename_i e; exact .inr ⟨fun e2 => e (Option.some.inj e2).symm, h⟩
theorem setv_lk {d : Option Nat} {v : Option TV} {tm : List (Nat × TV)} {t : Nat} {y : TV} (h : (d = some t ∧ v = some y) ∨ (d ≠ some t ∧ lk t tm = some y)) : lk t (setv d v tm) = some y := by
  rcases h with ⟨rfl, rfl⟩ | ⟨h1, h2⟩
  · simp only [setv]; rw [lk_put_self]
  · cases d with
    | none => exact h2
    | some d =>
      have : t ≠ d := fun e => h1 (by rw [e])
      cases v with
      | none => simp only [setv]; rw [lk_del, if_neg this]; exact h2
      | some v => simp only [setv]; rw [lk_put_ne _ _ this]; exact h2
theorem DoLD.gOn {p : Prop} {v : Option TV} {ef : Eff} (md : Bool) (lab : Nat) (hg : o.guard = some (j, want)) (hgo : gOf ops st.tm j want = some true) (ts : List Nat) (hts : ∀ t ∈ ts, t ∈ rdOf ops o) (ht : tests ts st.tm)
    (hE : stepE P G nt md ops lab (unw ts st.tm) (fun j => lk j st.ob) { o with guard := none } = some ⟨p, v, ef⟩) (hp : p) (hf : ef.isNew = true → st0.free lab = true) (hfr : ef.fresh lab = true) (hef : efOk (boxes st0.ob) ef = true)
    (next : runsD P G nt md ops st0 Q (lab + 1) l (acc ++ [Tr.sm ⟨o.dst, v, ef, lab, usOf (boxes st0.ob) (unw ts st.tm) o.op⟩]) (Tr.app ⟨o.dst, v, ef, lab, usOf (boxes st0.ob) (unw ts st.tm) o.op⟩ st)) : DoLD P G nt ops st0 Q (o :: l) acc st := by
  have h : OpOk P G nt ops (boxes st0.ob) o st ⟨o.dst, v, ef, lab, usOf (boxes st0.ob) (unw ts st.tm) o.op⟩ := by
    refine ⟨rfl, fun cx a W m S hn hB hrd hus hfree hr Q' K hK => ?_⟩
    rw [gOf_spec hr ((gOf_congr hg hrd).trans hgo) hg, if_pos rfl]
    have htsS : tests ts S.tm := by rw [tests_congr fun t h => hrd t (hts t h)]; exact ht
    have hr2 := hr.unw htsS
    have hsub : ∀ x ∈ rdOf ops { o with guard := none }, x ∈ rdOf ops o := fun x hx => by
      unfold rdOf at hx ⊢
      simp only [List.mem_append] at hx ⊢
      rcases hx with hx | hx
      · exact .inl hx
      · simp at hx
    have h0 := (opOk_step (ops := ops) (st := ⟨unw ts st.tm, st.ob⟩) (o := { o with guard := none }) hE hp hfr (boxes st0.ob)).2 cx a W m ⟨unw ts S.tm, S.ob⟩ hn hB (fun x hx => by
      show lk x (unw ts S.tm) = lk x (unw ts st.tm)
      rw [lk_unw, lk_unw, hrd x (hsub x hx)]) hus (fun e => free_unw ts (hfree e)) hr2 Q' K (fun a' W' hr' => hK a' W' (by
        obtain ⟨m', hr'⟩ := hr'
        refine ⟨m', RelM.less hr' fun t y hy => ?_⟩
        rcases lk_setv hy with ⟨e1, e2⟩ | ⟨e1, e2⟩
        · exact ⟨y, setv_lk (.inl ⟨e1, e2⟩), fun _ _ h => h⟩
        · cases y with
          | gd c x =>
            by_cases hm : t ∈ ts
            · have hc := tests_spec htsS e2 hm
              refine ⟨x, setv_lk (.inr ⟨e1, ?_⟩), fun E u hu => ⟨fun _ => hu, fun e => by rw [hc] at e; cases e⟩⟩
              show lk t (unw ts S.tm) = some x
              rw [lk_unw, e2]; simp [hm]
            · refine ⟨.gd c x, setv_lk (.inr ⟨e1, ?_⟩), fun _ _ h => h⟩
              show lk t (unw ts S.tm) = _
              rw [lk_unw, e2]; simp [hm]
          | _ =>
            refine ⟨_, setv_lk (.inr ⟨e1, ?_⟩), fun _ _ h => h⟩
            show lk t (unw ts S.tm) = _
            rw [lk_unw, e2]; rfl))
    rw [wanted_none rfl, if_pos rfl] at h0
    exact h0
  refine DoLD.cons h (fun l hl => ?_) hef (DoLD.run next)
  simp only [Tr.nw] at hl
  split at hl
  · rename_i e; injection hl with hl; subst hl; exact hf e
  · cases hl
end
end Go.Proofs.YtokgalpflooegaaDoor
/- A float as a rational number; Holds. No condition. -/
namespace Go.Proofs.YtokgalpflooegaaDoor
set_option linter.unusedVariables false
set_option linter.unusedSimpArgs false
set_option maxHeartbeats 4000000
set_option maxRecDepth 10000
end Go.Proofs.YtokgalpflooegaaDoor
/- What the floats of a pair add up to, plain. No condition. -/
namespace Go.Proofs.YtokgalpflooegaaDoor
set_option linter.unusedVariables false
set_option linter.unusedSimpArgs false
set_option maxHeartbeats 4000000
set_option maxRecDepth 10000
end Go.Proofs.YtokgalpflooegaaDoor
/- Division by 1; a ratio by 1, rounded. No condition. -/
namespace Go.Proofs.YtokgalpflooegaaDoor
set_option linter.unusedVariables false
set_option linter.unusedSimpArgs false
variable {G : Gl}
set_option maxHeartbeats 4000000
set_option maxRecDepth 10000
theorem Div64_low {lo w : Nat} (hl : lo < 18446744073709551616) (hw : 0 < w) : Does Tryd.prog G 124 [.c (.n 0), .c (.n lo), .c (.n w)] (.t [.c (.n (lo / w)), .c (.n (lo % w))]) := by
  have hw0 : ¬ w = 0 := by omega
  have hw1 : ¬ w ≤ 0 := by omega
  refine Does.of (nt := 135) Tryd.func124 rfl rfl rfl (by simp) ?_
  simp only [argTm, PV.ext, Ce.ext]
  refine Do.seqk fun _ k1_ => ?_
  refine Do.region [0,1,2] true ?_
  simp [go_sem, hw0, hw1]
  apply k1_; clear k1_
  refine Do.seqk fun _ k2_ => ?_
  refine Do.seqk fun _ k3_ => ?_
  refine Do.region [0,1,2,20] true ?_
  simp [go_sem, hw0, hw1]
  apply k3_; clear k3_
  refine Do.cond [0,1,2] rfl (fun h1 => ?_) (fun h1 => ?_) <;> simp [go_sem, hw0, hw1] at h1 ⊢
  refine Do.skip ?_
  simp [go_sem]
  apply k2_; clear k2_
  refine Do.seqk fun _ k4_ => ?_
  refine Do.seqk fun _ k5_ => ?_
  refine Do.region [0,1,2,24] true ?_
  simp [go_sem, hw0, hw1]
  apply k5_; clear k5_
  refine Do.cond [0,1,2] rfl (fun h2 => ?_) (fun h2 => ?_) <;> simp [go_sem, hw0, hw1] at h2 ⊢
  refine Do.skip ?_
  simp [go_sem]
  apply k4_; clear k4_
  refine Do.seqk fun _ k6_ => ?_
  refine Do.seqk fun _ k7_ => ?_
  refine Do.region [0,1,2,27] true ?_
  simp [go_sem, hw0, hw1]
  apply k7_; clear k7_
  refine Do.cond [0,1,2] rfl (fun h3 => ?_) (fun h3 => ?_) <;> simp [go_sem, hw0, hw1] at h3 ⊢
  refine Do.seqk fun _ k8_ => ?_
  refine Do.draw [6,7] true (by kernel_rfl) ?_
  simp [go_sem, hw0, hw1]
  repeat (refine And.intro (by first | omega | (intros; omega) | kernel_rfl | grind) ?_)
  try (refine And.intro (by kernel_rfl) ?_)
  apply k8_; clear k8_
  refine Do.ret ?_
  simp [endQ, rets, ret1, go_sem, hw0, hw1]
  repeat (refine And.intro (by first | omega | (intros; omega) | grind) ?_)
  exact TLe.refl _
theorem drop_set {x : List Nat} {s : Nat} (hs : s < x.length) {w : Nat} (hw : x[s]? = some w) : (List.replicate (s + 1) 0 ++ x.drop (s + 1)).set s w = List.replicate s 0 ++ x.drop s := by
  rw [List.replicate_succ', List.append_assoc, List.set_append_right _ _ (by simp)]
  simp only [List.length_replicate, Nat.sub_self, List.cons_append, List.nil_append, List.set_cons_zero]
  rw [List.drop_eq_getElem_cons hs]
  congr 2
  rw [List.getElem?_eq_getElem hs] at hw
  exact (Option.some.inj hw).symm
theorem divWord_one {x : List Nat} (hx : x.length < 1073741824) (wx : Ws x) : Does Tryd.prog G 110 [Wd x, .c (.n 1)] (.t [Wn (nat (val x)), .c (.n 0)]) := by
  have hT := @Trim_does G x (by unfold Sh; omega) wx
  have hlen : ∀ s, s ≤ x.length → (List.replicate s 0 ++ x.drop s).length = x.length := fun s hs => by simp; omega
  refine Does.of (nt := 35) Tryd.func110 rfl rfl rfl (by simp) ?_
  simp only [argTm, PV.ext, Ce.ext]
  refine Do.seqk fun _ k1_ => ?_
  refine Do.region [0,1] true ?_
  simp [go_sem, -List.reduceReplicate]
  apply k1_; clear k1_
  refine Do.seqk fun _ k2_ => ?_
  refine Do.region [0,1,6] true ?_
  simp [go_sem, -List.reduceReplicate]
  repeat (refine And.intro (by first | omega | (intros; omega) | grind) ?_)
  apply k2_; clear k2_
  refine Do.seqk fun _ k3_ => ?_
  refine Do.region [0,1,6,7] true ?_
  simp [go_sem, -List.reduceReplicate]
  apply k3_; clear k3_
  refine Do.seqk fun _ k4_ => ?_
  refine Do.seqk fun _ k5_ => ?_
  refine Do.region [0,1,6,7,8] true ?_
  simp [go_sem, -List.reduceReplicate]
  repeat (refine And.intro (by first | omega | (intros; omega) | grind) ?_)
  apply k5_; clear k5_
  refine Do.block ?_
  refine Do.loopF [0,1,6,7,8] (fun (s : Nat) => [(7, .v (.c (.n 0))), (8, .int .i64 ((s : Int) - 1))]) (fun (s : Nat) => [(102, .wr (List.replicate s 0 ++ x.drop s))]) (fun (s : Nat) => s ≤ x.length) (fun (s : Nat) => s) (x.length) (fun _ => by first | (simp [go_sem, mixS]; done) | (simp [go_sem, mixS]; rfl)) (St.le_of (by simp [keep]) (by simp [keep])) (Nat.le_refl _) ?_
  intro s hs
  refine Do.seqk fun _ k6_ => ?_
  refine Do.seqk fun _ k7_ => ?_
  refine Do.region [0,1,6,7,8,16] true ?_
  simp [go_sem, -List.reduceReplicate]
  apply k7_; clear k7_
  refine Do.cond [0,1,6,7,8] rfl (fun h => ?_) (fun h => ?_) <;> simp [go_sem, -List.reduceReplicate] at h ⊢
  · obtain ⟨j, rfl⟩ : ∃ j, s = j + 1 := ⟨s - 1, by omega⟩
    obtain ⟨w, hw⟩ : ∃ w, x[j]? = some w := ⟨_, List.getElem?_eq_getElem (by omega)⟩
    have hwl := wx w (List.mem_of_getElem? hw)
    have hD := @Div64_low G w 1 hwl (by decide)
    rw [Nat.div_one, Nat.mod_one] at hD
    have hset := drop_set (show j < x.length by omega) hw
    have hl := hlen (j + 1) hs
    refine Do.skip ?_
    simp [go_sem]
    apply k6_; clear k6_
    refine Do.seqk fun _ k8_ => ?_
    refine Do.block ?_
    refine Do.region [0,1,6,7,8] true ?_
    simp [go_sem, show ((j : Int) + 1 - 1) = j by omega, hw, hl, -List.reduceReplicate]
    repeat (refine And.intro (by first | omega | (intros; omega) | grind) ?_)
    refine DoL.call true 609 rfl rfl rfl rfl (by first | exact trivial | omega | (simp; done) | (simp; omega)) (hD) rfl (by first | exact .inl rfl | exact .inr rfl) rfl ?_
    simp [go_sem, show ((j : Int) + 1 - 1) = j by omega, hw, hl, -List.reduceReplicate]
    repeat (refine And.intro (by first | omega | (intros; omega) | grind) ?_)
    apply k8_; clear k8_
    refine Do.region [0,1,6,7,8] true ?_
    simp [go_sem, show ((j : Int) + 1 - 1) = j by omega, hw, hl, -List.reduceReplicate]
    repeat (refine And.intro (by first | omega | (intros; omega) | grind) ?_)
    refine ⟨j, St.le_of rfl (by simp [keep, ← hset, List.set_append_left]), by omega, by simp⟩
  · obtain rfl : s = 0 := by omega
    refine Do.exit ?_
    simp [go_sem]
    apply k4_; clear k4_
    refine Do.seqk fun _ k9_ => ?_
    refine Do.frz 102 rfl ?_
    simp [go_sem]
    refine Do.region [4,5] true ?_
    simp [go_sem, -List.reduceReplicate]
    refine DoL.call true 702 rfl rfl rfl rfl (by first | exact trivial | omega | (simp; done) | (simp; omega)) (hT) rfl (by first | exact .inl rfl | exact .inr rfl) rfl ?_
    simp [go_sem, -List.reduceReplicate]
    apply k9_; clear k9_
    refine Do.ret ?_
    simp [endQ, rets, ret1, go_sem, -List.reduceReplicate]
    repeat (refine And.intro (by first | omega | (intros; omega) | grind) ?_)
    exact TLe.refl _
theorem WWord_zero : Does Tryd.prog G 111 [.c (.n 0)] (.v (Wn (nat 0))) := by
  have hT := @Trim_does G [0] (by decide) (fun w hw => by simp at hw; omega)
  refine Does.of (nt := 6) Tryd.func111 rfl rfl rfl (by simp) ?_
  simp only [argTm, PV.ext, Ce.ext]
  refine Do.seqk fun _ k1_ => ?_
  refine Do.region [0] true ?_
  simp [go_sem]
  apply k1_; clear k1_
  refine Do.seqk fun _ k2_ => ?_
  refine Do.region [2] true ?_
  simp [go_sem]
  refine DoL.frz true 102 101 rfl ?_
  simp [go_sem]
  refine DoL.call true 103 rfl rfl rfl rfl (by first | exact trivial | omega | (simp; done) | (simp; omega)) (hT) rfl (by first | exact .inl rfl | exact .inr rfl) rfl ?_
  simp [go_sem]
  apply k2_; clear k2_
  refine Do.ret ?_
  simp [endQ, rets, ret1, go_sem]
  repeat (refine And.intro (by first | omega | (intros; omega) | grind) ?_)
  exact TLe.refl _
theorem WDivMod_one {x : List Nat} (hx : x.length < 1073741824) (wx : Ws x) (h0 : 0 < val x) : Does Tryd.prog G 92 [Wd x, Wd [1]] (.t [Wn (nat (val x)), Wn (nat 0)]) := by
  have w1 : Ws [1] := fun w hw => by simp at hw; omega
  have h1 := @view_does G x (by unfold Sh; omega)
  have h2 : Does Tryd.prog G 86 [Wd [1]] (.v (Wd [1])) := @view_does G [1] (by decide)
  have hn := norm_length x
  have h3 := @Cmp_does G (norm x) [1] (by unfold Sh; omega) (by decide) (norm_ws wx) w1
  rw [val_norm, show val [1] = 1 from rfl, if_neg (by omega)] at h3
  have h4 := @divWord_one G (norm x) (by omega) (norm_ws wx)
  rw [val_norm] at h4
  have h5 : ¬ (if 1 < val x then (1 : Int) else 0) < 0 := by split <;> omega
  refine Does.of (nt := 127) Tryd.func92 rfl rfl rfl (by simp) ?_
  simp only [argTm, PV.ext, Ce.ext]
  refine Do.seqk fun _ k1_ => ?_
  refine Do.region [0,1] true ?_
  simp [go_sem]
  apply k1_; clear k1_
  refine Do.seqk fun _ k2_ => ?_
  refine Do.region [0,1] true ?_
  simp [go_sem]
  refine DoL.call true 102 rfl rfl rfl rfl (by first | exact trivial | omega | (simp; done) | (simp; omega)) (h1) rfl (by first | exact .inl rfl | exact .inr rfl) rfl ?_
  simp [go_sem]
  refine DoL.call true 104 rfl rfl rfl rfl (by first | exact trivial | omega | (simp; done) | (simp; omega)) (h2) rfl (by first | exact .inl rfl | exact .inr rfl) rfl ?_
  simp [go_sem]
  apply k2_; clear k2_
  refine Do.seqk fun _ k3_ => ?_
  refine Do.seqk fun _ k4_ => ?_
  refine Do.region [0,1,22] true ?_
  simp [go_sem, h5]
  refine DoL.call true 203 rfl rfl rfl rfl (by first | exact trivial | omega | (simp; done) | (simp; omega)) (h3) rfl (by first | exact .inl rfl | exact .inr rfl) rfl ?_
  simp [go_sem, h5]
  apply k4_; clear k4_
  refine Do.cond [0,1] rfl (fun g1 => ?_) (fun g1 => ?_) <;> simp [go_sem, h5] at g1 ⊢
  refine Do.skip ?_
  simp [go_sem]
  apply k3_; clear k3_
  refine Do.seqk fun _ k5_ => ?_
  refine Do.seqk fun _ k6_ => ?_
  refine Do.region [0,1,27] true ?_
  simp [go_sem, h5]
  repeat (refine And.intro (by first | omega | (intros; omega) | grind) ?_)
  apply k6_; clear k6_
  refine Do.cond [0,1] rfl (fun g2 => ?_) (fun g2 => ?_) <;> simp [go_sem, h5] at g2 ⊢
  refine Do.seqk fun _ k7_ => ?_
  refine Do.region [6,7] true ?_
  simp [go_sem, h5]
  repeat (refine And.intro (by first | omega | (intros; omega) | grind) ?_)
  refine DoL.call true 505 rfl rfl rfl rfl (by first | exact trivial | omega | (simp; done) | (simp; omega)) (h4) rfl (by first | exact .inl rfl | exact .inr rfl) rfl ?_
  simp [go_sem, h5]
  apply k7_; clear k7_
  refine Do.seqk fun _ k8_ => ?_
  refine Do.region [4,5] true ?_
  simp [go_sem, h5]
  refine DoL.call true 603 rfl rfl rfl rfl (by first | exact trivial | omega | (simp; done) | (simp; omega)) (WWord_zero) rfl (by first | exact .inl rfl | exact .inr rfl) rfl ?_
  simp [go_sem, h5]
  apply k8_; clear k8_
  refine Do.ret ?_
  simp [endQ, rets, ret1, go_sem, h5]
  repeat (refine And.intro (by first | omega | (intros; omega) | grind) ?_)
  exact TLe.refl _
theorem Ratio_one {f p r : Int} (hf : fmOk f p = true) (hr : 0 ≤ r) (hr' : r ≤ 4) {n : Bool} {m : List Nat} (hm : m.length ≤ 4096) (wm : Ws m) (h0 : 0 < val m) : Does Tryd.prog Gv 61 [Fm f p, .c (.i .i64 r), .c (.b n), Wd m, Wd [1], .c (.i .i64 0)] (.t [(roundP f p r n (val m) 0 false).1.pv, .c (.i .i64 (roundP f p r n (val m) 0 false).2)]) := by
  obtain ⟨b1, b2, b3, b4⟩ := fmOk_spec hf
  obtain ⟨b5, b6⟩ := gOfE_le b1 b2
  have w1 : Ws [1] := fun w hw => by simp at hw; omega
  have hb : bl (val m) ≤ 64 * m.length := bl_le_len wm (Nat.le_refl _)
  have hL := @Len_does Gv m (by unfold Sh; omega) wm
  have hL1 : Does Tryd.prog Gv 54 [Wd [1]] (.int .i64 1) := @Len_does Gv [1] (by decide) w1
  by_cases hs : p + 3 - bl (val m) + 1 > 0
  · obtain ⟨s, hs'⟩ : ∃ s : Nat, p + 3 - bl (val m) + 1 = s := ⟨(p + 3 - bl (val m) + 1).toNat, by omega⟩
    have hS := @Shl_does Gv m (by unfold Sh; omega) wm s (by omega)
    have hpos : 0 < val m * 2 ^ s := Nat.mul_pos h0 (Nat.pow_pos (by decide))
    have hbl : bl (val m * 2 ^ s) = s + bl (val m) := bl_mul_pow _ _ h0
    have hD := @WDivMod_one Gv (nat (val m * 2 ^ s)) (by have := nat_len_bl (val m * 2 ^ s); omega) (nat_ws _) (by rw [val_nat]; exact hpos)
    rw [val_nat] at hD
    have hZ := @Zero_does Gv (nat 0) (by rw [nat_zero]; decide)
    rw [val_nat] at hZ
    have hF := @Float_does f p r hf hr hr' n (val m * 2 ^ s) (0 - (s : Int)) false (by omega) (by omega)
    rw [roundP_scale s h0] at hF
    generalize roundP f p r n (val m) 0 false = z at *
    generalize val m * 2 ^ s = u at *
    rw [Int.zero_sub] at hF
    refine Does.of (nt := 50) Tryd.func61 rfl rfl rfl (by simp) ?_
    simp only [argTm, PV.ext, Ce.ext]
    refine Do.seqk fun _ k1_ => ?_
    refine Do.region [1,2,3,4,5,6,12] true ?_
    simp [go_sem]
    apply k1_; clear k1_
    refine Do.seqk fun _ k2_ => ?_
    refine Do.draw [1,2,3,4,5,6,12,14] true (by kernel_rfl) ?_
    simp [go_sem]
    repeat (refine And.intro (by first | omega | (intros; omega) | kernel_rfl | grind) ?_)
    refine DoLD.call true 105 rfl rfl rfl rfl (by first | exact trivial | omega | (simp; done) | (simp; omega)) (hL) rfl (by first | exact .inl rfl | exact .inr rfl) rfl ?_
    simp [go_sem]
    repeat (refine And.intro (by first | omega | (intros; omega) | kernel_rfl | grind) ?_)
    refine DoLD.call true 108 rfl rfl rfl rfl (by first | exact trivial | omega | (simp; done) | (simp; omega)) (hL1) rfl (by first | exact .inl rfl | exact .inr rfl) rfl ?_
    simp [go_sem]
    repeat (refine And.intro (by first | omega | (intros; omega) | kernel_rfl | grind) ?_)
    try (refine And.intro (by kernel_rfl) ?_)
    apply k2_; clear k2_
    refine Do.seqk fun _ k3_ => ?_
    refine Do.seqk fun _ k4_ => ?_
    refine Do.region [1,2,3,4,5,6,12,14,27] true ?_
    simp [go_sem, hs']
    apply k4_; clear k4_
    refine Do.cond [1,2,3,4,5,6,12,14] rfl (fun g1 => ?_) (fun g1 => ?_) <;> simp [go_sem, hs'] at g1 ⊢
    · refine Do.region [1,2,3,4,5,6,12,14] true ?_
      simp [go_sem, hs']
      refine DoL.call true 303 rfl rfl rfl rfl (by first | exact trivial | omega | (simp; done) | (simp; omega)) (hS) rfl (by first | exact .inl rfl | exact .inr rfl) rfl ?_
      simp [go_sem, hs']
      apply k3_; clear k3_
      refine Do.seqk fun _ k5_ => ?_
      refine Do.region [1,2,5,6,12,14,15,16] true ?_
      simp [go_sem, hs']
      refine DoL.call true 503 rfl rfl rfl rfl (by first | exact trivial | omega | (simp; done) | (simp; omega)) (hD) rfl (by first | exact .inl rfl | exact .inr rfl) rfl ?_
      simp [go_sem, hs']
      apply k5_; clear k5_
      refine Do.seqk fun _ k6_ => ?_
      refine Do.draw [12,13] true (by kernel_rfl) ?_
      simp [go_sem, hs']
      repeat (refine And.intro (by first | omega | (intros; omega) | kernel_rfl | grind) ?_)
      refine DoLD.call true 609 rfl rfl rfl rfl (by first | exact trivial | omega | (simp; done) | (simp; omega)) (hZ) rfl (by first | exact .inl rfl | exact .inr rfl) rfl ?_
      simp [go_sem, hs']
      repeat (refine And.intro (by first | omega | (intros; omega) | kernel_rfl | grind) ?_)
      refine DoLD.call true 611 rfl rfl rfl rfl (by first | exact trivial | omega | (simp; done) | (simp; omega)) (hF) rfl (by first | exact .inl rfl | exact .inr rfl) rfl ?_
      simp [go_sem, hs']
      repeat (refine And.intro (by first | omega | (intros; omega) | kernel_rfl | grind) ?_)
      try (refine And.intro (by kernel_rfl) ?_)
      apply k6_; clear k6_
      refine Do.ret ?_
      simp [endQ, rets, ret1, go_sem, hs']
      repeat (refine And.intro (by first | omega | (intros; omega) | grind) ?_)
      exact TLe.refl _
    · omega
  · have hD := @WDivMod_one Gv m (by omega) wm h0
    have hZ := @Zero_does Gv (nat 0) (by rw [nat_zero]; decide)
    rw [val_nat] at hZ
    have hF := @Float_does f p r hf hr hr' n (val m) 0 false (by omega) (by omega)
    generalize roundP f p r n (val m) 0 false = z at *
    generalize hv : val m = v at *
    refine Does.of (nt := 50) Tryd.func61 rfl rfl rfl (by simp) ?_
    simp only [argTm, PV.ext, Ce.ext]
    refine Do.seqk fun _ k1_ => ?_
    refine Do.region [1,2,3,4,5,6,12] true ?_
    simp [go_sem]
    apply k1_; clear k1_
    refine Do.seqk fun _ k2_ => ?_
    refine Do.draw [1,2,3,4,5,6,12,14] true (by kernel_rfl) ?_
    simp [go_sem]
    repeat (refine And.intro (by first | omega | (intros; omega) | kernel_rfl | grind) ?_)
    refine DoLD.call true 105 rfl rfl rfl rfl (by first | exact trivial | omega | (simp; done) | (simp; omega)) (hL) rfl (by first | exact .inl rfl | exact .inr rfl) rfl ?_
    simp [go_sem]
    repeat (refine And.intro (by first | omega | (intros; omega) | kernel_rfl | grind) ?_)
    refine DoLD.call true 108 rfl rfl rfl rfl (by first | exact trivial | omega | (simp; done) | (simp; omega)) (hL1) rfl (by first | exact .inl rfl | exact .inr rfl) rfl ?_
    simp [go_sem]
    repeat (refine And.intro (by first | omega | (intros; omega) | kernel_rfl | grind) ?_)
    try (refine And.intro (by kernel_rfl) ?_)
    apply k2_; clear k2_
    refine Do.seqk fun _ k3_ => ?_
    refine Do.seqk fun _ k4_ => ?_
    refine Do.region [1,2,3,4,5,6,12,14,27] true ?_
    simp [go_sem]
    apply k4_; clear k4_
    refine Do.cond [1,2,3,4,5,6,12,14] rfl (fun g1 => ?_) (fun g1 => ?_) <;> simp [go_sem] at g1 ⊢
    · exact absurd g1 (by omega)
    · refine Do.region [1,2,3,4,5,6,12,14] true ?_
      simp [go_sem]
      apply k3_; clear k3_
      refine Do.seqk fun _ k5_ => ?_
      refine Do.region [1,2,5,6,12,14,15,16] true ?_
      simp [go_sem]
      refine DoL.call true 503 rfl rfl rfl rfl (by first | exact trivial | omega | (simp; done) | (simp; omega)) (hD) rfl (by first | exact .inl rfl | exact .inr rfl) rfl ?_
      simp [go_sem]
      apply k5_; clear k5_
      refine Do.seqk fun _ k6_ => ?_
      refine Do.draw [12,13] true (by kernel_rfl) ?_
      simp [go_sem]
      repeat (refine And.intro (by first | omega | (intros; omega) | kernel_rfl | grind) ?_)
      refine DoLD.call true 609 rfl rfl rfl rfl (by first | exact trivial | omega | (simp; done) | (simp; omega)) (hZ) rfl (by first | exact .inl rfl | exact .inr rfl) rfl ?_
      simp [go_sem]
      repeat (refine And.intro (by first | omega | (intros; omega) | kernel_rfl | grind) ?_)
      refine DoLD.call true 611 rfl rfl rfl rfl (by first | exact trivial | omega | (simp; done) | (simp; omega)) (hF) rfl (by first | exact .inl rfl | exact .inr rfl) rfl ?_
      simp [go_sem]
      repeat (refine And.intro (by first | omega | (intros; omega) | kernel_rfl | grind) ?_)
      try (refine And.intro (by kernel_rfl) ?_)
      apply k6_; clear k6_
      refine Do.ret ?_
      simp [endQ, rets, ret1, go_sem]
      repeat (refine And.intro (by first | omega | (intros; omega) | grind) ?_)
      exact TLe.refl _
end Go.Proofs.YtokgalpflooegaaDoor
/- Conversions, plain. No condition. -/
namespace Go.Proofs.YtokgalpflooegaaDoor
set_option linter.unusedVariables false
set_option linter.unusedSimpArgs false
set_option maxHeartbeats 4000000
set_option maxRecDepth 10000
/-- The error of a conversion's arguments. -/
def argsC (f p g q r : Int) (b : Bool) (x : Fla) : Int :=
  if 4096 < x.m.length then 2 else if (decide (0 ≤ r) && decide (r ≤ 4) && !b) = false then 1 else if fmOk f p = false ∨ fmOk g q = false then 150 else if (holdsP f p x.flt).2 = false then 151 else 0
theorem argsC_zero {f p g q r : Int} {b : Bool} {x : Fla} (h : argsC f p g q r b x = 0) : x.m.length ≤ 4096 ∧ 0 ≤ r ∧ r ≤ 4 ∧ b = false ∧ fmOk f p = true ∧ fmOk g q = true ∧ (holdsP f p x.flt).2 = true := by
  unfold argsC at h
  by_cases h1 : 4096 < x.m.length
  · simp [h1] at h
  · cases h2 : (decide (0 ≤ r) && decide (r ≤ 4) && !b) <;> cases h3 : fmOk f p <;> cases h4 : fmOk g q <;> cases h5 : (holdsP f p x.flt).2 <;> simp [h1, h2, h3, h4, h5] at h
    simp only [Bool.and_eq_true, decide_eq_true_eq, Bool.not_eq_true'] at h2
    exact ⟨by omega, h2.1.1, h2.1.2, h2.2, rfl, rfl, rfl⟩
theorem argsC_ok {f p g q r : Int} {x : Fla} (h1 : x.m.length ≤ 4096) (h2 : 0 ≤ r) (h3 : r ≤ 4) (h4 : fmOk f p = true) (h5 : fmOk g q = true) (h6 : (holdsP f p x.flt).2 = true) : argsC f p g q r false x = 0 := by
  unfold argsC
  rw [if_neg (by omega), if_neg (by simp; omega), if_neg (by simp [h4, h5]), if_neg (by rw [h6]; decide)]
/-- A float, rounded to a format. -/
def convA (g q r : Int) (a : Flt) : Flt × Int := if a.k = 1 then (Nu.mk a.n a.v a.e).round g q r false else (a, 0)
def convP (f p g q r : Int) (x : Fla) : Flt × Int × Int :=
  if argsC f p g q r false x = 0 then ((convA g q r (holdsP f p x.flt).1).1, (convA g q r (holdsP f p x.flt).1).2, 0) else (⟨0, false, 0, 0⟩, 0, argsC f p g q r false x)
/-- Is every float of a format one of another? -/
def fitP (f p g q : Int) : Bool := decide (p ≤ q) && decide (gOfE f ≤ gOfE g) && decide (1 - gOfE g - (q - 1) ≤ 1 - gOfE f - (p - 1))
end Go.Proofs.YtokgalpflooegaaDoor
/- The integer part of a number; the arguments of conversions. No condition. -/
namespace Go.Proofs.YtokgalpflooegaaDoor
set_option linter.unusedVariables false
set_option linter.unusedSimpArgs false
set_option maxHeartbeats 4000000
set_option maxRecDepth 10000
/-- A number, rounded to an integer, and whether it is one. -/
def wholeP (r : Int) (x : Nu) : Nat × Bool := (upP r x.n (cutP x.v (-x.e) false).1 (cutP x.v (-x.e) false).2, decide ((cutP x.v (-x.e) false).2 = 0))
theorem sgn_neg (n : Bool) (v : Nat) : (n && decide (0 < ((nat v).length : Int))) = decide (sgn n v < 0) := by
  have h : 0 < (nat v).length ↔ v ≠ 0 := nat_len_zero v
  cases n
  · simp [sgn]
  · simp only [Bool.true_and, sgn, if_true]
    congr 1
    apply propext
    constructor
    · intro h1
      have := h.1 (by omega)
      omega
    · intro h1
      have := h.2 (by omega)
      omega
theorem PLe.iv20 {n : Bool} {v : Nat} {c : Ce} {b : Bool} (hb : b = decide (sgn n v < 0)) (h : PLe (.c c) (.c (.w false (nat v)))) : PLe (.a [.b b, c]) (Iv (sgn n v)) := by
  subst hb
  show PLe _ (Ig (decide (sgn n v < 0)) (nat (sgn n v).natAbs))
  rw [sgn_abs]
  exact PLe.agg (.cons (PLe.refl _) (.cons h .nil))
theorem WholeN_does {r : Int} (hr : 0 ≤ r) (hr' : r ≤ 4) {x : Nu} (hx : x.Ok) : Does Tryd.prog Gv 43 [x.pv, .c (.i .i64 r)] (.t [Iv (sgn x.n (wholeP r x).1), .c (.b (wholeP r x).2)]) := by
  obtain ⟨n, v, e⟩ := x
  have hl := hx.len
  obtain ⟨h1, h2⟩ := hx
  simp only [] at h1 h2 hl
  unfold wholeP
  simp only []
  have hc := @cut_does (nat v) (-e) false (by omega) (nat_ws _) (by omega) (by omega)
  have hcl := cutP_bl v (-e) false
  rw [val_nat] at hc
  generalize cutP v (-e) false = c at *
  obtain ⟨c1, c2⟩ := c
  simp only [] at hc hcl
  have hlc := nat_len_bl c1
  have hu := @up_does r n (nat c1) c2 hr hr' (by omega) (nat_ws _)
  rw [val_nat] at hu
  simp only []
  generalize upP r n c1 c2 = u at *
  have hs := sgn_neg n u
  refine Does.of (nt := 34) Tryd.func43 rfl rfl rfl (by simp) ?_
  simp only [argTm, PV.ext, Ce.ext]
  refine Do.seqk fun _ k1_ => ?_
  refine Do.region [1,2,4] true ?_
  simp [go_sem]
  apply k1_; clear k1_
  refine Do.seqk fun _ k2_ => ?_
  refine Do.region [1,2,4,6,7] true ?_
  simp [go_sem]
  repeat (refine And.intro (by first | omega | (intros; omega) | grind) ?_)
  refine DoL.call true 106 rfl rfl rfl rfl (by first | exact trivial | omega | (simp; done) | (simp; omega)) (hc) rfl (by first | exact .inl rfl | exact .inr rfl) rfl ?_
  simp [go_sem]
  apply k2_; clear k2_
  refine Do.seqk fun _ k3_ => ?_
  refine Do.region [2,4,6,7] true ?_
  simp [go_sem]
  repeat (refine And.intro (by first | omega | (intros; omega) | grind) ?_)
  refine DoL.call true 206 rfl rfl rfl rfl (by first | exact trivial | omega | (simp; done) | (simp; omega)) (hu) rfl (by first | exact .inl rfl | exact .inr rfl) rfl ?_
  simp [go_sem]
  apply k3_; clear k3_
  refine Do.seqk fun _ k4_ => ?_
  refine Do.region [4,5] true ?_
  simp [go_sem]
  repeat (refine And.intro (by first | omega | (intros; omega) | grind) ?_)
  apply k4_; clear k4_
  refine Do.ret ?_
  simp [endQ, rets, ret1, go_sem]
  repeat (refine And.intro (by first | omega | (intros; omega) | grind) ?_)
  exact TLe.t (.cons (PLe.iv20 (by simpa using hs) (by first | exact PLe.refl _ | exact PLe.ext (.c (.w true _)))) (.cons (PLe.refl _) .nil))
theorem cargs_does {f p g q r : Int} {b : Bool} {x : Fla} (hx : x.Ok) : Does Tryd.prog Gv 40 [Fm f p, Fm g q, .c (.i .i64 r), .c (.b b), Fl x.k x.n x.e x.m] (.t [(if argsC f p g q r b x = 0 then (holdsP f p x.flt).1 else ⟨0, false, 0, 0⟩).pv, .c (.i .i64 (argsC f p g q r b x))]) := by
  have hsh := hx.sh
  by_cases he : argsC f p g q r b x = 0
  · obtain ⟨h1, h2, h3, h4, h5, h6, h7⟩ := argsC_zero he
    rw [if_pos he, he]
    have hO : DoesO Tryd.prog Gv 68 [Fm f p, .s false [x.cs]] 4 [(holdsP f p x.flt).1.cs] [.c (.i .i64 0)] := @Floats_own f p [x] (by simp) (by simpa using h1) h5 (by simpa using hx) (by simpa [allHold] using h7)
    generalize (holdsP f p x.flt).1 = a at *
    have hc1 : Does Tryd.prog Gv 59 [Fm f p] (.v (.c (.i .i64 0))) := by have := @Check_does Gv f p; rwa [if_pos h5] at this
    have hc2 : Does Tryd.prog Gv 59 [Fm g q] (.v (.c (.i .i64 0))) := by have := @Check_does Gv g q; rwa [if_pos h6] at this
    have hR : Does Tryd.prog Gv 78 [.c (.i .i64 r)] (.v (.c (.b true))) := by have := @Right_does Gv r; rwa [show (decide (0 ≤ r) && decide (r ≤ 4)) = true by simp; omega] at this
    subst h4
    refine Does.of (nt := 52) Tryd.func40 rfl rfl rfl (by simp) ?_
    simp only [argTm, PV.ext, Ce.ext]
    refine Do.seqk fun _ k1_ => ?_
    refine Do.region [2,3,5,6,9,10] true ?_
    simp [go_sem]
    apply k1_; clear k1_
    refine Do.seqk fun _ k2_ => ?_
    refine Do.block ?_
    refine Do.seqk fun _ k3_ => ?_
    refine Do.region [2,3,5,6,9,10,14] true ?_
    simp [go_sem]
    repeat (refine And.intro (by first | omega | (intros; omega) | grind) ?_)
    apply k3_; clear k3_
    refine Do.cond [2,3,5,6,9,10] rfl (fun g1 => ?_) (fun g1 => ?_) <;> simp [go_sem] at g1 ⊢
    · omega
    · refine Do.seqk fun _ k4_ => ?_
      refine Do.region [5,6,9,10,20] true ?_
      simp [go_sem]
      refine DoL.call true 302 rfl rfl rfl rfl (by first | exact trivial | omega | (simp; done) | (simp; omega)) (hR) rfl (by first | exact .inl rfl | exact .inr rfl) rfl ?_
      simp [go_sem]
      repeat (refine And.intro (by first | omega | (intros; omega) | grind) ?_)
      apply k4_; clear k4_
      refine Do.cond [5,6,9,10] rfl (fun g2 => ?_) (fun g2 => ?_) <;> simp [go_sem] at g2 ⊢
      refine Do.seqk fun _ k5_ => ?_
      refine Do.region [5,9,10,28] true ?_
      simp [go_sem]
      repeat (refine And.intro (by first | omega | (intros; omega) | grind) ?_)
      refine DoL.call true 502 rfl rfl rfl rfl (by first | exact trivial | omega | (simp; done) | (simp; omega)) (hc1) rfl (by first | exact .inl rfl | exact .inr rfl) rfl ?_
      simp [go_sem]
      repeat (refine And.intro (by first | omega | (intros; omega) | grind) ?_)
      refine DoL.callg true 506 rfl rfl rfl rfl rfl (by simp [go_sem] <;> omega) (fun _ => hc2) rfl (by first | exact .inl rfl | exact .inr rfl) rfl ?_
      simp [go_sem]
      apply k5_; clear k5_
      refine Do.cond [5,9,10] rfl (fun g3 => ?_) (fun g3 => ?_) <;> simp [go_sem] at g3 ⊢
      refine Do.skip ?_
      simp [go_sem]
      apply k2_; clear k2_
      refine Do.seqk fun _ k6_ => ?_
      refine Do.region [10,12,13] true ?_
      simp [go_sem]
      repeat (refine And.intro (by first | omega | (intros; omega) | grind) ?_)
      refine DoL.sealS true 703 702 rfl ?_
      simp [go_sem]
      refine DoL.callO true 704 3000 rfl rfl rfl rfl (by first | exact trivial | omega | (simp; done) | (simp; omega)) (hO) rfl rfl rfl ?_
      simp [go_sem]
      apply k6_; clear k6_
      refine Do.seqk fun _ k7_ => ?_
      refine Do.seqk fun _ k8_ => ?_
      refine Do.region [10,12,13,46] true ?_
      simp [go_sem]
      apply k8_; clear k8_
      refine Do.cond [10,12,13] rfl (fun g4 => ?_) (fun g4 => ?_) <;> simp [go_sem] at g4 ⊢
      refine Do.skip ?_
      simp [go_sem]
      apply k7_; clear k7_
      refine Do.seqk fun _ k9_ => ?_
      refine Do.region [10,11] true ?_
      simp [go_sem]
      repeat (refine And.intro (by first | omega | (intros; omega) | grind) ?_)
      apply k9_; clear k9_
      refine Do.ret ?_
      simp [endQ, rets, ret1, go_sem]
      repeat (refine And.intro (by first | omega | (intros; omega) | grind) ?_)
      exact TLe.refl _
  · rw [if_neg he]
    have hc1 := @Check_does Gv f p
    have hc2 := @Check_does Gv g q
    have hR := @Right_does Gv r
    have hz : argsC f p g q r b x = argsC f p g q r b x := rfl
    conv at hz => rhs; unfold argsC
    have hF : x.m.length ≤ 4096 → fmOk f p = true → (holdsP f p x.flt).2 = false → Does Tryd.prog Gv 68 [Fm f p, .s false [x.cs]] (.t [.c .z, .c (.i .i64 151)]) := fun a1 a2 a3 => (@Floats_fine f p [x] (by simp) (by simpa using a1) (by simpa using hx)).2 a2 (by simpa [allHold] using a3)
    generalize argsC f p g q r b x = z at *
    by_cases g1 : 4096 < x.m.length
    · rw [if_pos g1] at hz
      subst hz
      refine Does.of (nt := 52) Tryd.func40 rfl rfl rfl (by simp) ?_
      simp only [argTm, PV.ext, Ce.ext]
      refine Do.seqk fun _ k1_ => ?_
      refine Do.region [2,3,5,6,9,10] true ?_
      simp [go_sem]
      apply k1_; clear k1_
      refine Do.seqk fun _ k2_ => ?_
      refine Do.block ?_
      refine Do.seqk fun _ k3_ => ?_
      refine Do.region [2,3,5,6,9,10,14] true ?_
      simp [go_sem]
      repeat (refine And.intro (by first | omega | (intros; omega) | grind) ?_)
      apply k3_; clear k3_
      refine Do.cond [2,3,5,6,9,10] rfl (fun g2 => ?_) (fun g2 => ?_) <;> simp [go_sem] at g2 ⊢
      · refine Do.seqk fun _ k4_ => ?_
        refine Do.region [10,11] true ?_
        simp [go_sem]
        repeat (refine And.intro (by first | omega | (intros; omega) | grind) ?_)
        apply k4_; clear k4_
        refine Do.ret ?_
        simp [endQ, rets, ret1, go_sem]
        repeat (refine And.intro (by first | omega | (intros; omega) | grind) ?_)
        exact TLe.t (.cons (PLe.flt (ret_z rfl)) (.cons (PLe.refl _) .nil))
      · omega
    · rw [if_neg g1] at hz
      cases g2 : (decide (0 ≤ r) && decide (r ≤ 4) && !b) with
      | false =>
        rw [if_pos g2] at hz
        subst hz
        generalize (decide (0 ≤ r) && decide (r ≤ 4)) = rr at *
        have g3 : (!rr || b) = true := by cases rr <;> cases b <;> simp_all
        refine Does.of (nt := 52) Tryd.func40 rfl rfl rfl (by simp) ?_
        simp only [argTm, PV.ext, Ce.ext]
        refine Do.seqk fun _ k1_ => ?_
        refine Do.region [2,3,5,6,9,10] true ?_
        simp [go_sem]
        apply k1_; clear k1_
        refine Do.seqk fun _ k2_ => ?_
        refine Do.block ?_
        refine Do.seqk fun _ k3_ => ?_
        refine Do.region [2,3,5,6,9,10,14] true ?_
        simp [go_sem]
        repeat (refine And.intro (by first | omega | (intros; omega) | grind) ?_)
        apply k3_; clear k3_
        refine Do.cond [2,3,5,6,9,10] rfl (fun g4 => ?_) (fun g4 => ?_) <;> simp [go_sem] at g4 ⊢
        · omega
        · refine Do.seqk fun _ k4_ => ?_
          refine Do.region [5,6,9,10,20] true ?_
          simp [go_sem]
          refine DoL.call true 302 rfl rfl rfl rfl (by first | exact trivial | omega | (simp; done) | (simp; omega)) (hR) rfl (by first | exact .inl rfl | exact .inr rfl) rfl ?_
          simp [go_sem]
          repeat (refine And.intro (by first | omega | (intros; omega) | grind) ?_)
          apply k4_; clear k4_
          refine Do.cond [5,6,9,10] rfl (fun g5 => ?_) (fun g5 => ?_) <;> simp [go_sem, g3] at g5 ⊢
          refine Do.seqk fun _ k5_ => ?_
          refine Do.region [10,11] true ?_
          simp [go_sem, g3]
          repeat (refine And.intro (by first | omega | (intros; omega) | grind) ?_)
          apply k5_; clear k5_
          refine Do.ret ?_
          simp [endQ, rets, ret1, go_sem, g3]
          repeat (refine And.intro (by first | omega | (intros; omega) | grind) ?_)
          exact TLe.t (.cons (PLe.flt (ret_z rfl)) (.cons (PLe.refl _) .nil))
      | true =>
        rw [if_neg (by simp [g2])] at hz
        generalize (decide (0 ≤ r) && decide (r ≤ 4)) = rr at *
        have g3 : (!rr || b) = false := by cases rr <;> cases b <;> simp_all
        by_cases g6 : fmOk f p = false ∨ fmOk g q = false
        · rw [if_pos g6] at hz
          subst hz
          refine Does.of (nt := 52) Tryd.func40 rfl rfl rfl (by simp) ?_
          simp only [argTm, PV.ext, Ce.ext]
          refine Do.seqk fun _ k1_ => ?_
          refine Do.region [2,3,5,6,9,10] true ?_
          simp [go_sem]
          apply k1_; clear k1_
          refine Do.seqk fun _ k2_ => ?_
          refine Do.block ?_
          refine Do.seqk fun _ k3_ => ?_
          refine Do.region [2,3,5,6,9,10,14] true ?_
          simp [go_sem]
          repeat (refine And.intro (by first | omega | (intros; omega) | grind) ?_)
          apply k3_; clear k3_
          refine Do.cond [2,3,5,6,9,10] rfl (fun g4 => ?_) (fun g4 => ?_) <;> simp [go_sem] at g4 ⊢
          · omega
          · refine Do.seqk fun _ k4_ => ?_
            refine Do.region [5,6,9,10,20] true ?_
            simp [go_sem]
            refine DoL.call true 302 rfl rfl rfl rfl (by first | exact trivial | omega | (simp; done) | (simp; omega)) (hR) rfl (by first | exact .inl rfl | exact .inr rfl) rfl ?_
            simp [go_sem]
            repeat (refine And.intro (by first | omega | (intros; omega) | grind) ?_)
            apply k4_; clear k4_
            refine Do.cond [5,6,9,10] rfl (fun g5 => ?_) (fun g5 => ?_) <;> simp [go_sem, g3] at g5 ⊢
            refine Do.seqk fun _ k5_ => ?_
            refine Do.region [5,9,10,28] true ?_
            simp [go_sem, g3]
            repeat (refine And.intro (by first | omega | (intros; omega) | grind) ?_)
            refine DoL.call true 502 rfl rfl rfl rfl (by first | exact trivial | omega | (simp; done) | (simp; omega)) (hc1) rfl (by first | exact .inl rfl | exact .inr rfl) rfl ?_
            simp [go_sem, g3]
            repeat (refine And.intro (by first | omega | (intros; omega) | grind) ?_)
            refine DoL.callg true 506 rfl rfl rfl rfl rfl (by simp [go_sem] <;> omega) (fun _ => hc2) rfl (by first | exact .inl rfl | exact .inr rfl) rfl ?_
            simp [go_sem, g3]
            apply k5_; clear k5_
            refine Do.cond [5,9,10] rfl (fun g7 => ?_) (fun g7 => ?_) <;> simp [go_sem, g3] at g7 ⊢
            · refine Do.seqk fun _ k6_ => ?_
              refine Do.region [10,11] true ?_
              simp [go_sem, g3]
              repeat (refine And.intro (by first | omega | (intros; omega) | grind) ?_)
              apply k6_; clear k6_
              refine Do.ret ?_
              simp [endQ, rets, ret1, go_sem, g3]
              repeat (refine And.intro (by first | omega | (intros; omega) | grind) ?_)
              exact TLe.t (.cons (PLe.flt (ret_z rfl)) (.cons (PLe.refl _) .nil))
            · rcases g6 with g6 | g6 <;> simp [g6] at g7
        · rw [if_neg g6] at hz
          simp only [not_or, Bool.not_eq_false] at g6
          obtain ⟨g7, g8⟩ := g6
          rw [if_pos g7] at hc1
          rw [if_pos g8] at hc2
          cases g9 : (holdsP f p x.flt).2 with
          | true => rw [if_neg (by simp [g9])] at hz; exact absurd hz he
          | false =>
            rw [if_pos g9] at hz
            subst hz
            have hF := hF (by omega) g7 g9
            refine Does.of (nt := 52) Tryd.func40 rfl rfl rfl (by simp) ?_
            simp only [argTm, PV.ext, Ce.ext]
            refine Do.seqk fun _ k1_ => ?_
            refine Do.region [2,3,5,6,9,10] true ?_
            simp [go_sem]
            apply k1_; clear k1_
            refine Do.seqk fun _ k2_ => ?_
            refine Do.block ?_
            refine Do.seqk fun _ k3_ => ?_
            refine Do.region [2,3,5,6,9,10,14] true ?_
            simp [go_sem]
            repeat (refine And.intro (by first | omega | (intros; omega) | grind) ?_)
            apply k3_; clear k3_
            refine Do.cond [2,3,5,6,9,10] rfl (fun g4 => ?_) (fun g4 => ?_) <;> simp [go_sem] at g4 ⊢
            · omega
            · refine Do.seqk fun _ k4_ => ?_
              refine Do.region [5,6,9,10,20] true ?_
              simp [go_sem]
              refine DoL.call true 302 rfl rfl rfl rfl (by first | exact trivial | omega | (simp; done) | (simp; omega)) (hR) rfl (by first | exact .inl rfl | exact .inr rfl) rfl ?_
              simp [go_sem]
              repeat (refine And.intro (by first | omega | (intros; omega) | grind) ?_)
              apply k4_; clear k4_
              refine Do.cond [5,6,9,10] rfl (fun g5 => ?_) (fun g5 => ?_) <;> simp [go_sem, g3] at g5 ⊢
              refine Do.seqk fun _ k5_ => ?_
              refine Do.region [5,9,10,28] true ?_
              simp [go_sem, g3]
              repeat (refine And.intro (by first | omega | (intros; omega) | grind) ?_)
              refine DoL.call true 502 rfl rfl rfl rfl (by first | exact trivial | omega | (simp; done) | (simp; omega)) (hc1) rfl (by first | exact .inl rfl | exact .inr rfl) rfl ?_
              simp [go_sem, g3]
              repeat (refine And.intro (by first | omega | (intros; omega) | grind) ?_)
              refine DoL.callg true 506 rfl rfl rfl rfl rfl (by simp [go_sem] <;> omega) (fun _ => hc2) rfl (by first | exact .inl rfl | exact .inr rfl) rfl ?_
              simp [go_sem, g3]
              apply k5_; clear k5_
              refine Do.cond [5,9,10] rfl (fun g10 => ?_) (fun g10 => ?_) <;> simp [go_sem, g3] at g10 ⊢
              refine Do.skip ?_
              simp [go_sem]
              apply k2_; clear k2_
              refine Do.seqk fun _ k6_ => ?_
              refine Do.region [10,12,13] true ?_
              simp [go_sem, g3]
              repeat (refine And.intro (by first | omega | (intros; omega) | grind) ?_)
              refine DoL.sealS true 703 702 rfl ?_
              simp [go_sem]
              refine DoL.call true 704 rfl rfl rfl rfl (by first | exact trivial | omega | (simp; done) | (simp; omega)) (hF) rfl (by first | exact .inl rfl | exact .inr rfl) rfl ?_
              simp [go_sem, g3]
              apply k6_; clear k6_
              refine Do.seqk fun _ k7_ => ?_
              refine Do.seqk fun _ k8_ => ?_
              refine Do.region [10,12,13,46] true ?_
              simp [go_sem, g3]
              apply k8_; clear k8_
              refine Do.cond [10,12,13] rfl (fun g11 => ?_) (fun g11 => ?_) <;> simp [go_sem, g3] at g11 ⊢
              refine Do.seqk fun _ k9_ => ?_
              refine Do.region [10,11] true ?_
              simp [go_sem, g3]
              repeat (refine And.intro (by first | omega | (intros; omega) | grind) ?_)
              apply k9_; clear k9_
              refine Do.ret ?_
              simp [endQ, rets, ret1, go_sem, g3]
              repeat (refine And.intro (by first | omega | (intros; omega) | grind) ?_)
              exact TLe.t (.cons (PLe.flt (ret_z rfl)) (.cons (PLe.refl _) .nil))
theorem number_does20 {k : Int} {n : Bool} {e : Int} {m : List Nat} : Does Tryd.prog Gv 41 [Fl k n e m] (.v (.c (.b (decide (k = 1) || decide (k = 0))))) := by
  refine Does.of (nt := 11) Tryd.func41 rfl rfl rfl (by simp) ?_
  simp only [argTm, PV.ext, Ce.ext]
  refine Do.seqk fun _ k1_ => ?_
  refine Do.region [1] true ?_
  simp [go_sem]
  apply k1_; clear k1_
  refine Do.seqk fun _ k2_ => ?_
  refine Do.region [2] true ?_
  simp [go_sem]
  repeat (refine And.intro (by first | omega | (intros; omega) | grind) ?_)
  apply k2_; clear k2_
  refine Do.ret ?_
  simp [endQ, rets, ret1, go_sem]
  repeat (refine And.intro (by first | omega | (intros; omega) | grind) ?_)
  exact TLe.refl _
theorem flag_does20 {b : Bool} : Does Tryd.prog Gv 44 [.c (.b b)] (.v (.c (.i .i64 (if b then 0 else 1)))) := by
  cases b
  · skip
    refine Does.of (nt := 4) Tryd.func44 rfl rfl rfl (by simp) ?_
    simp only [argTm, PV.ext, Ce.ext]
    refine Do.seqk fun _ k1_ => ?_
    refine Do.region [0] true ?_
    simp [go_sem]
    apply k1_; clear k1_
    refine Do.seqk fun _ k2_ => ?_
    refine Do.seqk fun _ k3_ => ?_
    refine Do.region [3] true ?_
    simp [go_sem]
    apply k3_; clear k3_
    refine Do.cond [] rfl (fun h => ?_) (fun h => ?_) <;> simp [go_sem] at h ⊢
    refine Do.skip ?_
    simp [go_sem]
    apply k2_; clear k2_
    refine Do.seqk fun _ k4_ => ?_
    refine Do.region [2] true ?_
    simp [go_sem]
    apply k4_; clear k4_
    refine Do.ret ?_
    simp [endQ, rets, ret1, go_sem]
    repeat (refine And.intro (by first | omega | (intros; omega) | grind) ?_)
    exact TLe.refl _
  · skip
    refine Does.of (nt := 4) Tryd.func44 rfl rfl rfl (by simp) ?_
    simp only [argTm, PV.ext, Ce.ext]
    refine Do.seqk fun _ k1_ => ?_
    refine Do.region [0] true ?_
    simp [go_sem]
    apply k1_; clear k1_
    refine Do.seqk fun _ k2_ => ?_
    refine Do.seqk fun _ k3_ => ?_
    refine Do.region [3] true ?_
    simp [go_sem]
    apply k3_; clear k3_
    refine Do.cond [] rfl (fun h => ?_) (fun h => ?_) <;> simp [go_sem] at h ⊢
    refine Do.seqk fun _ k4_ => ?_
    refine Do.region [2] true ?_
    simp [go_sem]
    apply k4_; clear k4_
    refine Do.ret ?_
    simp [endQ, rets, ret1, go_sem]
    repeat (refine And.intro (by first | omega | (intros; omega) | grind) ?_)
    exact TLe.refl _
theorem Convert_does {f p g q r : Int} {x : Fla} (hx : x.Ok) : Does Tryd.prog Gv 16 [Fm f p, Fm g q, .c (.i .i64 r), Fl x.k x.n x.e x.m] (Res (convP f p g q r x)) := by
  have hA := @cargs_does f p g q r false x hx
  unfold convP
  by_cases he : argsC f p g q r false x = 0
  · obtain ⟨h1, h2, h3, h4, h5, h6, h7⟩ := argsC_zero he
    rw [if_pos he, he] at hA
    rw [if_pos he]
    have hb := holdsP_bound h5 h7
    generalize (holdsP f p x.flt).1 = a at *
    have hF := fun (ok : (Nu.mk a.n a.v a.e).Ok) => @NFloat_does g q r h6 h2 h3 (Nu.mk a.n a.v a.e) false ok
    unfold convA
    by_cases hk : a.k = 1
    · rw [if_pos hk]
      have hF := hF ⟨(hb hk).1, by have := (hb hk).2; show a.e + bl a.v ≤ 4194304; omega⟩
      generalize (Nu.mk a.n a.v a.e).round g q r false = z at *
      refine Does.of (nt := 41) Tryd.func16 rfl rfl rfl (by simp) ?_
      simp only [argTm, PV.ext, Ce.ext]
      refine Do.seqk fun _ k1_ => ?_
      refine Do.region [2,4,5,7,8] true ?_
      simp [go_sem]
      apply k1_; clear k1_
      refine Do.seqk fun _ k2_ => ?_
      refine Do.region [2,5,7,8,11] true ?_
      simp [go_sem]
      repeat (refine And.intro (by first | omega | (intros; omega) | grind) ?_)
      refine DoL.call true 105 rfl rfl rfl rfl (by first | exact trivial | omega | (simp; done) | (simp; omega)) (hA) rfl (by first | exact .inl rfl | exact .inr rfl) rfl ?_
      simp [go_sem]
      repeat (refine And.intro (by first | omega | (intros; omega) | grind) ?_)
      apply k2_; clear k2_
      refine Do.seqk fun _ k3_ => ?_
      refine Do.seqk fun _ k4_ => ?_
      refine Do.region [2,5,7,8,11,28] true ?_
      simp [go_sem]
      repeat (refine And.intro (by first | omega | (intros; omega) | grind) ?_)
      apply k4_; clear k4_
      refine Do.cond [2,5,7,8,11] rfl (fun g1 => ?_) (fun g1 => ?_) <;> simp [go_sem] at g1 ⊢
      · exact absurd hk g1
      · refine Do.skip ?_
        simp [go_sem]
        apply k3_; clear k3_
        refine Do.seqk fun _ k5_ => ?_
        refine Do.draw [8,12,13] true (by kernel_rfl) ?_
        simp [go_sem]
        repeat (refine And.intro (by first | omega | (intros; omega) | kernel_rfl | grind) ?_)
        refine DoLD.call true 402 rfl rfl rfl rfl (by first | exact trivial | omega | (simp; done) | (simp; omega)) (Of_does) rfl (by first | exact .inl rfl | exact .inr rfl) rfl ?_
        simp [go_sem]
        repeat (refine And.intro (by first | omega | (intros; omega) | kernel_rfl | grind) ?_)
        refine DoLD.call true 405 rfl rfl rfl rfl (by first | exact trivial | omega | (simp; done) | (simp; omega)) (hF) rfl (by first | exact .inl rfl | exact .inr rfl) rfl ?_
        simp [go_sem]
        repeat (refine And.intro (by first | omega | (intros; omega) | kernel_rfl | grind) ?_)
        try (refine And.intro (by kernel_rfl) ?_)
        apply k5_; clear k5_
        refine Do.seqk fun _ k6_ => ?_
        refine Do.region [8,9,10] true ?_
        simp [go_sem]
        repeat (refine And.intro (by first | omega | (intros; omega) | grind) ?_)
        apply k6_; clear k6_
        refine Do.ret ?_
        simp [endQ, rets, ret1, go_sem]
        repeat (refine And.intro (by first | omega | (intros; omega) | grind) ?_)
        exact TLe.refl _
    · rw [if_neg hk]
      refine Does.of (nt := 41) Tryd.func16 rfl rfl rfl (by simp) ?_
      simp only [argTm, PV.ext, Ce.ext]
      refine Do.seqk fun _ k1_ => ?_
      refine Do.region [2,4,5,7,8] true ?_
      simp [go_sem]
      apply k1_; clear k1_
      refine Do.seqk fun _ k2_ => ?_
      refine Do.region [2,5,7,8,11] true ?_
      simp [go_sem]
      repeat (refine And.intro (by first | omega | (intros; omega) | grind) ?_)
      refine DoL.call true 105 rfl rfl rfl rfl (by first | exact trivial | omega | (simp; done) | (simp; omega)) (hA) rfl (by first | exact .inl rfl | exact .inr rfl) rfl ?_
      simp [go_sem]
      repeat (refine And.intro (by first | omega | (intros; omega) | grind) ?_)
      apply k2_; clear k2_
      refine Do.seqk fun _ k3_ => ?_
      refine Do.seqk fun _ k4_ => ?_
      refine Do.region [2,5,7,8,11,28] true ?_
      simp [go_sem]
      repeat (refine And.intro (by first | omega | (intros; omega) | grind) ?_)
      apply k4_; clear k4_
      refine Do.cond [2,5,7,8,11] rfl (fun g1 => ?_) (fun g1 => ?_) <;> simp [go_sem] at g1 ⊢
      · refine Do.seqk fun _ k5_ => ?_
        refine Do.region [8,9,10] true ?_
        simp [go_sem]
        repeat (refine And.intro (by first | omega | (intros; omega) | grind) ?_)
        apply k5_; clear k5_
        refine Do.ret ?_
        simp [endQ, rets, ret1, go_sem]
        repeat (refine And.intro (by first | omega | (intros; omega) | grind) ?_)
        exact TLe.refl _
      · exact absurd g1 hk
  · rw [if_neg he] at hA
    rw [if_neg he]
    generalize argsC f p g q r false x = z at *
    have hz : (z != 0) = true := by simpa using he
    refine Does.of (nt := 41) Tryd.func16 rfl rfl rfl (by simp) ?_
    simp only [argTm, PV.ext, Ce.ext]
    refine Do.seqk fun _ k1_ => ?_
    refine Do.region [2,4,5,7,8] true ?_
    simp [go_sem]
    apply k1_; clear k1_
    refine Do.seqk fun _ k2_ => ?_
    refine Do.region [2,5,7,8,11] true ?_
    simp [go_sem]
    repeat (refine And.intro (by first | omega | (intros; omega) | grind) ?_)
    refine DoL.call true 105 rfl rfl rfl rfl (by first | exact trivial | omega | (simp; done) | (simp; omega)) (hA) rfl (by first | exact .inl rfl | exact .inr rfl) rfl ?_
    simp [go_sem]
    repeat (refine And.intro (by first | omega | (intros; omega) | grind) ?_)
    apply k2_; clear k2_
    refine Do.seqk fun _ k3_ => ?_
    refine Do.seqk fun _ k4_ => ?_
    refine Do.region [2,5,7,8,11,28] true ?_
    simp [go_sem, hz]
    repeat (refine And.intro (by first | omega | (intros; omega) | grind) ?_)
    apply k4_; clear k4_
    refine Do.cond [2,5,7,8,11] rfl (fun g1 => ?_) (fun g1 => ?_) <;> simp [go_sem, hz] at g1 ⊢
    refine Do.seqk fun _ k5_ => ?_
    refine Do.region [8,9,10] true ?_
    simp [go_sem, hz]
    repeat (refine And.intro (by first | omega | (intros; omega) | grind) ?_)
    apply k5_; clear k5_
    refine Do.ret ?_
    simp [endQ, rets, ret1, go_sem, hz]
    repeat (refine And.intro (by first | omega | (intros; omega) | grind) ?_)
    exact TLe.refl _
theorem Fit_does20 {f p g q : Int} (hf : fmOk f p = true) (hg : fmOk g q = true) : Does Tryd.prog Gv 15 [Fm f p, Fm g q] (.t [.c (.b (fitP f p g q)), .c (.i .i64 0)]) := by
  have h1 := @Range_does Gv f p hf
  have h2 := @Range_does Gv g q hg
  unfold fitP
  generalize (1 - gOfE f - (p - 1)) = t1 at *
  generalize (1 - gOfE g - (q - 1)) = t2 at *
  refine Does.of (nt := 48) Tryd.func15 rfl rfl rfl (by simp) ?_
  simp only [argTm, PV.ext, Ce.ext]
  refine Do.seqk fun _ k1_ => ?_
  refine Do.region [2,3] true ?_
  simp [go_sem]
  apply k1_; clear k1_
  refine Do.seqk fun _ k2_ => ?_
  refine Do.region [2,3,7,8,9] true ?_
  simp [go_sem]
  repeat (refine And.intro (by first | omega | (intros; omega) | grind) ?_)
  refine DoL.call true 102 rfl rfl rfl rfl (by first | exact trivial | omega | (simp; done) | (simp; omega)) (h1) rfl (by first | exact .inl rfl | exact .inr rfl) rfl ?_
  simp [go_sem]
  apply k2_; clear k2_
  refine Do.seqk fun _ k3_ => ?_
  refine Do.seqk fun _ k4_ => ?_
  refine Do.region [2,3,7,8,9,21] true ?_
  simp [go_sem]
  apply k4_; clear k4_
  refine Do.cond [2,3,7,8,9] rfl (fun g1 => ?_) (fun g1 => ?_) <;> simp [go_sem] at g1 ⊢
  refine Do.skip ?_
  simp [go_sem]
  apply k3_; clear k3_
  refine Do.seqk fun _ k5_ => ?_
  refine Do.region [2,3,7,8,9,11,12] true ?_
  simp [go_sem]
  repeat (refine And.intro (by first | omega | (intros; omega) | grind) ?_)
  refine DoL.call true 402 rfl rfl rfl rfl (by first | exact trivial | omega | (simp; done) | (simp; omega)) (h2) rfl (by first | exact .inl rfl | exact .inr rfl) rfl ?_
  simp [go_sem]
  apply k5_; clear k5_
  refine Do.seqk fun _ k6_ => ?_
  refine Do.seqk fun _ k7_ => ?_
  refine Do.region [2,3,7,8,9,11,12,31] true ?_
  simp [go_sem]
  apply k7_; clear k7_
  refine Do.cond [2,3,7,8,9,11,12] rfl (fun g1 => ?_) (fun g1 => ?_) <;> simp [go_sem] at g1 ⊢
  refine Do.skip ?_
  simp [go_sem]
  apply k6_; clear k6_
  refine Do.seqk fun _ k8_ => ?_
  refine Do.region [4,5] true ?_
  simp [go_sem]
  repeat (refine And.intro (by first | omega | (intros; omega) | grind) ?_)
  apply k8_; clear k8_
  refine Do.ret ?_
  simp [endQ, rets, ret1, go_sem]
  repeat (refine And.intro (by first | omega | (intros; omega) | grind) ?_)
  exact TLe.refl _
theorem ToInt_does {f p r : Int} {x : Fla} (hx : x.Ok) (he : argsC f p f p r false x = 0) {a : Flt} (ha : (holdsP f p x.flt).1 = a) (hk : a.k = 0 ∨ a.k = 1) (hok : (Nu.mk a.n a.v a.e).Ok) : Does Tryd.prog Gv 12 [Fm f p, .c (.i .i64 r), Fl x.k x.n x.e x.m] (.t [Iv (sgn a.n (wholeP r ⟨a.n, a.v, a.e⟩).1), .c (.i .i64 (if (wholeP r ⟨a.n, a.v, a.e⟩).2 then 0 else 1)), .c (.i .i64 0)]) := by
  have hA := @cargs_does f p f p r false x hx
  obtain ⟨h1, h2, h3, h4, h5, h6, h7⟩ := argsC_zero he
  rw [if_pos he, he, ha] at hA
  have hW := @WholeN_does r h2 h3 ⟨a.n, a.v, a.e⟩ hok
  generalize wholeP r ⟨a.n, a.v, a.e⟩ = w at *
  generalize sgn a.n w.1 = z at *
  have hFl := @flag_does20 w.2
  generalize (if w.2 = true then (0 : Int) else 1) = fl at *
  refine Does.of (nt := 40) Tryd.func12 rfl rfl rfl (by simp) ?_
  simp only [argTm, PV.ext, Ce.ext]
  refine Do.seqk fun _ k1_ => ?_
  refine Do.region [1,3,5,6] true ?_
  simp [go_sem]
  apply k1_; clear k1_
  refine Do.seqk fun _ k2_ => ?_
  refine Do.region [1,5,6,9] true ?_
  simp [go_sem]
  repeat (refine And.intro (by first | omega | (intros; omega) | grind) ?_)
  refine DoL.call true 105 rfl rfl rfl rfl (by first | exact trivial | omega | (simp; done) | (simp; omega)) (hA) rfl (by first | exact .inl rfl | exact .inr rfl) rfl ?_
  simp [go_sem]
  repeat (refine And.intro (by first | omega | (intros; omega) | grind) ?_)
  apply k2_; clear k2_
  refine Do.seqk fun _ k3_ => ?_
  refine Do.block ?_
  refine Do.seqk fun _ k4_ => ?_
  refine Do.region [1,5,6,9,20] true ?_
  simp [go_sem]
  apply k4_; clear k4_
  refine Do.cond [1,5,6,9] rfl (fun g1 => ?_) (fun g1 => ?_) <;> simp [go_sem] at g1 ⊢
  refine Do.seqk fun _ k5_ => ?_
  refine Do.region [1,5,6,25] true ?_
  simp [go_sem]
  repeat (refine And.intro (by first | omega | (intros; omega) | grind) ?_)
  refine DoL.call true 402 rfl rfl rfl rfl (by first | exact trivial | omega | (simp; done) | (simp; omega)) (number_does20) rfl (by first | exact .inl rfl | exact .inr rfl) rfl ?_
  simp [go_sem]
  repeat (refine And.intro (by first | omega | (intros; omega) | grind) ?_)
  apply k5_; clear k5_
  refine Do.cond [1,5,6] rfl (fun g2 => ?_) (fun g2 => ?_) <;> simp [go_sem] at g2 ⊢
  · omega
  · refine Do.skip ?_
    simp [go_sem]
    apply k3_; clear k3_
    refine Do.seqk fun _ k6_ => ?_
    refine Do.region [6,10,11] true ?_
    simp [go_sem]
    repeat (refine And.intro (by first | omega | (intros; omega) | grind) ?_)
    refine DoL.call true 602 rfl rfl rfl rfl (by first | exact trivial | omega | (simp; done) | (simp; omega)) (Of_does) rfl (by first | exact .inl rfl | exact .inr rfl) rfl ?_
    simp [go_sem]
    refine DoL.call true 604 rfl rfl rfl rfl (by first | exact trivial | omega | (simp; done) | (simp; omega)) (hW) rfl (by first | exact .inl rfl | exact .inr rfl) rfl ?_
    simp [go_sem]
    repeat (refine And.intro (by first | omega | (intros; omega) | grind) ?_)
    apply k6_; clear k6_
    refine Do.seqk fun _ k7_ => ?_
    refine Do.draw [6,7,8] true (by kernel_rfl) ?_
    simp [go_sem]
    repeat (refine And.intro (by first | omega | (intros; omega) | kernel_rfl | grind) ?_)
    refine DoLD.call true 703 rfl rfl rfl rfl (by first | exact trivial | omega | (simp; done) | (simp; omega)) (hFl) rfl (by first | exact .inl rfl | exact .inr rfl) rfl ?_
    simp [go_sem]
    repeat (refine And.intro (by first | omega | (intros; omega) | kernel_rfl | grind) ?_)
    try (refine And.intro (by kernel_rfl) ?_)
    apply k7_; clear k7_
    refine Do.ret ?_
    simp [endQ, rets, ret1, go_sem]
    repeat (refine And.intro (by first | omega | (intros; omega) | grind) ?_)
    exact TLe.refl _
end Go.Proofs.YtokgalpflooegaaDoor

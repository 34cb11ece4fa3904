/- The greatest float, what is beyond it. No condition. The reference's rounding is the program's. No condition. Canonical floats, counted. No condition. The exact sum of floats. No condition. The reference's sum is the program's. No condition. The reference's Total. No condition. What the laws of sums compare. No condition. The law SumTotals. No condition. The law SumAdds. No condition. The package variables of the program, as they are laid, and what a law's arguments are. No condition. Rounding to the nearest: how near, and when exactly. No condition. What a rounded sum drops is a float of the format. No condition. Functions whose one result is a row of the caller's. No condition. The reference's Rest: what sums leave, as a float. No condition. A box under another label; a pointer to cells, taken as one, within a region. No condition. Pairs of floats: the rounded sum, and what it drops. No condition. Products of floats, plain. No condition. Sums of products of floats, plain. No condition. A rounding without flags: the number is one of the format. No condition. A part of a row of the call's own, given to a call; functions whose result is a row of words of the caller's. No condition. Division by the schoolbook: what its loops hold. No condition. Division by the schoolbook. No condition. Division, and the greatest common divisor. No condition. Rational numbers with a power of 2 below. No condition. The rational numbers of the reference. No condition. Operations under a test whose outcome is known, in a region whose order is open. No condition. A float as a rational number; Holds. No condition. Division by 1; a ratio by 1, rounded. No condition. Conversions, plain. No condition. -/
import Derived.Test.YtokgalpflooegaaDoorMg
import Derived.Test.YtokgalpflooegaaDoorMf
import Derived.Test.YtokgalpflooegaaDoorRows
import Derived.LaidMore
import Derived.LaidHandle
import Derived.Stop.Joined
import Derived.Carry
import Derived.OpenShut
import Derived.Test.YtokgalpflooegaaDoorMd
/- The greatest float, what is beyond it. No condition. -/
namespace Go.Proofs.YtokgalpflooegaaDoor
set_option linter.unusedVariables false
set_option linter.unusedSimpArgs false
variable {G : Gl}
set_option maxHeartbeats 4000000
set_option maxRecDepth 10000
/-- A float whose words are its own. -/
abbrev Flt.pw (x : Flt) : PV := .a [.i .i64 x.k, .b x.n, .i .i64 x.e, .w true (nat x.v)]
theorem Does.mono {P : Program} {G : Gl} {f : FuncId} {args : List PV} {ret ret' : TV} (h : Does P G f args ret) (hle : TLe ret ret') : Does P G f args ret' := by
  intro W ok vals hok hgl hargs
  rcases h W ok vals hok hgl hargs with ⟨h1, h2⟩ | ⟨v, h1, h2⟩
  · exact .inl ⟨h1, h2.mono fun e W' ⟨v, q1, q2, q3⟩ => ⟨v, q1, q2, hle _ _ q3⟩⟩
  · exact .inr ⟨v, h1, hle _ _ h2⟩
theorem Top_does {f p : Int} (hf : fmOk f p = true) : Does Tryd.prog G 63 [Fm f p] (.v (Flt.pw ⟨1, false, gOfE f - p + 1, 2 ^ p.toNat - 1⟩)) := by
  obtain ⟨b1, b2, b3, b4⟩ := fmOk_spec hf
  obtain ⟨b5, b6⟩ := gOfE_le b1 b2
  have hG := @RGreatest_does G f p hf
  obtain ⟨P, rfl⟩ : ∃ P : Nat, p = P := ⟨p.toNat, by omega⟩
  rw [Int.toNat_natCast]
  have hW := @RWord_does G 1 (by decide)
  have h1 := @RLeft_does G (nat 1) P (by rw [nat_one]; decide) (nat_ws _) (by omega)
  rw [val_nat, Nat.one_mul] at h1
  have hp : 1 ≤ 2 ^ P := Nat.pow_pos (by decide)
  have hl : (nat (2 ^ P)).length ≤ 257 := nat_len_of (by have : bl (2 ^ P) ≤ P + 1 := (bl_lt _ _).2 (Nat.pow_lt_pow_right (by decide) (by omega)); omega)
  have h2 := @RSub_does G (nat (2 ^ P)) (nat 1) (by omega) (nat_ws _) (by rw [nat_one]; decide) (nat_ws _) (by rw [val_nat, val_nat]; exact hp)
  rw [val_nat, val_nat] at h2
  generalize 2 ^ P = Q at *
  generalize gOfE f = g at *
  refine Does.of (nt := 18) Tryd.func63 rfl rfl rfl (by simp) ?_
  simp only [argTm, PV.ext, Ce.ext]
  refine Do.seqk fun _ k1_ => ?_
  refine Do.region [1,2] true ?_
  simp [go_sem]
  apply k1_; clear k1_
  refine Do.seqk fun _ k2_ => ?_
  refine Do.region [1,2,3] true ?_
  simp [go_sem]
  refine DoL.call true 101 rfl rfl rfl rfl (by first | exact trivial | omega | (simp; done) | (simp; omega)) (hW) rfl (by first | exact .inl rfl | exact .inr rfl) rfl ?_
  simp [go_sem]
  apply k2_; clear k2_
  refine Do.seqk fun _ k3_ => ?_
  refine Do.draw [2] true (by kernel_rfl) ?_
  simp [go_sem]
  repeat (refine And.intro (by first | omega | (intros; omega) | (intros; exact And.intro (by assumption) (by omega)) | kernel_rfl | grind) ?_)
  refine DoLD.call true 202 rfl rfl rfl rfl (by first | exact trivial | omega | (simp; done) | (simp; omega)) (hG) rfl (by first | exact .inl rfl | exact .inr rfl) rfl ?_
  simp [go_sem]
  repeat (refine And.intro (by first | omega | (intros; omega) | (intros; exact And.intro (by assumption) (by omega)) | kernel_rfl | grind) ?_)
  refine DoLD.call true 210 rfl rfl rfl rfl (by first | exact trivial | omega | (simp; done) | (simp; omega)) (h1) rfl (by first | exact .inl rfl | exact .inr rfl) rfl ?_
  simp [go_sem]
  refine DoLD.call true 212 rfl rfl rfl rfl (by first | exact trivial | omega | (simp; done) | (simp; omega)) (h2) rfl (by first | exact .inl rfl | exact .inr rfl) rfl ?_
  simp [go_sem]
  repeat (refine And.intro (by first | omega | (intros; omega) | (intros; exact And.intro (by assumption) (by omega)) | kernel_rfl | grind) ?_)
  try (refine And.intro (by kernel_rfl) ?_)
  apply k3_; clear k3_
  refine Do.ret ?_
  simp [endQ, rets, ret1, go_sem]
  repeat (refine And.intro (by first | omega | (intros; omega) | (intros; exact And.intro (by assumption) (by omega)) | grind) ?_)
  exact TLe.refl _
end Go.Proofs.YtokgalpflooegaaDoor
/- The reference's rounding is the program's. No condition. -/
namespace Go.Proofs.YtokgalpflooegaaDoor
set_option linter.unusedVariables false
set_option linter.unusedSimpArgs false
variable {G : Gl}
set_option maxHeartbeats 4000000
set_option maxRecDepth 10000
theorem bl_div (v k : Nat) : bl (v / 2 ^ k) = bl v - k := by
  have h : ∀ j, j < bl (v / 2 ^ k) ↔ j + k < bl v := fun j => by
    rw [bl_le, bl_le, Nat.le_div_iff_mul_le (Nat.pow_pos (by decide)), ← Nat.pow_add]
  apply Nat.le_antisymm
  · apply Nat.le_of_not_lt
    intro hl
    have := (h (bl v - k)).1 hl
    omega
  · apply Nat.le_of_not_lt
    intro hl
    have := (h (bl (v / 2 ^ k))).2 (by omega)
    omega
end Go.Proofs.YtokgalpflooegaaDoor
/- Canonical floats, counted. No condition. -/
namespace Go.Proofs.YtokgalpflooegaaDoor
set_option linter.unusedVariables false
set_option linter.unusedSimpArgs false
variable {G : Gl}
set_option maxHeartbeats 4000000
set_option maxRecDepth 10000
end Go.Proofs.YtokgalpflooegaaDoor
/- The exact sum of floats. No condition. -/
namespace Go.Proofs.YtokgalpflooegaaDoor
set_option linter.unusedVariables false
set_option linter.unusedSimpArgs false
variable {G : Gl}
set_option maxHeartbeats 4000000
set_option maxRecDepth 10000
theorem svs_bound {z : Int} {M : Nat} : ∀ {l : List Flt}, (∀ x ∈ l, x.k = 1 → x.v * 2 ^ (x.e - z).toNat ≤ M) → (svs z l).natAbs ≤ l.length * M
  | [], _ => by simp [svs]
  | x :: l, h => by
    have ih := svs_bound (l := l) fun y hy => h y (List.mem_cons_of_mem _ hy)
    have hx := h x (by simp)
    simp only [svs, List.length_cons, Nat.add_mul, Nat.one_mul]
    split
    · rename_i hk
      have := hx hk
      unfold Nu.sv
      simp only []
      generalize x.v * 2 ^ (x.e - z).toNat = w at *
      generalize l.length * M = y at *
      split <;> omega
    · generalize l.length * M = y at *
      omega
theorem len_bl {v k : Nat} (h : bl v ≤ k) : (nat v).length ≤ (k + 63) / 64 := by rw [natlen]; omega
/-- Bounds under which exact sums stay small. -/
def Tame (l : List Flt) : Prop := l.length < 1099511627776 ∧ ∀ x ∈ l, (x.k = 1 → -1048576 ≤ x.e ∧ x.e ≤ 1048576 ∧ bl x.v ≤ 1048576)
theorem Tame.term {l : List Flt} (h : Tame l) {z : Int} (hz : -1048576 ≤ z) {x : Flt} (hx : x ∈ l) (hk : x.k = 1) (hze : z ≤ x.e) : bl (x.v * 2 ^ (x.e - z).toNat) ≤ 3145728 := by
  obtain ⟨h1, h2, h3⟩ := h.2 x hx hk
  by_cases h0 : x.v = 0
  · rw [h0]; simp [bl_zero]
  · rw [bl_mul_pow _ _ (by omega)]; omega
theorem Tame.sum {l : List Flt} (h : Tame l) {z : Int} (hz : -1048576 ≤ z) (hl : ∀ x ∈ l, x.k = 1 → z ≤ x.e) (i : Nat) : bl (svs z (l.take i)).natAbs ≤ 3145768 := by
  obtain ⟨K, hK⟩ : ∃ K, K = 3145728 := ⟨_, rfl⟩
  have hb := @svs_bound z (2 ^ K) (l.take i) fun x hx hk => Nat.le_of_lt ((bl_lt _ _).1 (by rw [hK]; exact h.term hz (List.mem_of_mem_take hx) hk (hl x (List.mem_of_mem_take hx) hk)))
  have h1 : (l.take i).length < 2 ^ 40 := Nat.lt_of_le_of_lt (List.length_take_le' i l) h.1
  have h2 : bl (svs z (l.take i)).natAbs ≤ 40 + K := by
    rw [bl_lt]
    refine Nat.lt_of_le_of_lt hb ?_
    rw [Nat.pow_add]
    exact Nat.mul_lt_mul_of_pos_right h1 (Nat.pow_pos (by decide))
  omega
end Go.Proofs.YtokgalpflooegaaDoor
/- The reference's sum is the program's. No condition. -/
namespace Go.Proofs.YtokgalpflooegaaDoor
set_option linter.unusedVariables false
set_option linter.unusedSimpArgs false
variable {G : Gl}
set_option maxHeartbeats 4000000
set_option maxRecDepth 10000
end Go.Proofs.YtokgalpflooegaaDoor
/- The reference's Total. No condition. -/
namespace Go.Proofs.YtokgalpflooegaaDoor
set_option linter.unusedVariables false
set_option linter.unusedSimpArgs false
variable {G : Gl}
set_option maxHeartbeats 4000000
set_option maxRecDepth 10000
end Go.Proofs.YtokgalpflooegaaDoor
/- What the laws of sums compare. No condition. -/
namespace Go.Proofs.YtokgalpflooegaaDoor
set_option linter.unusedVariables false
set_option linter.unusedSimpArgs false
variable {G : Gl}
set_option maxHeartbeats 4000000
set_option maxRecDepth 10000
theorem rcanon_idem (x : Flt) : rcanon (rcanon x) = rcanon x := by
  unfold rcanon
  by_cases h : x.k = 1
  · have : tz (x.v / 2 ^ tz x.v) = 0 := by
      by_cases h0 : x.v = 0
      · simp [h0, tz_zero]
      · exact tz_rest (by omega)
    simp [h, this]
  · simp [h]
theorem mkP_fix {n : Bool} {q : Nat} {u : Int} : rcanon (mkP n q u) = mkP n q u := by
  unfold mkP
  split
  · rfl
  · have h : rcanon ⟨1, n, u, q⟩ = ⟨1, n, u + tz q, q / 2 ^ tz q⟩ := by simp [rcanon]
    rw [← h]
    exact rcanon_idem _
theorem roundP_fix {f p r : Int} (hf : fmOk f p = true) {n : Bool} {v : Nat} {e : Int} {st : Bool} : rcanon (roundP f p r n v e st).1 = (roundP f p r n v e st).1 := by
  obtain ⟨b1, b2, b3, b4⟩ := fmOk_spec hf
  unfold roundP
  simp only []
  split
  · split
    · obtain ⟨m, hm⟩ : ∃ m, p.toNat = m + 1 := ⟨p.toNat - 1, by omega⟩
      have h2 : 2 ^ p.toNat = 2 * 2 ^ m := by rw [hm, Nat.pow_succ']
      have h3 : 0 < 2 ^ m := Nat.pow_pos (by decide)
      have h4 : tz (2 ^ p.toNat - 1) = 0 := tz_odd1 (by omega)
      simp [rcanon, h4]
    · rfl
  · exact mkP_fix
abbrev Flt.fla (x : Flt) : Fla := ⟨x.k, x.n, x.e, nat x.v⟩
theorem Flt.fla_flt (x : Flt) : x.fla.flt = x := by simp [Fla.flt, val_nat]
theorem held_rcanon {f p : Int} {x : Flt} (h : (holdsP f p x).2 = true) : rcanon x = (holdsP f p x).1 ∧ (canon x).2 = true := by
  have hg : (canon x).2 = true := by
    have := @holds_good f p x
    rw [h, Bool.and_eq_true] at this
    exact this.1
  refine ⟨?_, hg⟩
  rw [rcanon_good hg]
  unfold holdsP
  split <;> rfl
/-- Floats of the reference: right ones. -/
structure Rt (x : Fla) : Prop where
  can : (canon x.flt).2 = true
  ws : Ws x.m
  len : x.m.length ≤ 4096
theorem Rt.md {x : Fla} (h : Rt x) : Md x.e := good_md h.can
theorem canon_one {x : Flt} (h : (canon x).2 = true) (hk : x.k = 1) : -1048576 ≤ x.e ∧ x.e + tz x.v ≤ 1048576 ∧ x.v ≠ 0 := by
  unfold canon at h
  rw [if_neg (by omega), if_neg (by omega), if_pos hk] at h
  split at h
  · cases h
  · simp at h; omega
theorem canon_kind {x : Flt} (h : (canon x).2 = true) : (x.k = 0 ∨ x.k = 1 ∨ x.k = 2 ∨ x.k = 3) ∧ (x.k = 3 → x.n = false) := by
  unfold canon at h
  split at h
  · omega
  · split at h
    · simp at h; exact ⟨by omega, fun _ => h.1.1⟩
    · split at h
      · omega
      · cases h
theorem rcanon_k (x : Flt) : (rcanon x).k = x.k := by unfold rcanon; split <;> simp_all
end Go.Proofs.YtokgalpflooegaaDoor
/- The law SumTotals. No condition. -/
namespace Go.Proofs.YtokgalpflooegaaDoor
set_option linter.unusedVariables false
set_option linter.unusedSimpArgs false
set_option maxHeartbeats 4000000
set_option maxRecDepth 10000
end Go.Proofs.YtokgalpflooegaaDoor
/- The law SumAdds. No condition. -/
namespace Go.Proofs.YtokgalpflooegaaDoor
set_option linter.unusedVariables false
set_option linter.unusedSimpArgs false
set_option maxHeartbeats 4000000
set_option maxRecDepth 10000
end Go.Proofs.YtokgalpflooegaaDoor
/- The package variables of the program, as they are laid, and what a law's arguments are. No condition. -/
namespace Go.Proofs.YtokgalpflooegaaDoor
set_option linter.unusedVariables false
set_option linter.unusedSimpArgs false
open Go.ChangeShapes Go.WideShapes Go.ChangeAt Go.RowKit
theorem own : ownKnob Tryd.prog.godebug = Option.none := by kernel_rfl
theorem laidOut : laidOutB Tryd.prog = true := by kernel_rfl
theorem g0_name : Tryd.prog.globalNamed "math/bits.deBruijn64tab" = some 1 := by kernel_rfl
theorem g1_name : Tryd.prog.globalNamed "reckoner/fin.more" = some 0 := by kernel_rfl
/-- What is listed. -/
abbrev laidL : List (String × DataW Unit) := [("math/bits.deBruijn64tab", Rows.laid_math_bits_deBruijn64tab), ("reckoner/fin.more", Rows.laid_reckoner_fin_more)]
section
variable {H : Type} {enc : TypeId × Value → H} {P : Program} {W : World} {base : Nat} {sp : Nat → Bool} {held : Bool}
theorem array_at {t e : TypeId} {n fuel : Nat} {cs : List Value} {ds : List (DataW H)} {p : List MemPlace} (ht : P.underlying t = some (.array n e)) (hc : P.cellsOf e = 1) (h : DataW.trod enc P W base sp held fuel t cs = some (.agg ds, p)) {i : Nat} {d : DataW H} (hd : ds[i]? = some d) : ∃ v m q, cs[i]? = some v ∧ DataW.trod enc P W base sp held m e [v] = some (d, q) := by
  obtain ⟨xs, m, rfl, hx, hl, hn, hel⟩ := DataW.trod_array ht h
  simp only [Prod.mk.injEq, DataW.agg.injEq] at hx
  obtain ⟨rfl, _⟩ := hx
  rw [List.getElem?_map] at hd
  cases hxi : xs[i]? with
  | none => simp [hxi] at hd
  | some y =>
    rw [hxi] at hd
    simp only [Option.map_some, Option.some.injEq] at hd
    have hi : i < n := by rw [← hn]; exact (List.getElem?_eq_some_iff.1 hxi).1
    have h1 := hel i hi
    rw [hc, Nat.mul_one, hxi] at h1
    have hil : i < cs.length := by
      apply Classical.byContradiction
      intro hge
      rw [List.drop_of_length_le (by omega)] at h1
      cases m with
      | zero => simp [DataW.trod] at h1
      | succ m =>
        have : P.cellsOf e = 1 := hc
        cases hu : P.underlying e with
        | none => simp [DataW.trod, hu] at h1
        | some k => cases k <;> simp [DataW.trod, hu] at h1 <;> (try omega)
    rw [List.drop_eq_getElem_cons hil] at h1
    simp only [List.take_succ_cons, List.take_zero] at h1
    exact ⟨cs[i], m, y.2, List.getElem?_eq_getElem hil, by rw [h1, ← hd]⟩
theorem laidMetH.plain {l : List (String × DataW Unit)} (h : laidMetH P l W) (hne : (l.filter fun x => x.2.handleName?.isSome).isEmpty = false) : laidMet P (l.filter fun x => x.2.handleName?.isNone) W := by
  unfold laidMetH at h
  generalize (l.filter fun x => x.2.handleName?.isSome) = fl at h hne
  cases fl with
  | nil => cases hne
  | cons a r => exact h.1
end
/-- The door's own heap meets the condition. -/
abbrev doorN : Nat := 19
abbrev doorK : Nat := 8
theorem door_met (os : Os) (args : Array Value) : laidMetH Tryd.prog laidL ((World.doorLaid Tryd.prog doorN os).forCall (fun _ _ => 0) ⟨#[], args, []⟩).memory :=
  laidMetH_of_parts3 (fuel := 8) (laidMet_of_run' 8 (by kernel_rfl) (by kernel_rfl)) (by kernel_rfl) (by kernel_rfl)
theorem of_laid {W : World} (h : laidMetH Tryd.prog laidL W) : GlOk Gv W := by
  have h0 : laidMet Tryd.prog [("math/bits.deBruijn64tab", Rows.laid_math_bits_deBruijn64tab)] W := laidMetH.plain h (by kernel_rfl)
  obtain ⟨ps, ⟨g0, t0, cs0, f0, p0, q0, hg0, ht0, hv0, hd0, _⟩, _, _⟩ := h0
  obtain ⟨g1, t1, cs1, f1, p1, hg1, ht1, hv1, hd1⟩ := h.funcs (d := .agg [.iface "func" (.lit (.string [114, 101, 99, 107, 111, 110, 101, 114, 47, 102, 105, 110, 46, 109, 111, 114, 101, 36, 49])), .iface "func" (.lit (.string [114, 101, 99, 107, 111, 110, 101, 114, 47, 102, 105, 110, 46, 109, 111, 114, 101, 36, 50])), .iface "func" (.lit (.string [114, 101, 99, 107, 111, 110, 101, 114, 47, 102, 105, 110, 46, 109, 111, 114, 101, 36, 51])), .iface "func" (.lit (.string [114, 101, 99, 107, 111, 110, 101, 114, 47, 102, 105, 110, 46, 109, 111, 114, 101, 36, 52])), .iface "func" (.lit (.string [114, 101, 99, 107, 111, 110, 101, 114, 47, 102, 105, 110, 46, 109, 111, 114, 101, 36, 53]))]) (n := "reckoner/fin.more") (List.mem_cons_of_mem _ (List.mem_singleton.2 rfl))
  obtain rfl := Option.some.inj (g0_name.symm.trans hg0)
  obtain rfl := Option.some.inj (g1_name.symm.trans hg1)
  have e0 : (Rows.laid_math_bits_deBruijn64tab : DataW Unit) = .agg (Lib.deBruijn64tab.map fun k => .lit (.int .u8 (k : Nat))) := by kernel_rfl
  rw [e0] at hd0
  obtain rfl := Option.some.inj ((show (Tryd.prog.globals[1]?).map (·.type) = some 163 by kernel_rfl).symm.trans ht0)
  obtain rfl := Option.some.inj ((show (Tryd.prog.globals[0]?).map (·.type) = some 142 by kernel_rfl).symm.trans ht1)
  intro b off x hx
  match b, hx with
  | 1, hx =>
    simp only [Gv, List.getElem?_map] at hx
    cases hk : Lib.deBruijn64tab[off]? with
    | none => simp [hk] at hx
    | some k =>
      simp only [hk, Option.map_some, Option.some.injEq] at hx; subst hx
      obtain ⟨v, m, q, h1, h2⟩ := array_at Tryd.underlying163 (by kernel_rfl) hd0 (i := off) (d := .lit (.int .u8 (k : Nat))) (by simp [hk])
      obtain ⟨z, h3, h4, _⟩ := DataW.trod_int Tryd.underlying5 h2
      simp only [List.cons.injEq, and_true, Prod.mk.injEq, DataW.lit.injEq, Lit.int.injEq, true_and] at h3 h4
      subst h3
      refine ⟨rfl, .int .u8 z, ?_, fun E => ?_⟩
      · rw [World.var?_cell hg0 hv0 off]; simpa using h1
      · show Value.int .u8 z = .int .u8 (k : Nat)
        rw [h4.1]
  | 0, hx =>
    have hd1 : DataW.trod (funcToken Tryd.prog) Tryd.prog W 0 (fun _ => true) true f1 142 cs1.toList = some (.agg [.held [114, 101, 99, 107, 111, 110, 101, 114, 47, 102, 105, 110, 46, 109, 111, 114, 101, 36, 49], .held [114, 101, 99, 107, 111, 110, 101, 114, 47, 102, 105, 110, 46, 109, 111, 114, 101, 36, 50], .held [114, 101, 99, 107, 111, 110, 101, 114, 47, 102, 105, 110, 46, 109, 111, 114, 101, 36, 51], .held [114, 101, 99, 107, 111, 110, 101, 114, 47, 102, 105, 110, 46, 109, 111, 114, 101, 36, 52], .held [114, 101, 99, 107, 111, 110, 101, 114, 47, 102, 105, 110, 46, 109, 111, 114, 101, 36, 53]], p1) := hd1
    have hF : ∀ {i : Nat} {by_ : UInt8} {r : List UInt8} {f0 : FuncId}, (([DataW.held (H := List UInt8) [114, 101, 99, 107, 111, 110, 101, 114, 47, 102, 105, 110, 46, 109, 111, 114, 101, 36, 49], .held [114, 101, 99, 107, 111, 110, 101, 114, 47, 102, 105, 110, 46, 109, 111, 114, 101, 36, 50], .held [114, 101, 99, 107, 111, 110, 101, 114, 47, 102, 105, 110, 46, 109, 111, 114, 101, 36, 51], .held [114, 101, 99, 107, 111, 110, 101, 114, 47, 102, 105, 110, 46, 109, 111, 114, 101, 36, 52], .held [114, 101, 99, 107, 111, 110, 101, 114, 47, 102, 105, 110, 46, 109, 111, 114, 101, 36, 53]]))[i]? = some (.held (by_ :: r)) → ((List.range Tryd.prog.funcs.size).filter fun f => (Tryd.prog.funcs[f]?).any (·.name.toUTF8.data.toList == by_ :: r)) = [f0] → (Ce.f f0).pure = true ∧ ∃ v, W.cell? ⟨0, i, Option.none⟩ = some v ∧ ∀ E, RC E (.f f0) v := fun {i by_ r f0} hi hone => by
      obtain ⟨v, m, q, h1, h2⟩ := array_at Tryd.underlying142 (by kernel_rfl) hd1 hi
      obtain rfl := func_of_trod (f0 := f0) Tryd.underlying141 hone h2
      refine ⟨rfl, .func (.func f0) #[] #[], ?_, fun E => rfl⟩
      rw [World.var?_cell hg1 hv1 i]; simpa using h1
    rcases off with _ | _ | _ | _ | _ | off
    · simp only [Gv] at hx
      obtain rfl : Ce.f 150 = x := Option.some.inj hx
      exact hF (i := 0) rfl (by kernel_rfl)
    · simp only [Gv] at hx
      obtain rfl : Ce.f 151 = x := Option.some.inj hx
      exact hF (i := 1) rfl (by kernel_rfl)
    · simp only [Gv] at hx
      obtain rfl : Ce.f 152 = x := Option.some.inj hx
      exact hF (i := 2) rfl (by kernel_rfl)
    · simp only [Gv] at hx
      obtain rfl : Ce.f 153 = x := Option.some.inj hx
      exact hF (i := 3) rfl (by kernel_rfl)
    · simp only [Gv] at hx
      obtain rfl : Ce.f 154 = x := Option.some.inj hx
      exact hF (i := 4) rfl (by kernel_rfl)
    · simp [Gv] at hx
  | b + 2, hx => simp [Gv] at hx
set_option maxRecDepth 100000
/-- A format among the arguments. -/
theorem arg_fm {H : Type} {enc : TypeId × Value → H} {W : World} {b0 : Nat} {sp : Nat → Bool} {held : Bool} {v : Value} {d : DataW H} {ps : List MemPlace} (hval : Value.okWide Tryd.prog W .any b0 23 v) (h : DataW.Trod enc Tryd.prog W 0 sp held 23 v d ps) : ∃ f p, RP (enA W fun b => b < W.heap.size) (Fm f p) v := by
  obtain ⟨ces, h1, h2⟩ := open_struct (ok := fun b => b < W.heap.size) (f := 2) (cts := [.i .i64, .i .i64]) (fun _ h => h) Tryd.underlying23 (by kernel_rfl) hval h
  cases h2 with | cons g h2 => cases h2 with | cons g' h2 => cases h2 with | nil =>
  obtain ⟨e, rfl, _⟩ := g
  obtain ⟨p, rfl, _⟩ := g'
  exact ⟨e, p, h1⟩
/-- What a law that returns true leaves. -/
theorem law_calls {f : FuncId} {fn : Func} {c : Code} {args : List PV} {W : World} {vals : List Value} (h : Does Tryd.prog Gv f args (.v (.c (.b true)))) (hf : Tryd.prog.funcs[f]? = some fn) (hname : (fn.name == "runtime.NumGoroutine") = false) (hb : fn.body = some c) (hg : GlOk Gv W) (ha : All2 (RP (enA W fun b => b < W.heap.size)) args vals) :
    Calls Tryd.prog f vals.toArray W (fun e W' => e = .returned (.bool true) ∧ Below W.heap.size W W') :=
  (h.toCalls hf hname hb (fun _ h => h) hg ha).mono fun e W' ⟨v, he, hb, hr⟩ => by
    have : v = .bool true := hr
    subst this
    exact ⟨he, hb⟩
end Go.Proofs.YtokgalpflooegaaDoor
/- Rounding to the nearest: how near, and when exactly. No condition. -/
namespace Go.Proofs.YtokgalpflooegaaDoor
set_option linter.unusedVariables false
set_option linter.unusedSimpArgs false
set_option maxHeartbeats 4000000
set_option maxRecDepth 10000
theorem rcanon_scale (n : Bool) {v : Nat} (hv : 0 < v) (e : Int) (k : Nat) : rcanon ⟨1, n, e - k, v * 2 ^ k⟩ = rcanon ⟨1, n, e, v⟩ := by
  simp only [rcanon, if_true]
  rw [Nat.mul_comm v, tz_mul k hv, Nat.pow_add, Nat.mul_div_mul_left _ _ (Nat.pow_pos (by decide))]
  rw [show e - (k : Int) + ((k + tz v : Nat) : Int) = e + tz v by omega]
theorem mkP_rcanon {n : Bool} {q : Nat} {u : Int} (h : q ≠ 0) : mkP n q u = rcanon ⟨1, n, u, q⟩ := by simp [mkP, rcanon, h]
theorem upP_none (r : Int) (n : Bool) (q : Nat) : upP r n q 0 = q := by simp [upP, moreP]
/-- A float of the format is not changed. -/
theorem roundP_exact {f p r : Int} (hf : fmOk f p = true) {n : Bool} {w : Nat} {k : Int} (hw : 0 < w) (hk : 1 - gOfE f - (p - 1) ≤ k) (hb : (bl w : Int) ≤ p) (hg : k + bl w ≤ gOfE f + 1) : roundP f p r n w k false = (rcanon ⟨1, n, k, w⟩, 0) := by
  obtain ⟨b1, b2, b3, b4⟩ := fmOk_spec hf
  have hp := bl_pos hw
  have hu : stepP f p (k + bl w - 1) ≤ k := by unfold stepP; split <;> omega
  unfold roundP
  simp only []
  generalize stepP f p (k + bl w - 1) = u at *
  obtain ⟨j, hj⟩ : ∃ j : Nat, k - u = j := ⟨(k - u).toNat, by omega⟩
  have hc : cutP w (u - k) false = (w * 2 ^ j, 0) := by
    rw [cutP, if_pos (by omega), show (-(u - k)).toNat = j by omega]; rfl
  rw [hc]
  simp only [upP_none]
  have hbl := bl_mul_pow w j hw
  have hpos : 0 < w * 2 ^ j := Nat.mul_pos hw (Nat.pow_pos (by decide))
  rw [if_neg (by omega), if_pos trivial, mkP_rcanon (by omega), show u = k - j by omega, rcanon_scale n hw]
/-- A number over a low exponent, with few enough digits for the format. -/
structure OfF (f p z : Int) (A : Int) (w : Nat) (k : Int) : Prop where
  low : 1 - gOfE f - (p - 1) ≤ k
  few : (bl w : Int) ≤ p
  top : k + bl w ≤ gOfE f + 1
  abs : A.natAbs = w * 2 ^ (k - z).toNat
end Go.Proofs.YtokgalpflooegaaDoor
/- What a rounded sum drops is a float of the format. No condition. -/
namespace Go.Proofs.YtokgalpflooegaaDoor
set_option linter.unusedVariables false
set_option linter.unusedSimpArgs false
set_option maxHeartbeats 4000000
set_option maxRecDepth 10000
/-- The least exponent. -/
abbrev tiny (f p : Int) : Int := 1 - gOfE f - (p - 1)
theorem OfF.mul {f p z A : Int} {w : Nat} {k : Int} (h : OfF f p z A w k) {m : Int} (h1 : z ≤ m) (h2 : m ≤ k) : ∃ a : Int, A = a * ((2 ^ (m - z).toNat : Nat) : Int) := by
  have e : w * 2 ^ (k - z).toNat = w * 2 ^ (k - m).toNat * 2 ^ (m - z).toNat := by rw [pow_split h1 h2, Nat.mul_assoc]
  have h3 := h.abs
  rw [e] at h3
  rcases Int.natAbs_eq A with h | h
  · exact ⟨(w * 2 ^ (k - m).toNat : Nat), by rw [← Int.natCast_mul, ← h3]; exact h⟩
  · exact ⟨-((w * 2 ^ (k - m).toNat : Nat) : Int), by rw [Int.neg_mul, ← Int.natCast_mul, ← h3]; exact h⟩
/-- The value of a float over a low exponent. -/
def fv (z : Int) (x : Flt) : Int := if x.k = 1 then Nu.sv z ⟨x.n, x.v, x.e⟩ else 0
end Go.Proofs.YtokgalpflooegaaDoor
/- Functions whose one result is a row of the caller's. No condition. -/
namespace Go.Proofs.YtokgalpflooegaaDoor
set_option linter.unusedVariables false
set_option linter.unusedSimpArgs false
section
variable {P : Program} {G : Gl} {nt : Nat} {st : St} {cx : Cx} {a : Act} {W W' : World} {m : Nat → Option Nat} {QE : Exit → St → Prop} {ops l : List Oper} {Q : St → Prop}
/-- What a call computes whose one result is a row that its caller alone holds. -/
def DoesQ (P : Program) (G : Gl) (f : FuncId) (args : List PV) (sz : Nat) (rows : List (List Ce)) : Prop :=
  ∀ (W : World) (ok : Nat → Prop) (vals : List Value), (∀ b, ok b → b < W.heap.size) → GlOk G W → All2 (RP (enA W ok)) args vals →
    (callFunc f vals.toArray).run P W = .ok (.enter f vals.toArray) W ∧ Calls P f vals.toArray W (fun e W' => ∃ sv bo, e = .returned sv ∧ RowKit.Below W.heap.size W W' ∧ (∀ b, bo = some b → W.heap.size ≤ b ∧ b < W'.heap.size) ∧
      RC (enO W W' ok bo (.sr sz rows)) (.r 0 rows.length) sv ∧ RO (enO W W' ok bo (.sr sz rows)) 0 (.sr sz rows))
def endOne (sz : Nat) (rows : List (List Ce)) (rs : List ResultVar) (e : Exit) (s : St) : Prop :=
  (e = .ret ∨ e = .normal) ∧ match rs with
    | [.tmp t] => (match lk t s.tm with
      | some (.v (.c (.r j n))) => n = rows.length ∧ lk j s.ob = some (.sr sz rows)
      | _ => False)
    | _ => False
theorem DoesQ.of {f : FuncId} {fn : Func} {c : Code} {args : List PV} {sz : Nat} {rows : List (List Ce)} (hf : P.funcs[f]? = some fn) (hname : (fn.name == "runtime.NumGoroutine") = false) (hb : fn.body = some c) (hnt : fn.ntmps = nt) (hal : args.length ≤ nt)
    (h : Do P G nt c ⟨argTm 0 args, []⟩ (endOne sz rows fn.results.toList)) : DoesQ P G f args sz rows := by
  intro W ok vals hok hgl hargs
  refine ⟨?_, ?_⟩
  · have hn' : fn.name ≠ "runtime.NumGoroutine" := by simpa using hname
    simp [callFunc, hf, hn', hb]
  · refine calls_of_wp hf hb ?_
    refine Code.wp_mono (fun e a' W' ⟨s, hq, m', hs⟩ => ?_) (h _ _ W rfl ⟨_, start_rel hok hgl hargs hal hnt⟩)
    obtain ⟨he, hret⟩ := hq
    split at hret
    case h_2 => exact hret.elim
    rename_i t hrs
    split at hret
    case h_2 => exact hret.elim
    rename_i j n ht
    obtain ⟨rfl, hj⟩ := hret
    obtain ⟨sv, hv, hrt⟩ := hs.tm t _ ht
    have hg : a'.tmps.getD t undef = sv := by simp [hv]
    have hres : (results fn a'.tmps).run P W' = .ok sv W' := by
      have hfun : results fn a'.tmps = (do let vs ← fn.results.mapM (resOf a'.tmps); pure (if h : vs.size = 1 then vs[0] else .tuple vs)) := by
        unfold results
        congr 1
      rw [hfun]
      have h1 : (resOf a'.tmps (.tmp t)).run P W' = .ok sv W' := by simp [resOf, hg]
      simp only [Sem.run_bind, Array.mapM_eq_mapM_toList, Sem.run_map, hrs, List.mapM_cons, List.mapM_nil, h1, Result.andThen_ok, Sem.run_pure]
      simp
    have hbelow : RowKit.Below W.heap.size W W' := ⟨hs.os, hs.tape, hs.output, hs.size, fun k hk => hs.keep k hk id⟩
    have hown : ∀ b, m' j = some b → W.heap.size ≤ b ∧ b < W'.heap.size := fun b hb => by
      obtain ⟨q1, q2⟩ := hs.own j _ b hj hb
      exact ⟨q2.elim id fun e => e.1.elim, q1⟩
    have hle : EnLe (fun _ => False) (en ⟨W.heap.size, W, ok, fun _ => False, nt⟩ m' s.ob W') (enO W W' ok (m' j) (.sr sz rows)) :=
      ⟨fun b ⟨q1, q2, q3⟩ => ⟨⟨q1, q2⟩, q3 j _ hj⟩, fun _ _ => rfl, Nat.le_refl _, fun _ hF => hF.elim⟩
    have hO : ∃ bo, (∀ b, bo = some b → W.heap.size ≤ b ∧ b < W'.heap.size) ∧ RC (enO W W' ok bo (.sr sz rows)) (.r 0 rows.length) sv ∧ RO (enO W W' ok bo (.sr sz rows)) 0 (.sr sz rows) := by
      refine ⟨m' j, hown, ⟨hrt.1, fun o' ho' hle' => ?_⟩, ?_⟩
      · obtain rfl : Ob.sr sz rows = o' := by simpa [enO] using ho'
        obtain ⟨_, k2⟩ := hrt.2 _ hj (Nat.le_refl _)
        exact ⟨rfl, k2⟩
      · rcases hs.ob j _ hj with ⟨y1, y2⟩ | ⟨b', vs, e2, r1, r2, r3⟩
        · exact .inl ⟨y1, y2⟩
        · exact .inr ⟨b', vs, e2, r1, r2, fun i cs hi => let ⟨k1, us', k2, k3⟩ := r3 i cs hi; ⟨k1, us', k2.mono hle, k3⟩⟩
    obtain ⟨bo, k1, k2, k3⟩ := hO
    have hfin : ∃ sv' bo, (Ending.returned sv) = .returned sv' ∧ RowKit.Below W.heap.size W W' ∧ (∀ b, bo = some b → W.heap.size ≤ b ∧ b < W'.heap.size) ∧
      RC (enO W W' ok bo (.sr sz rows)) (.r 0 rows.length) sv' ∧ RO (enO W W' ok bo (.sr sz rows)) 0 (.sr sz rows) :=
      ⟨sv, bo, rfl, hbelow, k1, k2, k3⟩
    rcases he with rfl | rfl
    · exact ⟨hs.df, _, hres, hfin⟩
    · exact ⟨hs.df, _, hres, hfin⟩
end
end Go.Proofs.YtokgalpflooegaaDoor
/- The reference's Rest: what sums leave, as a float. No condition. -/
namespace Go.Proofs.YtokgalpflooegaaDoor
set_option linter.unusedVariables false
set_option linter.unusedSimpArgs false
variable {G : Gl}
set_option maxHeartbeats 4000000
set_option maxRecDepth 10000
theorem Tame.rest {A B : List Flt} (ha : Tame A) (hb : Tame B) (hl : A.length + B.length < 1099511627776) : Tame (A ++ B.map Flt.neg) := by
  refine ⟨by simpa using hl, fun x hx hk => ?_⟩
  rcases List.mem_append.1 hx with hx | hx
  · exact ha.2 x hx hk
  · obtain ⟨y, hy, rfl⟩ := List.mem_map.1 hx
    exact hb.2 y hy hk
end Go.Proofs.YtokgalpflooegaaDoor
/- A box under another label; a pointer to cells, taken as one, within a region. No condition. -/
namespace Go.Proofs.YtokgalpflooegaaDoor
set_option linter.unusedVariables false
set_option linter.unusedSimpArgs false
section
variable {P : Program} {G : Gl} {nt : Nat} {st : St} {cx : Cx} {a : Act} {W W' : World} {m : Nat → Option Nat} {QE : Exit → St → Prop} {ops l : List Oper} {Q : St → Prop}
/-- An object that nobody asks for any more. -/
theorem Do.drop {c : Code} (la : Nat) (h : Do P G nt c ⟨st.tm, del la st.ob⟩ QE) : Do P G nt c st QE :=
  fun cx a W hn ⟨m, hr⟩ => h cx a W hn ⟨m, hr.fewer (del la st.ob) fun j o hj => by
    rw [lk_del] at hj
    split at hj
    · cases hj
    · exact hj⟩
/-- A pointer to cells, taken as one. -/
theorem DoL.turn (md : Bool) (lab t : Nat) {cs : List Ce} (ht : lk t st.tm = some (.v (.c (.x (PtrSx cs))))) (h : runs P G nt md ops Q lab l ⟨put t (.e cs) st.tm, st.ob⟩) : DoL P G nt ops l st Q := by
  intro cx a W hn ⟨m, hr⟩
  refine DoL.run h cx a W hn ⟨m, { hr with tm := fun s x hx => ?_ }⟩
  rcases lk_le_put s x st.tm hx with ⟨rfl, rfl⟩ | ⟨_, hx⟩
  · obtain ⟨v, hv, ad, h1, h2, vs, h3, h4⟩ := hr.tm _ _ ht
    exact ⟨v, hv, ad, h1, h2, vs, RCs.same (E := enA W (okOf cx m st.ob W)) (E' := en cx m st.ob W) (fun _ h => h) rfl h3, h4⟩
  · exact hr.tm s x hx
end
end Go.Proofs.YtokgalpflooegaaDoor
/- Pairs of floats: the rounded sum, and what it drops. No condition. -/
namespace Go.Proofs.YtokgalpflooegaaDoor
set_option linter.unusedVariables false
set_option linter.unusedSimpArgs false
set_option maxHeartbeats 4000000
set_option maxRecDepth 10000
/-- A canonical float that is a number. -/
def Numb (x : Flt) : Prop := x.k = 1 ∨ (x.k = 0 ∧ x.e = 0 ∧ x.v = 0)
theorem Numb.sv {x : Flt} (h : Numb x) (z : Int) : Nu.sv z ⟨x.n, x.v, x.e⟩ = fv z x := by
  unfold fv
  rcases h with h | ⟨h1, h2, h3⟩
  · rw [if_pos h]
  · rw [if_neg (by omega), h3]; simp [Nu.sv]
theorem Fine.ok {x : Flt} (h : Fine x) (hn : Numb x) (n : Bool) : (⟨n, x.v, x.e⟩ : Nu).Ok := by
  have h1 := h.v
  rcases hn with hk | ⟨hk, h2, h3⟩
  · have := canon_one h.can hk
    exact ⟨by simp only []; omega, by simp only []; omega⟩
  · exact ⟨by simp only []; omega, by simp only []; omega⟩
end Go.Proofs.YtokgalpflooegaaDoor
/- Products of floats, plain. No condition. -/
namespace Go.Proofs.YtokgalpflooegaaDoor
set_option linter.unusedVariables false
set_option linter.unusedSimpArgs false
set_option maxHeartbeats 4000000
set_option maxRecDepth 10000
def K4 (x : Flt) : Prop := x.k = 0 ∨ x.k = 1 ∨ x.k = 2 ∨ x.k = 3
/-- A float as it is held: canonical. -/
structure Cf (x : Flt) : Prop where
  k : K4 x
  fix : rcanon x = x
  pos : x.k = 1 → x.v ≠ 0
theorem Cf.of {x : Flt} (h : (canon x).2 = true) : Cf (rcanon x) := by
  refine ⟨?_, rcanon_idem x, fun hk => ?_⟩
  · have := (canon_kind h).1
    unfold K4
    rw [rcanon_k]; exact this
  · rw [rcanon_k] at hk
    have h1 := (canon_one h hk).2.2
    obtain ⟨m, hm⟩ := tz_form (show 0 < x.v by omega)
    have e1 : x.v / 2 ^ tz x.v = 2 * m + 1 := by
      conv => lhs; arg 1; rw [hm]
      exact Nat.mul_div_cancel_left _ (Nat.pow_pos (by decide))
    simp only [rcanon, hk, if_true]
    omega
end Go.Proofs.YtokgalpflooegaaDoor
/- Sums of products of floats, plain. No condition. -/
namespace Go.Proofs.YtokgalpflooegaaDoor
set_option linter.unusedVariables false
set_option linter.unusedSimpArgs false
set_option maxHeartbeats 4000000
set_option maxRecDepth 10000
end Go.Proofs.YtokgalpflooegaaDoor
/- A rounding without flags: the number is one of the format. No condition. -/
namespace Go.Proofs.YtokgalpflooegaaDoor
set_option linter.unusedVariables false
set_option linter.unusedSimpArgs false
set_option maxHeartbeats 4000000
set_option maxRecDepth 10000
theorem cutP_exact {V : Nat} {s : Int} (h : (cutP V s false).2 = 0) : ∃ a b : Nat, V * 2 ^ a = (cutP V s false).1 * 2 ^ b ∧ (b : Int) - a = s := by
  unfold cutP at h ⊢
  by_cases hs : s ≤ 0
  · rw [if_pos hs]
    exact ⟨(-s).toNat, 0, by simp, by omega⟩
  · rw [if_neg hs] at h ⊢
    simp only [Bool.false_or] at h ⊢
    refine ⟨0, s.toNat, ?_, by omega⟩
    obtain ⟨k, hk⟩ : ∃ k : Nat, s = k + 1 := ⟨(s - 1).toNat, by omega⟩
    have e1 : (s - 1).toNat = k := by omega
    have e2 : s.toNat = k + 1 := by omega
    rw [e1] at h
    rw [e2]
    have h1 : V / 2 ^ k % 2 ≠ 1 := by
      intro h1
      rw [if_pos h1] at h
      split at h <;> simp at h
    rw [if_neg h1] at h
    have h2 : V % 2 ^ k = 0 := by
      apply Classical.byContradiction
      intro h2
      simp [h2] at h
    have h3 := Nat.div_add_mod V (2 ^ k)
    have h4 := Nat.div_add_mod (V / 2 ^ k) 2
    rw [Nat.div_div_eq_div_mul, ← Nat.pow_succ] at h4
    rw [h2] at h3
    have h5 : V / 2 ^ k % 2 = 0 := by omega
    rw [h5] at h4
    simp only [Nat.pow_zero, Nat.mul_one, Nat.add_zero] at h3 h4 ⊢
    conv => lhs; rw [← h3, ← h4]
    rw [← Nat.mul_assoc, ← Nat.pow_succ, Nat.mul_comm]
theorem roundP_flags {f p r : Int} (hf : fmOk f p = true) {n : Bool} {V : Nat} {z : Int} (hV : 0 < V) (h : (roundP f p r n V z false).2 = 0) : inP f p ⟨1, n, z, V⟩ = true ∧ (roundP f p r n V z false).1 = rcanon ⟨1, n, z, V⟩ := by
  obtain ⟨b1, b2, b3, b4⟩ := fmOk_spec hf
  obtain ⟨b5, b6⟩ := gOfE_le b1 b2
  have hp := bl_pos hV
  have hu : 1 - gOfE f - (p - 1) ≤ stepP f p (z + bl V - 1) ∧ z + bl V - stepP f p (z + bl V - 1) ≤ p := by unfold stepP; split <;> omega
  unfold roundP at h ⊢
  simp only [] at h ⊢
  generalize stepP f p (z + bl V - 1) = u at *
  split at h
  · simp at h
  · rename_i hno
    rw [if_neg hno]
    have hc : (cutP V (u - z) false).2 = 0 := by
      apply Classical.byContradiction
      intro hn
      simp only [] at h
      rw [if_neg hn] at h
      split at h <;> simp at h
    obtain ⟨a, b, h1, h2⟩ := cutP_exact hc
    rw [hc, upP_none] at hno ⊢
    simp only []
    generalize (cutP V (u - z) false).1 = q at *
    have hq : 0 < q := by
      rcases Nat.eq_zero_or_pos q with h0 | h0
      · exfalso
        rw [h0, Nat.zero_mul] at h1
        have := Nat.mul_pos hV (Nat.pow_pos (n := a) (show 0 < 2 by decide))
        omega
      · exact h0
    have hb : a + bl V = b + bl q := by rw [← bl_mul_pow V a hV, ← bl_mul_pow q b hq, h1]
    have he : rcanon ⟨1, n, u, q⟩ = rcanon ⟨1, n, z, V⟩ := by
      rw [← rcanon_scale n hV z a, ← rcanon_scale n hq u b, h1, show u - (b : Int) = z - a by omega]
    refine ⟨?_, by rw [mkP_rcanon (by omega), he]⟩
    have hin : inP f p ⟨1, n, z, V⟩ = inP f p ⟨1, n, u, q⟩ := by
      unfold inP
      simp only [if_true]
      rw [he]
    rw [hin]
    have e2 : rcanon ⟨1, n, u, q⟩ = ⟨1, n, u + tz q, q / 2 ^ tz q⟩ := by simp [rcanon]
    unfold inP
    simp only [if_true]
    rw [e2]
    simp only [bl_div]
    have := tz_lt_bl hq
    simp only [Bool.and_eq_true, decide_eq_true_eq]
    omega
end Go.Proofs.YtokgalpflooegaaDoor
/- A part of a row of the call's own, given to a call; functions whose result is a row of words of the caller's. No condition. -/
namespace Go.Proofs.YtokgalpflooegaaDoor
set_option linter.unusedVariables false
set_option linter.unusedSimpArgs false
section
variable {P : Program} {G : Gl} {nt : Nat} {st : St} {cx : Cx} {a : Act} {W W' : World} {m : Nat → Option Nat} {QE : Exit → St → Prop} {ops l : List Oper} {Q : St → Prop}
/-- A part of a row of words that this call writes, read by the call that follows. -/
theorem DoL.part {o1 o2 o3 : Oper} {t e : TypeId} {b1 z1 : Nat} {c1 : List Ce} {te : TI} {x lo hi y : Operand} {j n d1 d2 : Nat} {w : List Nat} {l0 h0 : Int} {yv : PV} {f : FuncId} {xf : Operand} {ts : Array TypeId} {ret : TV} (md : Bool) (lab : Nat)
    (hg1 : o1.guard = none) (hop1 : o1.op = .slice t x (some lo) (some hi) none) (hd1 : o1.dst = some d1) (hn1 : d1 < nt)
    (hg2 : o2.guard = none) (hop2 : o2.op = .move y) (hd2 : o2.dst = some d2) (hn2 : d2 < nt) (hne : d2 ≠ d1)
    (hg3 : o3.guard = none) (hop3 : o3.op = .call { callee := .value xf, args := #[.tmp d1, .tmp d2], argTypes := ts }) (hd3 : dstOk nt o3.dst = true)
    (ht : tiOf P t = some ⟨b1, z1, c1, .slice e⟩) (he : tiOf P e = some te) (hsz : te.size = 1)
    (hx : opv st.tm x = some (.v (.c (.r j n)))) (hj : lk j st.ob = some (.wr w)) (hlo : opv st.tm lo = some (.v (.c (.i .i64 l0)))) (hhi : opv st.tm hi = some (.v (.c (.i .i64 h0))))
    (hy : opv (del d1 st.tm) y = some (.v yv)) (hxf : opv (put d2 (.v yv) (del d1 st.tm)) xf = some (.v (.c (.f f))))
    (hp : w.length = n ∧ 0 ≤ l0 ∧ l0 ≤ h0 ∧ h0 ≤ w.length) (hD : Does P G f [.c (.w false ((w.drop l0.toNat).take (h0.toNat - l0.toNat))), yv.ext] ret) (hl : ret.labs = []) (hf : ret.fr = true)
    (next : runs P G nt md ops Q lab l ⟨setv o3.dst (some ret) (put d2 (.v yv) (del d1 st.tm)), st.ob⟩) : DoL P G nt ops (o1 :: o2 :: o3 :: l) st Q := by
  intro cx a W hn ⟨m, hr⟩ Q' hQ
  subst hn
  have hw : RP (enA W (okC cx m st W true)) (.c (.w false w)) (a.eval x) := row_words hr hj hp.1 (hr.opv hx) rfl false fun b hb => ⟨.inr ⟨rfl, j, _, hj, hb⟩, fun e => (by cases e)⟩
  have vlo : a.eval lo = .int .i64 l0 := hr.opv hlo
  have vhi : a.eval hi = .int .i64 h0 := hr.opv hhi
  obtain ⟨_, yy, u, e1, e2, e3⟩ := sliceM_run (P := P) (W := W) (tiOf_slice ht) he (x := .v (.c (.w false w))) hw (n := w.length) (lo := l0) (hi := h0) (mx := none) (vlo := some (a.eval lo)) (vhi := some (a.eval hi)) (vmx := none) rfl (.inr (by rw [vlo])) (.inl ⟨rfl, rfl, .inr (by rw [vhi])⟩) (out := ⟨0 ≤ l0 ∧ l0 ≤ h0 ∧ h0 ≤ w.length ∧ (∀ x : Int, none = some x → h0 ≤ x ∧ x ≤ w.length), some (.v (.c (.w false ((w.drop l0.toNat).take (h0.toNat - l0.toNat))))), .none⟩) (by simp only [sliceM]; rw [if_pos hsz]) ⟨hp.2.1, hp.2.2.1, hp.2.2.2, fun x hx => by cases hx⟩
  injection e1 with e1; subst e1
  -- the part
  refine wpList_plain hg1 fun K1 hK1 => ?_
  unfold Oper.wp
  have x1 : (execOp a.eval o1).run P W = .ok (.value u) W := by
    have : execOp a.eval o1 = (do pure (.value (← Instr.sliceAt t (a.eval x) (some (a.eval lo)) (some (a.eval hi)) none))) := by
      unfold execOp; simp [hop1]
    rw [this]; simp [e2]
  rw [x1]
  refine hK1 _ _ ?_
  rw [hd1]
  have h1 := hr.forget d1 u
  generalize ha1 : a.put (some d1) u = a1 at *
  have hu1 : a1.tmps[d1]? = some u := by rw [← ha1]; simp [Act.put, hr.nt, hn1]
  -- the other argument
  refine wpList_plain hg2 fun K2 hK2 => ?_
  unfold Oper.wp
  have hyv : RT (en cx m st.ob W) (.v yv) (a1.eval y) := h1.opv hy
  have x2 : (execOp a1.eval o2).run P W = .ok (.value (a1.eval y)) W := by unfold execOp; simp [hop2]
  rw [x2]
  refine hK2 _ _ ?_
  rw [hd2]
  have h2 := h1.slot hn2 hyv
  generalize ha2 : a1.put (some d2) (a1.eval y) = a2 at *
  have hu2 : a2.tmps[d1]? = some u := by rw [← ha2]; simp [Act.put, Array.getElem?_setIfInBounds_ne hne, hu1]
  have hv2 : a2.tmps[d2]? = some (a1.eval y) := by rw [← ha2]; simp [Act.put, h1.nt, hn2]
  -- the call
  refine wpList_plain hg3 fun K hK => ?_
  unfold Oper.wp
  have hxv : a2.eval xf = .func (.func f) #[] #[] := h2.opv hxf
  have hexec : execOp a2.eval o3 = callFunc f [u, a1.eval y].toArray := by
    have q1 : a2.eval (.tmp d1) = u := by simp [Act.eval, hu2]
    have q2 : a2.eval (.tmp d2) = a1.eval y := by simp [Act.eval, hv2]
    unfold execOp
    simp [hop3, resolve, hxv, Deferred.ofValue, invoke, q1, q2]
  have hok : ∀ b, okC cx m st W true b → b < W.heap.size := by
    rintro b (h | ⟨_, j, o, g1, g2⟩)
    · exact h.2.1
    · exact (hr.own j o b g1 g2).1
  have hargs : All2 (RP (enA W (okC cx m st W true))) [.c (.w false ((w.drop l0.toNat).take (h0.toNat - l0.toNat))), yv.ext] [u, a1.eval y] :=
    .cons e3 (.cons (PLe.ext _ _ _ (RP.mono (okC_le cx m st W true) (fun _ _ => trivial) hyv)) .nil)
  rcases hD W (okC cx m st W true) _ hok h2.glOk hargs with ⟨g1, g2⟩ | ⟨v, g1, g2⟩
  · rw [hexec, g1]
    refine g2.mono fun en' W' ⟨v, he, hb, hrt⟩ => ?_
    subst he
    exact hK _ _ (DoL.run next cx _ _ rfl (Rel.put (h2.below hb) rfl hd3 (call_res (pur := true) (st := ⟨put d2 (.v yv) (del d1 st.tm), st.ob⟩) h2 hb hl (.inr hf) hrt)) Q' hQ)
  · rw [hexec, g1]
    have hb := RowKit.Below.refl W.heap.size W
    exact hK _ _ (DoL.run next cx _ _ rfl (Rel.put h2 rfl hd3 (call_res (pur := true) (st := ⟨put d2 (.v yv) (del d1 st.tm), st.ob⟩) h2 hb hl (.inr hf) g2)) Q' hQ)
/-- What a call computes whose one result is a row of words that its caller alone holds. -/
def DoesW (P : Program) (G : Gl) (f : FuncId) (args : List PV) (w : List Nat) : Prop :=
  ∀ (W : World) (ok : Nat → Prop) (vals : List Value), (∀ b, ok b → b < W.heap.size) → GlOk G W → All2 (RP (enA W ok)) args vals →
    (callFunc f vals.toArray).run P W = .ok (.enter f vals.toArray) W ∧ Calls P f vals.toArray W (fun e W' => ∃ sv bo, e = .returned sv ∧ RowKit.Below W.heap.size W W' ∧ (∀ b, bo = some b → W.heap.size ≤ b ∧ b < W'.heap.size) ∧
      RC (enO W W' ok bo (.wr w)) (.r 0 w.length) sv ∧ RO (enO W W' ok bo (.wr w)) 0 (.wr w))
def endRow (w : List Nat) (rs : List ResultVar) (e : Exit) (s : St) : Prop :=
  (e = .ret ∨ e = .normal) ∧ match rs with
    | [.tmp t] => (match lk t s.tm with
      | some (.v (.c (.r j n))) => n = w.length ∧ lk j s.ob = some (.wr w)
      | _ => False)
    | _ => False
theorem DoesW.of {f : FuncId} {fn : Func} {c : Code} {args : List PV} {w : List Nat} (hf : P.funcs[f]? = some fn) (hname : (fn.name == "runtime.NumGoroutine") = false) (hb : fn.body = some c) (hnt : fn.ntmps = nt) (hal : args.length ≤ nt)
    (h : Do P G nt c ⟨argTm 0 args, []⟩ (endRow w fn.results.toList)) : DoesW P G f args w := by
  intro W ok vals hok hgl hargs
  refine ⟨?_, ?_⟩
  · have hn' : fn.name ≠ "runtime.NumGoroutine" := by simpa using hname
    simp [callFunc, hf, hn', hb]
  · refine calls_of_wp hf hb ?_
    refine Code.wp_mono (fun e a' W' ⟨s, hq, m', hs⟩ => ?_) (h _ _ W rfl ⟨_, start_rel hok hgl hargs hal hnt⟩)
    obtain ⟨he, hret⟩ := hq
    split at hret
    case h_2 => exact hret.elim
    rename_i t hrs
    split at hret
    case h_2 => exact hret.elim
    rename_i j n ht
    obtain ⟨rfl, hj⟩ := hret
    obtain ⟨sv, hv, hrt⟩ := hs.tm t _ ht
    have hg : a'.tmps.getD t undef = sv := by simp [hv]
    have hres : (results fn a'.tmps).run P W' = .ok sv W' := by
      have hfun : results fn a'.tmps = (do let vs ← fn.results.mapM (resOf a'.tmps); pure (if h : vs.size = 1 then vs[0] else .tuple vs)) := by
        unfold results
        congr 1
      rw [hfun]
      have h1 : (resOf a'.tmps (.tmp t)).run P W' = .ok sv W' := by simp [resOf, hg]
      simp only [Sem.run_bind, Array.mapM_eq_mapM_toList, Sem.run_map, hrs, List.mapM_cons, List.mapM_nil, h1, Result.andThen_ok, Sem.run_pure]
      simp
    have hbelow : RowKit.Below W.heap.size W W' := ⟨hs.os, hs.tape, hs.output, hs.size, fun k hk => hs.keep k hk id⟩
    have hown : ∀ b, m' j = some b → W.heap.size ≤ b ∧ b < W'.heap.size := fun b hb => by
      obtain ⟨q1, q2⟩ := hs.own j _ b hj hb
      exact ⟨q2.elim id fun e => e.1.elim, q1⟩
    have hO : ∃ bo, (∀ b, bo = some b → W.heap.size ≤ b ∧ b < W'.heap.size) ∧ RC (enO W W' ok bo (.wr w)) (.r 0 w.length) sv ∧ RO (enO W W' ok bo (.wr w)) 0 (.wr w) := by
      refine ⟨m' j, hown, ⟨hrt.1, fun o' ho' hle' => ?_⟩, ?_⟩
      · obtain rfl : Ob.wr w = o' := by simpa [enO] using ho'
        obtain ⟨_, k2⟩ := hrt.2 _ hj (Nat.le_refl _)
        exact ⟨rfl, k2⟩
      · rcases hs.ob j _ hj with ⟨y1, y2⟩ | ⟨b', vs, e2, r1, r2, r3⟩
        · exact .inl ⟨y1, y2⟩
        · exact .inr ⟨b', vs, e2, r1, r2, r3⟩
    obtain ⟨bo, k1, k2, k3⟩ := hO
    have hfin : ∃ sv' bo, (Ending.returned sv) = .returned sv' ∧ RowKit.Below W.heap.size W W' ∧ (∀ b, bo = some b → W.heap.size ≤ b ∧ b < W'.heap.size) ∧
      RC (enO W W' ok bo (.wr w)) (.r 0 w.length) sv' ∧ RO (enO W W' ok bo (.wr w)) 0 (.wr w) :=
      ⟨sv, bo, rfl, hbelow, k1, k2, k3⟩
    rcases he with rfl | rfl
    · exact ⟨hs.df, _, hres, hfin⟩
    · exact ⟨hs.df, _, hres, hfin⟩
end
end Go.Proofs.YtokgalpflooegaaDoor
/- Division by the schoolbook: what its loops hold. No condition. -/
namespace Go.Proofs.YtokgalpflooegaaDoor
set_option linter.unusedVariables false
set_option linter.unusedSimpArgs false
set_option maxHeartbeats 2000000
theorem hgh_hgh (A i t : Nat) : hgh (hgh A i) t = hgh A (i + t) := by
  unfold hgh
  rw [Nat.pow_add, Nat.div_div_eq_div_mul]
/-- The rest of a part, written k digits far. -/
def cpy (A d i k : Nat) : Nat := A % 4294967296 ^ i + d % 4294967296 ^ k * 4294967296 ^ i + hgh A (i + k) * 4294967296 ^ (i + k)
theorem cpy_end {A d i n : Nat} (hd : d < 4294967296 ^ n) (hh : hgh A (i + n) = 0) : cpy A d i n = A % 4294967296 ^ i + d * 4294967296 ^ i := by
  unfold cpy
  rw [hh, Nat.zero_mul, Nat.add_zero, Nat.mod_eq_of_lt hd]
/-- What holds before the digit below c of the quotient is found. -/
structure DivI (A0 b L c A Q : Nat) : Prop where
  lt : A < 4294967296 ^ L
  top : hgh A c < b
  eq : A + b * Q = A0
  low : Q % 4294967296 ^ c = 0
theorem DivI.start {A0 b L n : Nat} (h : A0 < 4294967296 ^ (L - 1)) (hn : 0 < n) (hL : 0 < L) (hb : 4294967296 ^ (n - 1) ≤ b) : DivI A0 b L (L - n) A0 0 := by
  refine ⟨Nat.lt_of_lt_of_le h (Nat.pow_le_pow_right (by decide) (by omega)), ?_, by simp, by simp⟩
  refine Nat.lt_of_lt_of_le ?_ hb
  unfold hgh
  rw [Nat.div_lt_iff_lt_mul (Hpos _), ← Nat.pow_add]
  exact Nat.lt_of_lt_of_le h (Nat.pow_le_pow_right (by decide) (by omega))
/-- The part that a digit of the quotient divides. -/
theorem DivI.part {A0 b L i A Q n : Nat} (h : DivI A0 b L (i + 1) A Q) (hn : 0 < n) (hb : b < 4294967296 ^ n) : hgh A i < b * 4294967296 ∧ hgh A i < 4294967296 ^ (n + 1) ∧ hgh A i / b ≤ 4294967295 ∧ hgh A i / b * b ≤ hgh A i ∧ hgh A (i + (n + 1)) = 0 := by
  have h1 := hi_step A i
  have h2 := dig_lt A i
  have h3 : hgh A i < b * 4294967296 := by
    have : (hgh A (i + 1) + 1) * 4294967296 ≤ b * 4294967296 := Nat.mul_le_mul_right _ h.top
    omega
  have h4 : hgh A i < 4294967296 ^ (n + 1) := by
    refine Nat.lt_of_lt_of_le h3 ?_
    rw [Nat.pow_succ]
    exact Nat.mul_le_mul_right _ (Nat.le_of_lt hb)
  refine ⟨h3, h4, ?_, Nat.div_mul_le_self _ _, ?_⟩
  · have : hgh A i / b < 4294967296 := (Nat.div_lt_iff_lt_mul (Nat.lt_of_le_of_lt (Nat.zero_le _) h.top)).2 (by rw [Nat.mul_comm]; exact h3)
    omega
  · rw [← hgh_hgh]
    exact hi_none h4 (Nat.le_refl _)
theorem DivI.next {A0 b L i A Q n d : Nat} (h : DivI A0 b L (i + 1) A Q) (hn : 0 < n) (hb : b < 4294967296 ^ n) (hi : i + (n + 1) ≤ L) (hd : d + b * (hgh A i / b) = hgh A i) (hdb : d < b) :
    ∃ Q', (dg Q (L - n)).set i (hgh A i / b) = dg Q' (L - n) ∧ DivI A0 b L i (cpy A d i (n + 1)) Q' := by
  obtain ⟨p1, p2, p3, p4, p5⟩ := h.part hn hb
  obtain ⟨Q', e1, e2, _⟩ := @dg_set Q (L - n) i (hgh A i / b) (by omega) (by omega)
  have hdn : d < 4294967296 ^ (n + 1) := Nat.lt_trans (Nat.lt_trans hdb hb) (Nat.pow_lt_pow_right (by decide) (by omega))
  have hc := @cpy_end A d i (n + 1) hdn p5
  have hdi : dig Q i = 0 := by
    have := h.low
    rw [low_step] at this
    have h5 := Hpos i
    have h6 : dig Q i * 4294967296 ^ i = 0 := by omega
    rcases Nat.mul_eq_zero.1 h6 with h6 | h6
    · exact h6
    · omega
  have hql : Q % 4294967296 ^ i = 0 := by
    have := h.low
    rw [low_step] at this
    omega
  rw [hdi, Nat.zero_mul, Nat.add_zero] at e2
  refine ⟨Q', e1, ?_, ?_, ?_, ?_⟩
  · rw [hc]
    have h1 := Nat.mod_lt A (Hpos i)
    have h2 : (d + 1) * 4294967296 ^ i ≤ 4294967296 ^ n * 4294967296 ^ i := Nat.mul_le_mul_right _ (by omega)
    rw [← Nat.pow_add, Nat.add_mul] at h2
    have h3 : 4294967296 ^ (n + i) ≤ 4294967296 ^ L := Nat.pow_le_pow_right (by decide) (by omega)
    omega
  · rw [hc]
    unfold hgh
    rw [Nat.add_mul_div_right _ _ (Hpos i), Nat.div_eq_of_lt (Nat.mod_lt _ (Hpos i)), Nat.zero_add]
    exact hdb
  · rw [hc, e2, ← h.eq]
    have h1 : A = A % 4294967296 ^ i + hgh A i * 4294967296 ^ i := by unfold hgh; rw [Nat.mod_add_div']
    conv => rhs; rw [h1, ← hd]
    rw [Nat.mul_add, Nat.add_mul]
    have : b * (hgh A i / b * 4294967296 ^ i) = b * (hgh A i / b) * 4294967296 ^ i := by rw [Nat.mul_assoc]
    omega
  · rw [e2, Nat.add_mul_mod_self_right, hql]
theorem DivI.fin {A0 b L A Q : Nat} (h : DivI A0 b L 0 A Q) (hb : 0 < b) : Q = A0 / b ∧ A = A0 % b := by
  have h1 := h.top
  rw [hi_zero] at h1
  rw [← h.eq]
  rw [Nat.add_mul_div_left _ _ hb, Nat.add_mul_mod_self_left, Nat.div_eq_of_lt h1, Nat.mod_eq_of_lt h1]
  omega
end Go.Proofs.YtokgalpflooegaaDoor
/- Division by the schoolbook. No condition. -/
namespace Go.Proofs.YtokgalpflooegaaDoor
set_option linter.unusedVariables false
set_option linter.unusedSimpArgs false
variable {G : Gl}
set_option maxHeartbeats 4000000
set_option maxRecDepth 10000
end Go.Proofs.YtokgalpflooegaaDoor
/- Division, and the greatest common divisor. No condition. -/
namespace Go.Proofs.YtokgalpflooegaaDoor
set_option linter.unusedVariables false
set_option linter.unusedSimpArgs false
variable {G : Gl}
set_option maxHeartbeats 4000000
set_option maxRecDepth 10000
end Go.Proofs.YtokgalpflooegaaDoor
/- Rational numbers with a power of 2 below. No condition. -/
namespace Go.Proofs.YtokgalpflooegaaDoor
set_option linter.unusedVariables false
set_option linter.unusedSimpArgs false
set_option maxHeartbeats 2000000
/-- What is above and below, divided by what both are multiples of. -/
def nz (z : Int) (d : Nat) : Int := z / (Nat.gcd z.natAbs d : Int)
def nd (z : Int) (d : Nat) : Nat := d / Nat.gcd z.natAbs d
theorem gcd_pos {z : Int} {d : Nat} (hd : 0 < d) : 0 < Nat.gcd z.natAbs d := Nat.gcd_pos_of_pos_right _ hd
theorem gcd_dvd_int (z : Int) (d : Nat) : (Nat.gcd z.natAbs d : Int) ∣ z := Int.natAbs_dvd_natAbs.1 (by rw [Int.natAbs_natCast]; exact Nat.gcd_dvd_left _ _)
theorem nz_mul (z : Int) (d : Nat) : nz z d * (Nat.gcd z.natAbs d : Int) = z := Int.ediv_mul_cancel (gcd_dvd_int z d)
theorem nd_mul (z : Int) (d : Nat) : nd z d * Nat.gcd z.natAbs d = d := Nat.div_mul_cancel (Nat.gcd_dvd_right _ _)
theorem nz_abs (z : Int) (d : Nat) : (nz z d).natAbs = z.natAbs / Nat.gcd z.natAbs d := by
  unfold nz
  rw [Int.natAbs_ediv_of_dvd (gcd_dvd_int z d)]; rfl
theorem nd_pos {z : Int} {d : Nat} (hd : 0 < d) : 0 < nd z d := by
  have := nd_mul z d
  rcases Nat.eq_zero_or_pos (nd z d) with h | h
  · rw [h] at this; omega
  · exact h
theorem nz_cop {z : Int} {d : Nat} (hd : 0 < d) : Nat.gcd (nz z d).natAbs (nd z d) = 1 := by
  rw [nz_abs]
  exact Nat.gcd_div_gcd_div_gcd_of_pos_right hd
/-- z / d, in lowest terms, is w / 2^K. -/
structure Dq (K : Nat) (z : Int) (d : Nat) (w : Int) : Prop where
  eq : z * ((2 ^ K : Nat) : Int) = w * (d : Int)
  pos : 0 < d
  cop : Nat.gcd z.natAbs d = 1
theorem pow_gt (K : Nat) : 0 < ((2 ^ K : Nat) : Int) := by
  have := Nat.pow_pos (n := K) (show 0 < 2 by decide)
  omega
theorem Dq.norm {K : Nat} {z w : Int} {d : Nat} (h : z * ((2 ^ K : Nat) : Int) = w * (d : Int)) (hd : 0 < d) : Dq K (nz z d) (nd z d) w := by
  refine ⟨?_, nd_pos hd, nz_cop hd⟩
  have hg := gcd_pos (z := z) hd
  have h1 := nz_mul z d
  have h2 := nd_mul z d
  refine Int.eq_of_mul_eq_mul_right (a := (Nat.gcd z.natAbs d : Int)) (by omega) ?_
  have h3 : (d : Int) = (nd z d : Int) * (Nat.gcd z.natAbs d : Int) := by rw [← Int.natCast_mul, h2]
  have h4 : nz z d * ((2 ^ K : Nat) : Int) * (Nat.gcd z.natAbs d : Int) = nz z d * (Nat.gcd z.natAbs d : Int) * ((2 ^ K : Nat) : Int) := by ac_rfl
  have h5 : w * (nd z d : Int) * (Nat.gcd z.natAbs d : Int) = w * ((nd z d : Int) * (Nat.gcd z.natAbs d : Int)) := by ac_rfl
  rw [h4, h1, h5, ← h3]
  exact h
theorem Dq.small {K : Nat} {z w : Int} {d : Nat} (h : Dq K z d w) : z.natAbs ≤ w.natAbs ∧ bl d ≤ K + 1 ∧ bl z.natAbs ≤ bl w.natAbs := by
  have h1 : z.natAbs * 2 ^ K = w.natAbs * d := by
    have := congrArg Int.natAbs h.eq
    rw [Int.natAbs_mul, Int.natAbs_mul] at this
    exact this
  have h2 : d ∣ 2 ^ K := by
    have hc : Nat.Coprime d z.natAbs := by rw [Nat.coprime_iff_gcd_eq_one, Nat.gcd_comm]; exact h.cop
    exact hc.dvd_of_dvd_mul_left ⟨w.natAbs, by rw [h1, Nat.mul_comm]⟩
  have hp := Nat.pow_pos (n := K) (show 0 < 2 by decide)
  obtain ⟨c, hc⟩ := h2
  have hc0 : 0 < c := by
    rcases Nat.eq_zero_or_pos c with h3 | h3
    · rw [h3] at hc; omega
    · exact h3
  have h3 : z.natAbs * c = w.natAbs := by
    rw [hc, ← Nat.mul_assoc, Nat.mul_right_comm] at h1
    exact Nat.eq_of_mul_eq_mul_right h.pos h1
  have h4 : z.natAbs ≤ w.natAbs := by rw [← h3]; exact Nat.le_mul_of_pos_right _ hc0
  have h5 : d ≤ 2 ^ K := by rw [hc]; exact Nat.le_mul_of_pos_right _ hc0
  refine ⟨h4, ?_, bl_mono h4⟩
  rw [bl_lt, Nat.pow_succ]
  omega
theorem Dq.neg {K : Nat} {z w : Int} {d : Nat} (h : Dq K z d w) : Dq K (-z) d (-w) :=
  ⟨by rw [Int.neg_mul, Int.neg_mul, h.eq], h.pos, by rw [Int.natAbs_neg]; exact h.cop⟩
theorem Dq.abs {K : Nat} {z w : Int} {d : Nat} (h : Dq K z d w) : Dq K (z.natAbs : Int) d (w.natAbs : Int) :=
  ⟨by
    have := congrArg Int.natAbs h.eq
    rw [Int.natAbs_mul, Int.natAbs_mul] at this
    exact_mod_cast this, h.pos, by rw [Int.natAbs_natCast]; exact h.cop⟩
theorem sign_scale {a b : Int} {P D : Int} (h : a * P = b * D) (hP : 0 < P) (hD : 0 < D) : a.sign = b.sign := by
  have := congrArg Int.sign h
  rw [Int.sign_mul, Int.sign_mul, Int.sign_eq_one_of_pos hP, Int.sign_eq_one_of_pos hD, Int.mul_one, Int.mul_one] at this
  exact this
theorem Dq.sign {K : Nat} {z w : Int} {d : Nat} (h : Dq K z d w) : z.sign = w.sign :=
  sign_scale h.eq (pow_gt K) (by have := h.pos; omega)
theorem Dq.up {K J : Nat} {z w : Int} {d : Nat} (h : Dq K z d w) : Dq (K + J) z d (w * ((2 ^ J : Nat) : Int)) :=
  ⟨by
    have e := h.eq
    rw [Nat.pow_add, Int.natCast_mul]
    generalize ((2 ^ K : Nat) : Int) = P at *
    generalize ((2 ^ J : Nat) : Int) = P' at *
    rw [← Int.mul_assoc, e]; ac_rfl, h.pos, h.cop⟩
/-- A float's number, with nothing below or a power of 2. -/
theorem Dq.float {K : Nat} {n : Bool} {v : Nat} {e : Int} (hv : v % 2 = 1) (he : -(K : Int) ≤ e) :
    (e < 0 → Dq K (sgn n v) (2 ^ (-e).toNat) (fv (-K) ⟨1, n, e, v⟩)) ∧ (0 ≤ e → Dq K (sgn n (v * 2 ^ e.toNat)) 1 (fv (-K) ⟨1, n, e, v⟩)) := by
  have e1 : fv (-K) ⟨1, n, e, v⟩ = sgn n (v * 2 ^ (e - -(K : Int)).toNat) := by
    unfold fv Nu.sv sgn
    simp
  rw [e1]
  have hs : ∀ a b : Nat, sgn n a * (b : Int) = sgn n (a * b) := fun a b => by
    unfold sgn
    split
    · rw [Int.natCast_mul, Int.neg_mul]
    · rw [Int.natCast_mul]
  refine ⟨fun h => ⟨?_, Nat.pow_pos (by decide), ?_⟩, fun h => ⟨?_, by decide, ?_⟩⟩
  · rw [hs, hs, Nat.mul_assoc, ← Nat.pow_add]
    congr 3; omega
  · rw [sgn_abs]
    have h2 : Nat.Coprime v 2 := by
      rw [Nat.coprime_comm, Nat.coprime_iff_gcd_eq_one, Nat.gcd_rec, hv]
      decide
    exact h2.pow_right _
  · rw [hs, hs, Nat.mul_assoc, ← Nat.pow_add, Nat.mul_one]
    congr 3; omega
  · exact Nat.gcd_one_right _
theorem Dq.zero (K : Nat) : Dq K 0 1 0 := ⟨by simp, by decide, by decide⟩
end Go.Proofs.YtokgalpflooegaaDoor
/- The rational numbers of the reference. No condition. -/
namespace Go.Proofs.YtokgalpflooegaaDoor
set_option linter.unusedVariables false
set_option linter.unusedSimpArgs false
variable {G : Gl}
set_option maxHeartbeats 4000000
set_option maxRecDepth 10000
/-- An integer of a size that all that is asked of it allows. -/
abbrev Bz (z : Int) : Prop := bl z.natAbs ≤ 100000000
theorem Bz.len {z : Int} (h : Bz z) : (nat z.natAbs).length ≤ 1562501 := by have := len_bl h; omega
section
variable {K : Nat} {z1 z2 w1 w2 : Int} {d1 d2 : Nat}
end
end Go.Proofs.YtokgalpflooegaaDoor
/- Operations under a test whose outcome is known, in a region whose order is open. No condition. -/
namespace Go.Proofs.YtokgalpflooegaaDoor
set_option linter.unusedVariables false
set_option linter.unusedSimpArgs false
section
variable {P : Program} {G : Gl} {nt : Nat} {st st0 : St} {cx : Cx} {a : Act} {W W' : World} {m : Nat → Option Nat} {ops l : List Oper} {acc : List Sm} {Q : List Sm → St → Prop} {o : Oper} {j : Nat} {want g : Bool}
theorem gOf_congr {tm tm' : List (Nat × TV)} (hg : o.guard = some (j, want)) (h : ∀ t ∈ rdOf ops o, lk t tm' = lk t tm) : gOf ops tm' j want = gOf ops tm j want := by
  unfold gOf
  split
  · rename_i d _ _ _ _ _ hj
    rw [h d (by unfold rdOf; simp only [List.mem_append, hg, hj]; exact .inr (by simp))]
  · rfl
theorem DoLD.gOff (md : Bool) (lab : Nat) (hg : o.guard = some (j, want)) (hgo : gOf ops st.tm j want = some false) (x : TV) (hx : x.labs = []) (hd : dstOk nt o.dst = true) (next : runsD P G nt md ops st0 Q lab l (acc ++ [⟨[], [], [], none⟩]) ⟨setv o.dst (some (.gd false x)) st.tm, st.ob⟩) : DoLD P G nt ops st0 Q (o :: l) acc st := by
  have h : OpOk P G nt ops (boxes st0.ob) o st ⟨o.dst, some (.gd false x), .none, 0, []⟩ := by
    refine ⟨rfl, fun cx a W m S hn _ hrd hus hfree hr Q' K hK => ?_⟩
    rw [gOf_spec hr ((gOf_congr hg hrd).trans hgo) hg, if_neg Bool.false_ne_true]
    exact hK _ _ (Rel.put hr hn hd (show RT _ (.gd false x) undef from ⟨(fun e => by cases e), fun _ => rfl⟩))
  refine DoLD.cons h (fun l hl => by simp [Tr.nw, Eff.isNew] at hl) rfl ?_
  have e1 : Tr.sm ⟨o.dst, some (.gd false x), .none, 0, []⟩ = ⟨[], [], [], none⟩ := by
    simp [Tr.sm, Tr.wr, Tr.mn, Tr.nw, Tr.ob, Eff.isNew, TV.labs, hx]
  rw [e1]
  exact DoLD.run next
/-- Slots that hold no more than they did. -/
theorem RelM.less (h : RelM G cx m st a W) {tm' : List (Nat × TV)} (hs : ∀ t y, lk t tm' = some y → ∃ z, lk t st.tm = some z ∧ ∀ E v, RT E z v → RT E y v) : RelM G cx m ⟨tm', st.ob⟩ a W :=
  { h with
    tm := fun t y hy => by
      have ⟨z, hz, hl⟩ := hs t y hy
      have ⟨v, hv, hr⟩ := h.tm t z hz
      exact ⟨v, hv, hl _ _ hr⟩ }
end
end Go.Proofs.YtokgalpflooegaaDoor
/- A float as a rational number; Holds. No condition. -/
namespace Go.Proofs.YtokgalpflooegaaDoor
set_option linter.unusedVariables false
set_option linter.unusedSimpArgs false
set_option maxHeartbeats 4000000
set_option maxRecDepth 10000
theorem Holds_ok {f p : Int} {x : Fla} (hf : fmOk f p = true) (hx : x.Ok) (hl : x.m.length ≤ 4096) (h : (holdsP f p x.flt).2 = true) : Does Tryd.prog Gv 28 [Fm f p, Fl x.k x.n x.e x.m] (.v (.c (.i .i64 0))) := by
  have hO := @Floats_own f p [x] (by simp) (by simpa using hl) hf (by simpa using hx) (by simpa [allHold] using h)
  have hD : Does Tryd.prog Gv 68 [Fm f p, .s false [x.cs]] (.t [.s true ((heldL f p [x]).map Flt.cs), .c (.i .i64 0)]) := hO.does rfl (by simp)
  generalize (heldL f p [x]).map Flt.cs = rows at *
  refine Does.of (nt := 15) Tryd.func28 rfl rfl rfl (by simp) ?_
  simp only [argTm, PV.ext, Ce.ext]
  refine Do.seqk fun _ k1_ => ?_
  refine Do.region [2,3] true ?_
  simp [go_sem]
  apply k1_; clear k1_
  refine Do.seqk fun _ k2_ => ?_
  refine Do.region [6] true ?_
  simp [go_sem]
  repeat (refine And.intro (by first | omega | (intros; omega) | (intros; exact And.intro (by assumption) (by omega)) | grind) ?_)
  refine DoL.sealS true 103 102 rfl ?_
  simp [go_sem]
  refine DoL.call true 104 rfl rfl rfl rfl (by first | exact trivial | omega | (simp; done) | (simp; omega)) (hD) rfl (by first | exact .inl rfl | exact .inr rfl) rfl ?_
  simp [go_sem]
  apply k2_; clear k2_
  refine Do.seqk fun _ k3_ => ?_
  refine Do.region [4] true ?_
  simp [go_sem]
  apply k3_; clear k3_
  refine Do.ret ?_
  simp [endQ, rets, ret1, go_sem]
  repeat (refine And.intro (by first | omega | (intros; omega) | (intros; exact And.intro (by assumption) (by omega)) | grind) ?_)
  exact TLe.refl _
theorem Holds_flt {f p : Int} {x : Flt} (hf : fmOk f p = true) (hx : Fine x) (h : (holdsP f p x).2 = true) : Does Tryd.prog Gv 28 [Fm f p, x.pv] (.v (.c (.i .i64 0))) :=
  @Holds_ok f p x.fla hf ⟨hx.sh, nat_ws _, hx.e⟩ (by have := len_bl hx.v; show (nat x.v).length ≤ 4096; omega) (by rw [Flt.fla_flt]; exact h)
end Go.Proofs.YtokgalpflooegaaDoor
/- Division by 1; a ratio by 1, rounded. No condition. -/
namespace Go.Proofs.YtokgalpflooegaaDoor
set_option linter.unusedVariables false
set_option linter.unusedSimpArgs false
variable {G : Gl}
set_option maxHeartbeats 4000000
set_option maxRecDepth 10000
theorem Div64_low {lo w : Nat} (hl : lo < 18446744073709551616) (hw : 0 < w) : Does Tryd.prog G 124 [.c (.n 0), .c (.n lo), .c (.n w)] (.t [.c (.n (lo / w)), .c (.n (lo % w))]) := by
  have hw0 : ¬ w = 0 := by omega
  have hw1 : ¬ w ≤ 0 := by omega
  refine Does.of (nt := 135) Tryd.func124 rfl rfl rfl (by simp) ?_
  simp only [argTm, PV.ext, Ce.ext]
  refine Do.seqk fun _ k1_ => ?_
  refine Do.region [0,1,2] true ?_
  simp [go_sem, hw0, hw1]
  apply k1_; clear k1_
  refine Do.seqk fun _ k2_ => ?_
  refine Do.seqk fun _ k3_ => ?_
  refine Do.region [0,1,2,20] true ?_
  simp [go_sem, hw0, hw1]
  apply k3_; clear k3_
  refine Do.cond [0,1,2] rfl (fun h1 => ?_) (fun h1 => ?_) <;> simp [go_sem, hw0, hw1] at h1 ⊢
  refine Do.skip ?_
  simp [go_sem]
  apply k2_; clear k2_
  refine Do.seqk fun _ k4_ => ?_
  refine Do.seqk fun _ k5_ => ?_
  refine Do.region [0,1,2,24] true ?_
  simp [go_sem, hw0, hw1]
  apply k5_; clear k5_
  refine Do.cond [0,1,2] rfl (fun h2 => ?_) (fun h2 => ?_) <;> simp [go_sem, hw0, hw1] at h2 ⊢
  refine Do.skip ?_
  simp [go_sem]
  apply k4_; clear k4_
  refine Do.seqk fun _ k6_ => ?_
  refine Do.seqk fun _ k7_ => ?_
  refine Do.region [0,1,2,27] true ?_
  simp [go_sem, hw0, hw1]
  apply k7_; clear k7_
  refine Do.cond [0,1,2] rfl (fun h3 => ?_) (fun h3 => ?_) <;> simp [go_sem, hw0, hw1] at h3 ⊢
  refine Do.seqk fun _ k8_ => ?_
  refine Do.draw [6,7] true (by kernel_rfl) ?_
  simp [go_sem, hw0, hw1]
  repeat (refine And.intro (by first | omega | (intros; omega) | (intros; exact And.intro (by assumption) (by omega)) | kernel_rfl | grind) ?_)
  try (refine And.intro (by kernel_rfl) ?_)
  apply k8_; clear k8_
  refine Do.ret ?_
  simp [endQ, rets, ret1, go_sem, hw0, hw1]
  repeat (refine And.intro (by first | omega | (intros; omega) | (intros; exact And.intro (by assumption) (by omega)) | grind) ?_)
  exact TLe.refl _
theorem drop_set {x : List Nat} {s : Nat} (hs : s < x.length) {w : Nat} (hw : x[s]? = some w) : (List.replicate (s + 1) 0 ++ x.drop (s + 1)).set s w = List.replicate s 0 ++ x.drop s := by
  rw [List.replicate_succ', List.append_assoc, List.set_append_right _ _ (by simp)]
  simp only [List.length_replicate, Nat.sub_self, List.cons_append, List.nil_append, List.set_cons_zero]
  rw [List.drop_eq_getElem_cons hs]
  congr 2
  rw [List.getElem?_eq_getElem hs] at hw
  exact (Option.some.inj hw).symm
theorem divWord_one {x : List Nat} (hx : x.length < 1073741824) (wx : Ws x) : Does Tryd.prog G 110 [Wd x, .c (.n 1)] (.t [Wn (nat (val x)), .c (.n 0)]) := by
  have hT := @Trim_does G x (by unfold Sh; omega) wx
  have hlen : ∀ s, s ≤ x.length → (List.replicate s 0 ++ x.drop s).length = x.length := fun s hs => by simp; omega
  refine Does.of (nt := 35) Tryd.func110 rfl rfl rfl (by simp) ?_
  simp only [argTm, PV.ext, Ce.ext]
  refine Do.seqk fun _ k1_ => ?_
  refine Do.region [0,1] true ?_
  simp [go_sem, -List.reduceReplicate]
  apply k1_; clear k1_
  refine Do.seqk fun _ k2_ => ?_
  refine Do.region [0,1,6] true ?_
  simp [go_sem, -List.reduceReplicate]
  repeat (refine And.intro (by first | omega | (intros; omega) | (intros; exact And.intro (by assumption) (by omega)) | grind) ?_)
  apply k2_; clear k2_
  refine Do.seqk fun _ k3_ => ?_
  refine Do.region [0,1,6,7] true ?_
  simp [go_sem, -List.reduceReplicate]
  apply k3_; clear k3_
  refine Do.seqk fun _ k4_ => ?_
  refine Do.seqk fun _ k5_ => ?_
  refine Do.region [0,1,6,7,8] true ?_
  simp [go_sem, -List.reduceReplicate]
  repeat (refine And.intro (by first | omega | (intros; omega) | (intros; exact And.intro (by assumption) (by omega)) | grind) ?_)
  apply k5_; clear k5_
  refine Do.block ?_
  refine Do.loopF [0,1,6,7,8] (fun (s : Nat) => [(7, .v (.c (.n 0))), (8, .int .i64 ((s : Int) - 1))]) (fun (s : Nat) => [(102, .wr (List.replicate s 0 ++ x.drop s))]) (fun (s : Nat) => s ≤ x.length) (fun (s : Nat) => s) (x.length) (fun _ => by first | (simp [go_sem, mixS]; done) | (simp [go_sem, mixS]; rfl)) (St.le_of (by simp [keep]) (by simp [keep])) (Nat.le_refl _) ?_
  intro s hs
  refine Do.seqk fun _ k6_ => ?_
  refine Do.seqk fun _ k7_ => ?_
  refine Do.region [0,1,6,7,8,16] true ?_
  simp [go_sem, -List.reduceReplicate]
  apply k7_; clear k7_
  refine Do.cond [0,1,6,7,8] rfl (fun h => ?_) (fun h => ?_) <;> simp [go_sem, -List.reduceReplicate] at h ⊢
  · obtain ⟨j, rfl⟩ : ∃ j, s = j + 1 := ⟨s - 1, by omega⟩
    obtain ⟨w, hw⟩ : ∃ w, x[j]? = some w := ⟨_, List.getElem?_eq_getElem (by omega)⟩
    have hwl := wx w (List.mem_of_getElem? hw)
    have hD := @Div64_low G w 1 hwl (by decide)
    rw [Nat.div_one, Nat.mod_one] at hD
    have hset := drop_set (show j < x.length by omega) hw
    have hl := hlen (j + 1) hs
    refine Do.skip ?_
    simp [go_sem]
    apply k6_; clear k6_
    refine Do.seqk fun _ k8_ => ?_
    refine Do.block ?_
    refine Do.region [0,1,6,7,8] true ?_
    simp [go_sem, show ((j : Int) + 1 - 1) = j by omega, hw, hl, -List.reduceReplicate]
    repeat (refine And.intro (by first | omega | (intros; omega) | (intros; exact And.intro (by assumption) (by omega)) | grind) ?_)
    refine DoL.call true 609 rfl rfl rfl rfl (by first | exact trivial | omega | (simp; done) | (simp; omega)) (hD) rfl (by first | exact .inl rfl | exact .inr rfl) rfl ?_
    simp [go_sem, show ((j : Int) + 1 - 1) = j by omega, hw, hl, -List.reduceReplicate]
    repeat (refine And.intro (by first | omega | (intros; omega) | (intros; exact And.intro (by assumption) (by omega)) | grind) ?_)
    apply k8_; clear k8_
    refine Do.region [0,1,6,7,8] true ?_
    simp [go_sem, show ((j : Int) + 1 - 1) = j by omega, hw, hl, -List.reduceReplicate]
    repeat (refine And.intro (by first | omega | (intros; omega) | (intros; exact And.intro (by assumption) (by omega)) | grind) ?_)
    refine ⟨j, St.le_of rfl (by simp [keep, ← hset, List.set_append_left]), by omega, by simp⟩
  · obtain rfl : s = 0 := by omega
    refine Do.exit ?_
    simp [go_sem]
    apply k4_; clear k4_
    refine Do.seqk fun _ k9_ => ?_
    refine Do.frz 102 rfl ?_
    simp [go_sem]
    refine Do.region [4,5] true ?_
    simp [go_sem, -List.reduceReplicate]
    refine DoL.call true 702 rfl rfl rfl rfl (by first | exact trivial | omega | (simp; done) | (simp; omega)) (hT) rfl (by first | exact .inl rfl | exact .inr rfl) rfl ?_
    simp [go_sem, -List.reduceReplicate]
    apply k9_; clear k9_
    refine Do.ret ?_
    simp [endQ, rets, ret1, go_sem, -List.reduceReplicate]
    repeat (refine And.intro (by first | omega | (intros; omega) | (intros; exact And.intro (by assumption) (by omega)) | grind) ?_)
    exact TLe.refl _
theorem WWord_zero : Does Tryd.prog G 111 [.c (.n 0)] (.v (Wn (nat 0))) := by
  have hT := @Trim_does G [0] (by decide) (fun w hw => by simp at hw; omega)
  refine Does.of (nt := 6) Tryd.func111 rfl rfl rfl (by simp) ?_
  simp only [argTm, PV.ext, Ce.ext]
  refine Do.seqk fun _ k1_ => ?_
  refine Do.region [0] true ?_
  simp [go_sem]
  apply k1_; clear k1_
  refine Do.seqk fun _ k2_ => ?_
  refine Do.region [2] true ?_
  simp [go_sem]
  refine DoL.frz true 102 101 rfl ?_
  simp [go_sem]
  refine DoL.call true 103 rfl rfl rfl rfl (by first | exact trivial | omega | (simp; done) | (simp; omega)) (hT) rfl (by first | exact .inl rfl | exact .inr rfl) rfl ?_
  simp [go_sem]
  apply k2_; clear k2_
  refine Do.ret ?_
  simp [endQ, rets, ret1, go_sem]
  repeat (refine And.intro (by first | omega | (intros; omega) | (intros; exact And.intro (by assumption) (by omega)) | grind) ?_)
  exact TLe.refl _
theorem WDivMod_one {x : List Nat} (hx : x.length < 1073741824) (wx : Ws x) (h0 : 0 < val x) : Does Tryd.prog G 92 [Wd x, Wd [1]] (.t [Wn (nat (val x)), Wn (nat 0)]) := by
  have w1 : Ws [1] := fun w hw => by simp at hw; omega
  have h1 := @view_does G x (by unfold Sh; omega)
  have h2 : Does Tryd.prog G 86 [Wd [1]] (.v (Wd [1])) := @view_does G [1] (by decide)
  have hn := norm_length x
  have h3 := @Cmp_does G (norm x) [1] (by unfold Sh; omega) (by decide) (norm_ws wx) w1
  rw [val_norm, show val [1] = 1 from rfl, if_neg (by omega)] at h3
  have h4 := @divWord_one G (norm x) (by omega) (norm_ws wx)
  rw [val_norm] at h4
  have h5 : ¬ (if 1 < val x then (1 : Int) else 0) < 0 := by split <;> omega
  refine Does.of (nt := 127) Tryd.func92 rfl rfl rfl (by simp) ?_
  simp only [argTm, PV.ext, Ce.ext]
  refine Do.seqk fun _ k1_ => ?_
  refine Do.region [0,1] true ?_
  simp [go_sem]
  apply k1_; clear k1_
  refine Do.seqk fun _ k2_ => ?_
  refine Do.region [0,1] true ?_
  simp [go_sem]
  refine DoL.call true 102 rfl rfl rfl rfl (by first | exact trivial | omega | (simp; done) | (simp; omega)) (h1) rfl (by first | exact .inl rfl | exact .inr rfl) rfl ?_
  simp [go_sem]
  refine DoL.call true 104 rfl rfl rfl rfl (by first | exact trivial | omega | (simp; done) | (simp; omega)) (h2) rfl (by first | exact .inl rfl | exact .inr rfl) rfl ?_
  simp [go_sem]
  apply k2_; clear k2_
  refine Do.seqk fun _ k3_ => ?_
  refine Do.seqk fun _ k4_ => ?_
  refine Do.region [0,1,22] true ?_
  simp [go_sem, h5]
  refine DoL.call true 203 rfl rfl rfl rfl (by first | exact trivial | omega | (simp; done) | (simp; omega)) (h3) rfl (by first | exact .inl rfl | exact .inr rfl) rfl ?_
  simp [go_sem, h5]
  apply k4_; clear k4_
  refine Do.cond [0,1] rfl (fun g1 => ?_) (fun g1 => ?_) <;> simp [go_sem, h5] at g1 ⊢
  refine Do.skip ?_
  simp [go_sem]
  apply k3_; clear k3_
  refine Do.seqk fun _ k5_ => ?_
  refine Do.seqk fun _ k6_ => ?_
  refine Do.region [0,1,27] true ?_
  simp [go_sem, h5]
  repeat (refine And.intro (by first | omega | (intros; omega) | (intros; exact And.intro (by assumption) (by omega)) | grind) ?_)
  apply k6_; clear k6_
  refine Do.cond [0,1] rfl (fun g2 => ?_) (fun g2 => ?_) <;> simp [go_sem, h5] at g2 ⊢
  refine Do.seqk fun _ k7_ => ?_
  refine Do.region [6,7] true ?_
  simp [go_sem, h5]
  repeat (refine And.intro (by first | omega | (intros; omega) | (intros; exact And.intro (by assumption) (by omega)) | grind) ?_)
  refine DoL.call true 505 rfl rfl rfl rfl (by first | exact trivial | omega | (simp; done) | (simp; omega)) (h4) rfl (by first | exact .inl rfl | exact .inr rfl) rfl ?_
  simp [go_sem, h5]
  apply k7_; clear k7_
  refine Do.seqk fun _ k8_ => ?_
  refine Do.region [4,5] true ?_
  simp [go_sem, h5]
  refine DoL.call true 603 rfl rfl rfl rfl (by first | exact trivial | omega | (simp; done) | (simp; omega)) (WWord_zero) rfl (by first | exact .inl rfl | exact .inr rfl) rfl ?_
  simp [go_sem, h5]
  apply k8_; clear k8_
  refine Do.ret ?_
  simp [endQ, rets, ret1, go_sem, h5]
  repeat (refine And.intro (by first | omega | (intros; omega) | (intros; exact And.intro (by assumption) (by omega)) | grind) ?_)
  exact TLe.refl _
theorem Ratio_one {f p r : Int} (hf : fmOk f p = true) (hr : 0 ≤ r) (hr' : r ≤ 4) {n : Bool} {m : List Nat} (hm : m.length ≤ 4096) (wm : Ws m) (h0 : 0 < val m) : Does Tryd.prog Gv 61 [Fm f p, .c (.i .i64 r), .c (.b n), Wd m, Wd [1], .c (.i .i64 0)] (.t [(roundP f p r n (val m) 0 false).1.pv, .c (.i .i64 (roundP f p r n (val m) 0 false).2)]) := by
  obtain ⟨b1, b2, b3, b4⟩ := fmOk_spec hf
  obtain ⟨b5, b6⟩ := gOfE_le b1 b2
  have w1 : Ws [1] := fun w hw => by simp at hw; omega
  have hb : bl (val m) ≤ 64 * m.length := bl_le_len wm (Nat.le_refl _)
  have hL := @Len_does Gv m (by unfold Sh; omega) wm
  have hL1 : Does Tryd.prog Gv 54 [Wd [1]] (.int .i64 1) := @Len_does Gv [1] (by decide) w1
  by_cases hs : p + 3 - bl (val m) + 1 > 0
  · obtain ⟨s, hs'⟩ : ∃ s : Nat, p + 3 - bl (val m) + 1 = s := ⟨(p + 3 - bl (val m) + 1).toNat, by omega⟩
    have hS := @Shl_does Gv m (by unfold Sh; omega) wm s (by omega)
    have hpos : 0 < val m * 2 ^ s := Nat.mul_pos h0 (Nat.pow_pos (by decide))
    have hbl : bl (val m * 2 ^ s) = s + bl (val m) := bl_mul_pow _ _ h0
    have hD := @WDivMod_one Gv (nat (val m * 2 ^ s)) (by have := nat_len_bl (val m * 2 ^ s); omega) (nat_ws _) (by rw [val_nat]; exact hpos)
    rw [val_nat] at hD
    have hZ := @Zero_does Gv (nat 0) (by rw [nat_zero]; decide)
    rw [val_nat] at hZ
    have hF := @Float_does f p r hf hr hr' n (val m * 2 ^ s) (0 - (s : Int)) false (by omega) (by omega)
    rw [roundP_scale s h0] at hF
    generalize roundP f p r n (val m) 0 false = z at *
    generalize val m * 2 ^ s = u at *
    rw [Int.zero_sub] at hF
    refine Does.of (nt := 50) Tryd.func61 rfl rfl rfl (by simp) ?_
    simp only [argTm, PV.ext, Ce.ext]
    refine Do.seqk fun _ k1_ => ?_
    refine Do.region [1,2,3,4,5,6,12] true ?_
    simp [go_sem]
    apply k1_; clear k1_
    refine Do.seqk fun _ k2_ => ?_
    refine Do.draw [1,2,3,4,5,6,12,14] true (by kernel_rfl) ?_
    simp [go_sem]
    repeat (refine And.intro (by first | omega | (intros; omega) | (intros; exact And.intro (by assumption) (by omega)) | kernel_rfl | grind) ?_)
    refine DoLD.call true 105 rfl rfl rfl rfl (by first | exact trivial | omega | (simp; done) | (simp; omega)) (hL) rfl (by first | exact .inl rfl | exact .inr rfl) rfl ?_
    simp [go_sem]
    repeat (refine And.intro (by first | omega | (intros; omega) | (intros; exact And.intro (by assumption) (by omega)) | kernel_rfl | grind) ?_)
    refine DoLD.call true 108 rfl rfl rfl rfl (by first | exact trivial | omega | (simp; done) | (simp; omega)) (hL1) rfl (by first | exact .inl rfl | exact .inr rfl) rfl ?_
    simp [go_sem]
    repeat (refine And.intro (by first | omega | (intros; omega) | (intros; exact And.intro (by assumption) (by omega)) | kernel_rfl | grind) ?_)
    try (refine And.intro (by kernel_rfl) ?_)
    apply k2_; clear k2_
    refine Do.seqk fun _ k3_ => ?_
    refine Do.seqk fun _ k4_ => ?_
    refine Do.region [1,2,3,4,5,6,12,14,27] true ?_
    simp [go_sem, hs']
    apply k4_; clear k4_
    refine Do.cond [1,2,3,4,5,6,12,14] rfl (fun g1 => ?_) (fun g1 => ?_) <;> simp [go_sem, hs'] at g1 ⊢
    · refine Do.region [1,2,3,4,5,6,12,14] true ?_
      simp [go_sem, hs']
      refine DoL.call true 303 rfl rfl rfl rfl (by first | exact trivial | omega | (simp; done) | (simp; omega)) (hS) rfl (by first | exact .inl rfl | exact .inr rfl) rfl ?_
      simp [go_sem, hs']
      apply k3_; clear k3_
      refine Do.seqk fun _ k5_ => ?_
      refine Do.region [1,2,5,6,12,14,15,16] true ?_
      simp [go_sem, hs']
      refine DoL.call true 503 rfl rfl rfl rfl (by first | exact trivial | omega | (simp; done) | (simp; omega)) (hD) rfl (by first | exact .inl rfl | exact .inr rfl) rfl ?_
      simp [go_sem, hs']
      apply k5_; clear k5_
      refine Do.seqk fun _ k6_ => ?_
      refine Do.draw [12,13] true (by kernel_rfl) ?_
      simp [go_sem, hs']
      repeat (refine And.intro (by first | omega | (intros; omega) | (intros; exact And.intro (by assumption) (by omega)) | kernel_rfl | grind) ?_)
      refine DoLD.call true 609 rfl rfl rfl rfl (by first | exact trivial | omega | (simp; done) | (simp; omega)) (hZ) rfl (by first | exact .inl rfl | exact .inr rfl) rfl ?_
      simp [go_sem, hs']
      repeat (refine And.intro (by first | omega | (intros; omega) | (intros; exact And.intro (by assumption) (by omega)) | kernel_rfl | grind) ?_)
      refine DoLD.call true 611 rfl rfl rfl rfl (by first | exact trivial | omega | (simp; done) | (simp; omega)) (hF) rfl (by first | exact .inl rfl | exact .inr rfl) rfl ?_
      simp [go_sem, hs']
      repeat (refine And.intro (by first | omega | (intros; omega) | (intros; exact And.intro (by assumption) (by omega)) | kernel_rfl | grind) ?_)
      try (refine And.intro (by kernel_rfl) ?_)
      apply k6_; clear k6_
      refine Do.ret ?_
      simp [endQ, rets, ret1, go_sem, hs']
      repeat (refine And.intro (by first | omega | (intros; omega) | (intros; exact And.intro (by assumption) (by omega)) | grind) ?_)
      exact TLe.refl _
    · omega
  · have hD := @WDivMod_one Gv m (by omega) wm h0
    have hZ := @Zero_does Gv (nat 0) (by rw [nat_zero]; decide)
    rw [val_nat] at hZ
    have hF := @Float_does f p r hf hr hr' n (val m) 0 false (by omega) (by omega)
    generalize roundP f p r n (val m) 0 false = z at *
    generalize hv : val m = v at *
    refine Does.of (nt := 50) Tryd.func61 rfl rfl rfl (by simp) ?_
    simp only [argTm, PV.ext, Ce.ext]
    refine Do.seqk fun _ k1_ => ?_
    refine Do.region [1,2,3,4,5,6,12] true ?_
    simp [go_sem]
    apply k1_; clear k1_
    refine Do.seqk fun _ k2_ => ?_
    refine Do.draw [1,2,3,4,5,6,12,14] true (by kernel_rfl) ?_
    simp [go_sem]
    repeat (refine And.intro (by first | omega | (intros; omega) | (intros; exact And.intro (by assumption) (by omega)) | kernel_rfl | grind) ?_)
    refine DoLD.call true 105 rfl rfl rfl rfl (by first | exact trivial | omega | (simp; done) | (simp; omega)) (hL) rfl (by first | exact .inl rfl | exact .inr rfl) rfl ?_
    simp [go_sem]
    repeat (refine And.intro (by first | omega | (intros; omega) | (intros; exact And.intro (by assumption) (by omega)) | kernel_rfl | grind) ?_)
    refine DoLD.call true 108 rfl rfl rfl rfl (by first | exact trivial | omega | (simp; done) | (simp; omega)) (hL1) rfl (by first | exact .inl rfl | exact .inr rfl) rfl ?_
    simp [go_sem]
    repeat (refine And.intro (by first | omega | (intros; omega) | (intros; exact And.intro (by assumption) (by omega)) | kernel_rfl | grind) ?_)
    try (refine And.intro (by kernel_rfl) ?_)
    apply k2_; clear k2_
    refine Do.seqk fun _ k3_ => ?_
    refine Do.seqk fun _ k4_ => ?_
    refine Do.region [1,2,3,4,5,6,12,14,27] true ?_
    simp [go_sem]
    apply k4_; clear k4_
    refine Do.cond [1,2,3,4,5,6,12,14] rfl (fun g1 => ?_) (fun g1 => ?_) <;> simp [go_sem] at g1 ⊢
    · exact absurd g1 (by omega)
    · refine Do.region [1,2,3,4,5,6,12,14] true ?_
      simp [go_sem]
      apply k3_; clear k3_
      refine Do.seqk fun _ k5_ => ?_
      refine Do.region [1,2,5,6,12,14,15,16] true ?_
      simp [go_sem]
      refine DoL.call true 503 rfl rfl rfl rfl (by first | exact trivial | omega | (simp; done) | (simp; omega)) (hD) rfl (by first | exact .inl rfl | exact .inr rfl) rfl ?_
      simp [go_sem]
      apply k5_; clear k5_
      refine Do.seqk fun _ k6_ => ?_
      refine Do.draw [12,13] true (by kernel_rfl) ?_
      simp [go_sem]
      repeat (refine And.intro (by first | omega | (intros; omega) | (intros; exact And.intro (by assumption) (by omega)) | kernel_rfl | grind) ?_)
      refine DoLD.call true 609 rfl rfl rfl rfl (by first | exact trivial | omega | (simp; done) | (simp; omega)) (hZ) rfl (by first | exact .inl rfl | exact .inr rfl) rfl ?_
      simp [go_sem]
      repeat (refine And.intro (by first | omega | (intros; omega) | (intros; exact And.intro (by assumption) (by omega)) | kernel_rfl | grind) ?_)
      refine DoLD.call true 611 rfl rfl rfl rfl (by first | exact trivial | omega | (simp; done) | (simp; omega)) (hF) rfl (by first | exact .inl rfl | exact .inr rfl) rfl ?_
      simp [go_sem]
      repeat (refine And.intro (by first | omega | (intros; omega) | (intros; exact And.intro (by assumption) (by omega)) | kernel_rfl | grind) ?_)
      try (refine And.intro (by kernel_rfl) ?_)
      apply k6_; clear k6_
      refine Do.ret ?_
      simp [endQ, rets, ret1, go_sem]
      repeat (refine And.intro (by first | omega | (intros; omega) | (intros; exact And.intro (by assumption) (by omega)) | grind) ?_)
      exact TLe.refl _
end Go.Proofs.YtokgalpflooegaaDoor
/- Conversions, plain. No condition. -/
namespace Go.Proofs.YtokgalpflooegaaDoor
set_option linter.unusedVariables false
set_option linter.unusedSimpArgs false
set_option maxHeartbeats 4000000
set_option maxRecDepth 10000
/-- The error of a conversion's arguments. -/
def argsC (f p g q r : Int) (b : Bool) (x : Fla) : Int :=
  if 4096 < x.m.length then 2 else if (decide (0 ≤ r) && decide (r ≤ 4) && !b) = false then 1 else if fmOk f p = false ∨ fmOk g q = false then 150 else if (holdsP f p x.flt).2 = false then 151 else 0
theorem argsC_zero {f p g q r : Int} {b : Bool} {x : Fla} (h : argsC f p g q r b x = 0) : x.m.length ≤ 4096 ∧ 0 ≤ r ∧ r ≤ 4 ∧ b = false ∧ fmOk f p = true ∧ fmOk g q = true ∧ (holdsP f p x.flt).2 = true := by
  unfold argsC at h
  by_cases h1 : 4096 < x.m.length
  · simp [h1] at h
  · cases h2 : (decide (0 ≤ r) && decide (r ≤ 4) && !b) <;> cases h3 : fmOk f p <;> cases h4 : fmOk g q <;> cases h5 : (holdsP f p x.flt).2 <;> simp [h1, h2, h3, h4, h5] at h
    simp only [Bool.and_eq_true, decide_eq_true_eq, Bool.not_eq_true'] at h2
    exact ⟨by omega, h2.1.1, h2.1.2, h2.2, rfl, rfl, rfl⟩
/-- A float, rounded to a format. -/
def convA (g q r : Int) (a : Flt) : Flt × Int := if a.k = 1 then (Nu.mk a.n a.v a.e).round g q r false else (a, 0)
def convP (f p g q r : Int) (x : Fla) : Flt × Int × Int :=
  if argsC f p g q r false x = 0 then ((convA g q r (holdsP f p x.flt).1).1, (convA g q r (holdsP f p x.flt).1).2, 0) else (⟨0, false, 0, 0⟩, 0, argsC f p g q r false x)
/-- Is every float of a format one of another? -/
def fitP (f p g q : Int) : Bool := decide (p ≤ q) && decide (gOfE f ≤ gOfE g) && decide (1 - gOfE g - (q - 1) ≤ 1 - gOfE f - (p - 1))
theorem held_fin20 {f p : Int} {x : Flt} (h : (holdsP f p x).2 = true) (hk : (holdsP f p x).1.k = 1) : (bl (holdsP f p x).1.v : Int) ≤ p ∧ 1 - gOfE f - (p - 1) ≤ (holdsP f p x).1.e ∧ (holdsP f p x).1.e + bl (holdsP f p x).1.v ≤ gOfE f + 1 := by
  unfold holdsP at *
  split at h
  · rename_i hc
    rw [if_pos hc] at hk
    rcases hc with hc | hc
    · rw [h] at hc; cases hc
    · exact absurd hk hc
  · rename_i hc
    rw [if_neg hc]
    simp only [Bool.and_eq_true, decide_eq_true_eq] at h
    simp only []
    omega
theorem canon_rc {x : Flt} (h : (canon x).2 = true) : (canon (rcanon x)).2 = true := by
  have hk := (canon_kind h).1
  by_cases h1 : x.k = 1
  · have hb := canon_one h h1
    have e1 : rcanon x = ⟨1, x.n, x.e + tz x.v, x.v / 2 ^ tz x.v⟩ := by simp [rcanon, h1]
    have hd : x.v / 2 ^ tz x.v ≠ 0 := by
      obtain ⟨m, hm⟩ := tz_form (show 0 < x.v by omega)
      have : x.v / 2 ^ tz x.v = 2 * m + 1 := by
        conv => lhs; arg 1; rw [hm]
        exact Nat.mul_div_cancel_left _ (Nat.pow_pos (by decide))
      omega
    rw [e1]
    unfold canon
    simp only []
    rw [if_neg (by omega), if_neg (by omega), if_pos trivial, if_neg (by omega)]
    simp [tz_rest (show 0 < x.v by omega)]; omega
  · have e1 : rcanon x = ⟨x.k, x.n, 0, 0⟩ := by simp [rcanon, h1]
    rw [e1]
    unfold canon
    simp only []
    rcases hk with hk | hk | hk | hk
    · rw [if_pos (by omega)]; simp
    · exact absurd hk h1
    · rw [if_pos (by omega)]; simp
    · rw [if_neg (by omega), if_pos hk]; simp [(canon_kind h).2 hk]
/-- What is held: its canonical form is itself. -/
theorem held_canon {f p : Int} {x : Flt} (h : (holdsP f p x).2 = true) : canon (holdsP f p x).1 = ((holdsP f p x).1, true) := by
  have hr := held_rcanon h
  have h2 : (canon (holdsP f p x).1).2 = true := by
    rw [← hr.1]
    exact canon_rc hr.2
  have h4 : (canon (holdsP f p x).1).1 = (holdsP f p x).1 := by
    rw [← rcanon_good h2, ← hr.1]; exact rcanon_idem _
  exact Prod.ext h4 h2
theorem held_mono {f p g q : Int} {x : Flt} (h : (holdsP f p x).2 = true) (hm : fitP f p g q = true) : holdsP g q (holdsP f p x).1 = ((holdsP f p x).1, true) := by
  have ho := held_fin20 h
  have hc := held_canon h
  generalize (holdsP f p x).1 = a at *
  unfold fitP at hm
  simp only [Bool.and_eq_true, decide_eq_true_eq] at hm
  unfold holdsP
  rw [hc]
  simp only []
  by_cases hk : a.k = 1
  · rw [if_neg (by simp [hk])]
    have := ho hk
    congr 1
    simp; omega
  · rw [if_pos (.inr hk)]
end Go.Proofs.YtokgalpflooegaaDoor

/- The exact sum of floats. No condition. The reference's sum is the program's. No condition. The reference's Total. No condition. What the laws of sums compare. No condition. The law SumTotals. No condition. The law SumAdds. No condition. The package variables of the program, as they are laid, and what a law's arguments are. No condition. Rounding to the nearest: how near, and when exactly. No condition. What a rounded sum drops is a float of the format. No condition. Functions whose one result is a row of the caller's. No condition. The reference's Rest: what sums leave, as a float. No condition. A box under another label; a pointer to cells, taken as one, within a region. No condition. Pairs of floats: the rounded sum, and what it drops. No condition. The law SumPairs. No condition. Products of floats, plain. No condition. Sums of products of floats, plain. No condition. The words of a product, plain. No condition. The program's product of natural numbers. No condition. A rounding without flags: the number is one of the format. No condition. A part of a row of the call's own, given to a call; functions whose result is a row of words of the caller's. No condition. Division by the schoolbook: what its loops hold. No condition. -/
import Derived.Test.YtokgalpflooegaaGreatDoorMh
import Derived.Test.YtokgalpflooegaaGreatDoorMg
import Derived.Test.YtokgalpflooegaaGreatDoorRows
import Derived.LaidMore
import Derived.LaidHandle
import Derived.Stop.Joined
import Derived.Carry
import Derived.OpenShut
import Derived.Test.YtokgalpflooegaaGreatDoorMd
import Derived.Test.YtokgalpflooegaaGreatDoorMf
import Derived.Test.YtokgalpflooegaaGreatDoorMe
import Derived.Lib.Mul64
/- The exact sum of floats. No condition. -/
namespace Go.Proofs.YtokgalpflooegaaGreatDoor
set_option linter.unusedVariables false
set_option linter.unusedSimpArgs false
variable {G : Gl}
set_option maxHeartbeats 4000000
set_option maxRecDepth 10000
theorem svs_bound {z : Int} {M : Nat} : ∀ {l : List Flt}, (∀ x ∈ l, x.k = 1 → x.v * 2 ^ (x.e - z).toNat ≤ M) → (svs z l).natAbs ≤ l.length * M
  | [], _ => by simp [svs]
  | x :: l, h => by
    have ih := svs_bound (l := l) fun y hy => h y (List.mem_cons_of_mem _ hy)
    have hx := h x (by simp)
    simp only [svs, List.length_cons, Nat.add_mul, Nat.one_mul]
    split
    · rename_i hk
      have := hx hk
      unfold Nu.sv
      simp only []
      generalize x.v * 2 ^ (x.e - z).toNat = w at *
      generalize l.length * M = y at *
      split <;> omega
    · generalize l.length * M = y at *
      omega
theorem len_bl {v k : Nat} (h : bl v ≤ k) : (nat v).length ≤ (k + 63) / 64 := by rw [natlen]; omega
/-- Bounds under which exact sums stay small. -/
def Tame (l : List Flt) : Prop := l.length < 1099511627776 ∧ ∀ x ∈ l, (x.k = 1 → -1048576 ≤ x.e ∧ x.e ≤ 1048576 ∧ bl x.v ≤ 1048576)
theorem Tame.term {l : List Flt} (h : Tame l) {z : Int} (hz : -1048576 ≤ z) {x : Flt} (hx : x ∈ l) (hk : x.k = 1) (hze : z ≤ x.e) : bl (x.v * 2 ^ (x.e - z).toNat) ≤ 3145728 := by
  obtain ⟨h1, h2, h3⟩ := h.2 x hx hk
  by_cases h0 : x.v = 0
  · rw [h0]; simp [bl_zero]
  · rw [bl_mul_pow _ _ (by omega)]; omega
theorem Tame.sum {l : List Flt} (h : Tame l) {z : Int} (hz : -1048576 ≤ z) (hl : ∀ x ∈ l, x.k = 1 → z ≤ x.e) (i : Nat) : bl (svs z (l.take i)).natAbs ≤ 3145768 := by
  obtain ⟨K, hK⟩ : ∃ K, K = 3145728 := ⟨_, rfl⟩
  have hb := @svs_bound z (2 ^ K) (l.take i) fun x hx hk => Nat.le_of_lt ((bl_lt _ _).1 (by rw [hK]; exact h.term hz (List.mem_of_mem_take hx) hk (hl x (List.mem_of_mem_take hx) hk)))
  have h1 : (l.take i).length < 2 ^ 40 := Nat.lt_of_le_of_lt (List.length_take_le' i l) h.1
  have h2 : bl (svs z (l.take i)).natAbs ≤ 40 + K := by
    rw [bl_lt]
    refine Nat.lt_of_le_of_lt hb ?_
    rw [Nat.pow_add]
    exact Nat.mul_lt_mul_of_pos_right h1 (Nat.pow_pos (by decide))
  omega
end Go.Proofs.YtokgalpflooegaaGreatDoor
/- The reference's sum is the program's. No condition. -/
namespace Go.Proofs.YtokgalpflooegaaGreatDoor
set_option linter.unusedVariables false
set_option linter.unusedSimpArgs false
variable {G : Gl}
set_option maxHeartbeats 4000000
set_option maxRecDepth 10000
end Go.Proofs.YtokgalpflooegaaGreatDoor
/- The reference's Total. No condition. -/
namespace Go.Proofs.YtokgalpflooegaaGreatDoor
set_option linter.unusedVariables false
set_option linter.unusedSimpArgs false
variable {G : Gl}
set_option maxHeartbeats 4000000
set_option maxRecDepth 10000
end Go.Proofs.YtokgalpflooegaaGreatDoor
/- What the laws of sums compare. No condition. -/
namespace Go.Proofs.YtokgalpflooegaaGreatDoor
set_option linter.unusedVariables false
set_option linter.unusedSimpArgs false
variable {G : Gl}
set_option maxHeartbeats 4000000
set_option maxRecDepth 10000
/-- Arguments that say more. -/
theorem Does.weak {P : Program} {G : Gl} {f : FuncId} {args args' : List PV} {ret : TV} (h : Does P G f args ret) (hle : All2 PLe args' args) : Does P G f args' ret := by
  intro W ok vals hok hgl hargs
  refine h W ok vals hok hgl ?_
  clear h
  induction hle generalizing vals with
  | nil => exact hargs
  | cons h _ ih =>
    obtain ⟨v, vs, rfl, g1, g2⟩ := hargs.cons_iff
    exact .cons (h _ _ g1) (ih vs g2)
theorem Fits_none {k e : Int} {n : Bool} {m : List Nat} {fl w : Int} (hk : k = 0 ∧ n = false ∧ e = 0 ∧ m = []) (hw : w ≠ 0) (er : Int) : Does Tryz.prog Gv 16 [Fl k n e m, .c (.i .i64 0), .c (.i .i64 er), .a [.i .i64 0, .b false, .i .i64 0, .z], .c (.i .i64 fl), .c (.i .i64 w)] (.v (.c (.b (er == w)))) := by
  obtain ⟨rfl, rfl, rfl, rfl⟩ := hk
  have h := @Fits_does Gv ⟨0, false, 0, []⟩ ⟨0, false, 0, []⟩ 0 er fl w (by simp) (by simp [Ws]) (by simp) (by simp [Ws]) (by constructor <;> simp)
  rw [show fitsP ⟨0, false, 0, []⟩ 0 er ⟨0, false, 0, []⟩ fl w = (er == w) by simp [fitsP, hw]] at h
  exact h.weak (.cons (PLe.refl _) (.cons (PLe.refl _) (.cons (PLe.refl _) (.cons (PLe.flt (PLe.z false)) (.cons (PLe.refl _) (.cons (PLe.refl _) .nil))))))
theorem rcanon_idem (x : Flt) : rcanon (rcanon x) = rcanon x := by
  unfold rcanon
  by_cases h : x.k = 1
  · have : tz (x.v / 2 ^ tz x.v) = 0 := by
      by_cases h0 : x.v = 0
      · simp [h0, tz_zero]
      · exact tz_rest (by omega)
    simp [h, this]
  · simp [h]
theorem mkP_fix {n : Bool} {q : Nat} {u : Int} : rcanon (mkP n q u) = mkP n q u := by
  unfold mkP
  split
  · rfl
  · have h : rcanon ⟨1, n, u, q⟩ = ⟨1, n, u + tz q, q / 2 ^ tz q⟩ := by simp [rcanon]
    rw [← h]
    exact rcanon_idem _
abbrev Flt.fla (x : Flt) : Fla := ⟨x.k, x.n, x.e, nat x.v⟩
theorem Flt.fla_flt (x : Flt) : x.fla.flt = x := by simp [Fla.flt, val_nat]
/-- A result against the reference's. -/
theorem Fits_same {x : Flt} {k : Int} (hx : Fine x) (h : rcanon x = x) : Does Tryz.prog G 16 [x.pv, .c (.i .i64 k), .c (.i .i64 0), x.pv, .c (.i .i64 k), .c (.i .i64 0)] (.v (.c (.b true))) := by
  have hl : (nat x.v).length ≤ 1073741824 := by have := nat_len_bl x.v; have := hx.v; omega
  have := @Fits_does G x.fla x.fla k 0 k 0 hl (nat_ws _) hl (nat_ws _) (good_md hx.can)
  rw [show fitsP x.fla k 0 x.fla k 0 = true by rw [fitsP, if_pos rfl, Flt.fla_flt, h]; simp [isP]] at this
  exact this
/-- Floats of the reference: right ones. -/
structure Rt (x : Fla) : Prop where
  can : (canon x.flt).2 = true
  ws : Ws x.m
  len : x.m.length ≤ 4096
theorem Rt.md {x : Fla} (h : Rt x) : Md x.e := good_md h.can
theorem canon_one {x : Flt} (h : (canon x).2 = true) (hk : x.k = 1) : -1048576 ≤ x.e ∧ x.e + tz x.v ≤ 1048576 ∧ x.v ≠ 0 := by
  unfold canon at h
  rw [if_neg (by omega), if_neg (by omega), if_pos hk] at h
  split at h
  · cases h
  · simp at h; omega
theorem canon_kind {x : Flt} (h : (canon x).2 = true) : (x.k = 0 ∨ x.k = 1 ∨ x.k = 2 ∨ x.k = 3) ∧ (x.k = 3 → x.n = false) := by
  unfold canon at h
  split at h
  · omega
  · split at h
    · simp at h; exact ⟨by omega, fun _ => h.1.1⟩
    · split at h
      · omega
      · cases h
theorem rcanon_k (x : Flt) : (rcanon x).k = x.k := by unfold rcanon; split <;> simp_all
end Go.Proofs.YtokgalpflooegaaGreatDoor
/- The law SumTotals. No condition. -/
namespace Go.Proofs.YtokgalpflooegaaGreatDoor
set_option linter.unusedVariables false
set_option linter.unusedSimpArgs false
set_option maxHeartbeats 4000000
set_option maxRecDepth 10000
end Go.Proofs.YtokgalpflooegaaGreatDoor
/- The law SumAdds. No condition. -/
namespace Go.Proofs.YtokgalpflooegaaGreatDoor
set_option linter.unusedVariables false
set_option linter.unusedSimpArgs false
set_option maxHeartbeats 4000000
set_option maxRecDepth 10000
end Go.Proofs.YtokgalpflooegaaGreatDoor
/- The package variables of the program, as they are laid, and what a law's arguments are. No condition. -/
namespace Go.Proofs.YtokgalpflooegaaGreatDoor
set_option linter.unusedVariables false
set_option linter.unusedSimpArgs false
open Go.ChangeShapes Go.WideShapes Go.ChangeAt Go.RowKit
theorem own : ownKnob Tryz.prog.godebug = Option.none := by kernel_rfl
theorem laidOut : laidOutB Tryz.prog = true := by kernel_rfl
theorem g0_name : Tryz.prog.globalNamed "math/bits.deBruijn64tab" = some 1 := by kernel_rfl
theorem g1_name : Tryz.prog.globalNamed "reckoner/fin.more" = some 0 := by kernel_rfl
/-- What is listed. -/
abbrev laidL : List (String × DataW Unit) := [("math/bits.deBruijn64tab", Rows.laid_math_bits_deBruijn64tab), ("reckoner/fin.more", Rows.laid_reckoner_fin_more)]
section
variable {H : Type} {enc : TypeId × Value → H} {P : Program} {W : World} {base : Nat} {sp : Nat → Bool} {held : Bool}
theorem array_at {t e : TypeId} {n fuel : Nat} {cs : List Value} {ds : List (DataW H)} {p : List MemPlace} (ht : P.underlying t = some (.array n e)) (hc : P.cellsOf e = 1) (h : DataW.trod enc P W base sp held fuel t cs = some (.agg ds, p)) {i : Nat} {d : DataW H} (hd : ds[i]? = some d) : ∃ v m q, cs[i]? = some v ∧ DataW.trod enc P W base sp held m e [v] = some (d, q) := by
  obtain ⟨xs, m, rfl, hx, hl, hn, hel⟩ := DataW.trod_array ht h
  simp only [Prod.mk.injEq, DataW.agg.injEq] at hx
  obtain ⟨rfl, _⟩ := hx
  rw [List.getElem?_map] at hd
  cases hxi : xs[i]? with
  | none => simp [hxi] at hd
  | some y =>
    rw [hxi] at hd
    simp only [Option.map_some, Option.some.injEq] at hd
    have hi : i < n := by rw [← hn]; exact (List.getElem?_eq_some_iff.1 hxi).1
    have h1 := hel i hi
    rw [hc, Nat.mul_one, hxi] at h1
    have hil : i < cs.length := by
      apply Classical.byContradiction
      intro hge
      rw [List.drop_of_length_le (by omega)] at h1
      cases m with
      | zero => simp [DataW.trod] at h1
      | succ m =>
        have : P.cellsOf e = 1 := hc
        cases hu : P.underlying e with
        | none => simp [DataW.trod, hu] at h1
        | some k => cases k <;> simp [DataW.trod, hu] at h1 <;> (try omega)
    rw [List.drop_eq_getElem_cons hil] at h1
    simp only [List.take_succ_cons, List.take_zero] at h1
    exact ⟨cs[i], m, y.2, List.getElem?_eq_getElem hil, by rw [h1, ← hd]⟩
theorem laidMetH.plain {l : List (String × DataW Unit)} (h : laidMetH P l W) (hne : (l.filter fun x => x.2.handleName?.isSome).isEmpty = false) : laidMet P (l.filter fun x => x.2.handleName?.isNone) W := by
  unfold laidMetH at h
  generalize (l.filter fun x => x.2.handleName?.isSome) = fl at h hne
  cases fl with
  | nil => cases hne
  | cons a r => exact h.1
end
/-- The door's own heap meets the condition. -/
abbrev doorN : Nat := 19
abbrev doorK : Nat := 8
theorem door_met (os : Os) (args : Array Value) : laidMetH Tryz.prog laidL ((World.doorLaid Tryz.prog doorN os).forCall (fun _ _ => 0) ⟨#[], args, []⟩).memory :=
  laidMetH_of_parts3 (fuel := 8) (laidMet_of_run' 8 (by kernel_rfl) (by kernel_rfl)) (by kernel_rfl) (by kernel_rfl)
theorem of_laid {W : World} (h : laidMetH Tryz.prog laidL W) : GlOk Gv W := by
  have h0 : laidMet Tryz.prog [("math/bits.deBruijn64tab", Rows.laid_math_bits_deBruijn64tab)] W := laidMetH.plain h (by kernel_rfl)
  obtain ⟨ps, ⟨g0, t0, cs0, f0, p0, q0, hg0, ht0, hv0, hd0, _⟩, _, _⟩ := h0
  obtain ⟨g1, t1, cs1, f1, p1, hg1, ht1, hv1, hd1⟩ := h.funcs (d := .agg [.iface "func" (.lit (.string [114, 101, 99, 107, 111, 110, 101, 114, 47, 102, 105, 110, 46, 109, 111, 114, 101, 36, 49])), .iface "func" (.lit (.string [114, 101, 99, 107, 111, 110, 101, 114, 47, 102, 105, 110, 46, 109, 111, 114, 101, 36, 50])), .iface "func" (.lit (.string [114, 101, 99, 107, 111, 110, 101, 114, 47, 102, 105, 110, 46, 109, 111, 114, 101, 36, 51])), .iface "func" (.lit (.string [114, 101, 99, 107, 111, 110, 101, 114, 47, 102, 105, 110, 46, 109, 111, 114, 101, 36, 52])), .iface "func" (.lit (.string [114, 101, 99, 107, 111, 110, 101, 114, 47, 102, 105, 110, 46, 109, 111, 114, 101, 36, 53]))]) (n := "reckoner/fin.more") (List.mem_cons_of_mem _ (List.mem_singleton.2 rfl))
  obtain rfl := Option.some.inj (g0_name.symm.trans hg0)
  obtain rfl := Option.some.inj (g1_name.symm.trans hg1)
  have e0 : (Rows.laid_math_bits_deBruijn64tab : DataW Unit) = .agg (Lib.deBruijn64tab.map fun k => .lit (.int .u8 (k : Nat))) := by kernel_rfl
  rw [e0] at hd0
  obtain rfl := Option.some.inj ((show (Tryz.prog.globals[1]?).map (·.type) = some 214 by kernel_rfl).symm.trans ht0)
  obtain rfl := Option.some.inj ((show (Tryz.prog.globals[0]?).map (·.type) = some 207 by kernel_rfl).symm.trans ht1)
  intro b off x hx
  match b, hx with
  | 1, hx =>
    simp only [Gv, List.getElem?_map] at hx
    cases hk : Lib.deBruijn64tab[off]? with
    | none => simp [hk] at hx
    | some k =>
      simp only [hk, Option.map_some, Option.some.injEq] at hx; subst hx
      obtain ⟨v, m, q, h1, h2⟩ := array_at Tryz.underlying214 (by kernel_rfl) hd0 (i := off) (d := .lit (.int .u8 (k : Nat))) (by simp [hk])
      obtain ⟨z, h3, h4, _⟩ := DataW.trod_int Tryz.underlying5 h2
      simp only [List.cons.injEq, and_true, Prod.mk.injEq, DataW.lit.injEq, Lit.int.injEq, true_and] at h3 h4
      subst h3
      refine ⟨rfl, .int .u8 z, ?_, fun E => ?_⟩
      · rw [World.var?_cell hg0 hv0 off]; simpa using h1
      · show Value.int .u8 z = .int .u8 (k : Nat)
        rw [h4.1]
  | 0, hx =>
    have hd1 : DataW.trod (funcToken Tryz.prog) Tryz.prog W 0 (fun _ => true) true f1 207 cs1.toList = some (.agg [.held [114, 101, 99, 107, 111, 110, 101, 114, 47, 102, 105, 110, 46, 109, 111, 114, 101, 36, 49], .held [114, 101, 99, 107, 111, 110, 101, 114, 47, 102, 105, 110, 46, 109, 111, 114, 101, 36, 50], .held [114, 101, 99, 107, 111, 110, 101, 114, 47, 102, 105, 110, 46, 109, 111, 114, 101, 36, 51], .held [114, 101, 99, 107, 111, 110, 101, 114, 47, 102, 105, 110, 46, 109, 111, 114, 101, 36, 52], .held [114, 101, 99, 107, 111, 110, 101, 114, 47, 102, 105, 110, 46, 109, 111, 114, 101, 36, 53]], p1) := hd1
    have hF : ∀ {i : Nat} {by_ : UInt8} {r : List UInt8} {f0 : FuncId}, (([DataW.held (H := List UInt8) [114, 101, 99, 107, 111, 110, 101, 114, 47, 102, 105, 110, 46, 109, 111, 114, 101, 36, 49], .held [114, 101, 99, 107, 111, 110, 101, 114, 47, 102, 105, 110, 46, 109, 111, 114, 101, 36, 50], .held [114, 101, 99, 107, 111, 110, 101, 114, 47, 102, 105, 110, 46, 109, 111, 114, 101, 36, 51], .held [114, 101, 99, 107, 111, 110, 101, 114, 47, 102, 105, 110, 46, 109, 111, 114, 101, 36, 52], .held [114, 101, 99, 107, 111, 110, 101, 114, 47, 102, 105, 110, 46, 109, 111, 114, 101, 36, 53]]))[i]? = some (.held (by_ :: r)) → ((List.range Tryz.prog.funcs.size).filter fun f => (Tryz.prog.funcs[f]?).any (·.name.toUTF8.data.toList == by_ :: r)) = [f0] → (Ce.f f0).pure = true ∧ ∃ v, W.cell? ⟨0, i, Option.none⟩ = some v ∧ ∀ E, RC E (.f f0) v := fun {i by_ r f0} hi hone => by
      obtain ⟨v, m, q, h1, h2⟩ := array_at Tryz.underlying207 (by kernel_rfl) hd1 hi
      obtain rfl := func_of_trod (f0 := f0) Tryz.underlying206 hone h2
      refine ⟨rfl, .func (.func f0) #[] #[], ?_, fun E => rfl⟩
      rw [World.var?_cell hg1 hv1 i]; simpa using h1
    rcases off with _ | _ | _ | _ | _ | off
    · simp only [Gv] at hx
      obtain rfl : Ce.f 212 = x := Option.some.inj hx
      exact hF (i := 0) rfl (by kernel_rfl)
    · simp only [Gv] at hx
      obtain rfl : Ce.f 213 = x := Option.some.inj hx
      exact hF (i := 1) rfl (by kernel_rfl)
    · simp only [Gv] at hx
      obtain rfl : Ce.f 214 = x := Option.some.inj hx
      exact hF (i := 2) rfl (by kernel_rfl)
    · simp only [Gv] at hx
      obtain rfl : Ce.f 215 = x := Option.some.inj hx
      exact hF (i := 3) rfl (by kernel_rfl)
    · simp only [Gv] at hx
      obtain rfl : Ce.f 216 = x := Option.some.inj hx
      exact hF (i := 4) rfl (by kernel_rfl)
    · simp [Gv] at hx
  | b + 2, hx => simp [Gv] at hx
set_option maxRecDepth 100000
/-- A format among the arguments. -/
theorem arg_fm {H : Type} {enc : TypeId × Value → H} {W : World} {b0 : Nat} {sp : Nat → Bool} {held : Bool} {v : Value} {d : DataW H} {ps : List MemPlace} (hval : Value.okWide Tryz.prog W .any b0 23 v) (h : DataW.Trod enc Tryz.prog W 0 sp held 23 v d ps) : ∃ f p, RP (enA W fun b => b < W.heap.size) (Fm f p) v := by
  obtain ⟨ces, h1, h2⟩ := open_struct (ok := fun b => b < W.heap.size) (f := 2) (cts := [.i .i64, .i .i64]) (fun _ h => h) Tryz.underlying23 (by kernel_rfl) hval h
  cases h2 with | cons g h2 => cases h2 with | cons g' h2 => cases h2 with | nil =>
  obtain ⟨e, rfl, _⟩ := g
  obtain ⟨p, rfl, _⟩ := g'
  exact ⟨e, p, h1⟩
/-- What a law that returns true leaves. -/
theorem law_calls {f : FuncId} {fn : Func} {c : Code} {args : List PV} {W : World} {vals : List Value} (h : Does Tryz.prog Gv f args (.v (.c (.b true)))) (hf : Tryz.prog.funcs[f]? = some fn) (hname : (fn.name == "runtime.NumGoroutine") = false) (hb : fn.body = some c) (hg : GlOk Gv W) (ha : All2 (RP (enA W fun b => b < W.heap.size)) args vals) :
    Calls Tryz.prog f vals.toArray W (fun e W' => e = .returned (.bool true) ∧ Below W.heap.size W W') :=
  (h.toCalls hf hname hb (fun _ h => h) hg ha).mono fun e W' ⟨v, he, hb, hr⟩ => by
    have : v = .bool true := hr
    subst this
    exact ⟨he, hb⟩
end Go.Proofs.YtokgalpflooegaaGreatDoor
/- Rounding to the nearest: how near, and when exactly. No condition. -/
namespace Go.Proofs.YtokgalpflooegaaGreatDoor
set_option linter.unusedVariables false
set_option linter.unusedSimpArgs false
set_option maxHeartbeats 4000000
set_option maxRecDepth 10000
theorem rcanon_scale (n : Bool) {v : Nat} (hv : 0 < v) (e : Int) (k : Nat) : rcanon ⟨1, n, e - k, v * 2 ^ k⟩ = rcanon ⟨1, n, e, v⟩ := by
  simp only [rcanon, if_true]
  rw [Nat.mul_comm v, tz_mul k hv, Nat.pow_add, Nat.mul_div_mul_left _ _ (Nat.pow_pos (by decide))]
  rw [show e - (k : Int) + ((k + tz v : Nat) : Int) = e + tz v by omega]
theorem mkP_rcanon {n : Bool} {q : Nat} {u : Int} (h : q ≠ 0) : mkP n q u = rcanon ⟨1, n, u, q⟩ := by simp [mkP, rcanon, h]
theorem upP_none (r : Int) (n : Bool) (q : Nat) : upP r n q 0 = q := by simp [upP, moreP]
/-- A float of the format is not changed. -/
theorem roundP_exact {f p r : Int} (hf : fmOk f p = true) {n : Bool} {w : Nat} {k : Int} (hw : 0 < w) (hk : 1 - gOfE f - (p - 1) ≤ k) (hb : (bl w : Int) ≤ p) (hg : k + bl w ≤ gOfE f + 1) : roundP f p r n w k false = (rcanon ⟨1, n, k, w⟩, 0) := by
  obtain ⟨b1, b2, b3, b4⟩ := fmOk_spec hf
  have hp := bl_pos hw
  have hu : stepP f p (k + bl w - 1) ≤ k := by unfold stepP; split <;> omega
  unfold roundP
  simp only []
  generalize stepP f p (k + bl w - 1) = u at *
  obtain ⟨j, hj⟩ : ∃ j : Nat, k - u = j := ⟨(k - u).toNat, by omega⟩
  have hc : cutP w (u - k) false = (w * 2 ^ j, 0) := by
    rw [cutP, if_pos (by omega), show (-(u - k)).toNat = j by omega]; rfl
  rw [hc]
  simp only [upP_none]
  have hbl := bl_mul_pow w j hw
  have hpos : 0 < w * 2 ^ j := Nat.mul_pos hw (Nat.pow_pos (by decide))
  rw [if_neg (by omega), if_pos trivial, mkP_rcanon (by omega), show u = k - j by omega, rcanon_scale n hw]
/-- A number over a low exponent, with few enough digits for the format. -/
structure OfF (f p z : Int) (A : Int) (w : Nat) (k : Int) : Prop where
  low : 1 - gOfE f - (p - 1) ≤ k
  few : (bl w : Int) ≤ p
  top : k + bl w ≤ gOfE f + 1
  abs : A.natAbs = w * 2 ^ (k - z).toNat
end Go.Proofs.YtokgalpflooegaaGreatDoor
/- What a rounded sum drops is a float of the format. No condition. -/
namespace Go.Proofs.YtokgalpflooegaaGreatDoor
set_option linter.unusedVariables false
set_option linter.unusedSimpArgs false
set_option maxHeartbeats 4000000
set_option maxRecDepth 10000
theorem OfF.mul {f p z A : Int} {w : Nat} {k : Int} (h : OfF f p z A w k) {m : Int} (h1 : z ≤ m) (h2 : m ≤ k) : ∃ a : Int, A = a * ((2 ^ (m - z).toNat : Nat) : Int) := by
  have e : w * 2 ^ (k - z).toNat = w * 2 ^ (k - m).toNat * 2 ^ (m - z).toNat := by rw [pow_split h1 h2, Nat.mul_assoc]
  have h3 := h.abs
  rw [e] at h3
  rcases Int.natAbs_eq A with h | h
  · exact ⟨(w * 2 ^ (k - m).toNat : Nat), by rw [← Int.natCast_mul, ← h3]; exact h⟩
  · exact ⟨-((w * 2 ^ (k - m).toNat : Nat) : Int), by rw [Int.neg_mul, ← Int.natCast_mul, ← h3]; exact h⟩
/-- The canonical float with a value, the Zero without a sign. -/
def restP (z D : Int) : Flt := if D = 0 then ⟨0, false, 0, 0⟩ else rcanon ⟨1, decide (D < 0), z, D.natAbs⟩
/-- The value of a float over a low exponent. -/
def fv (z : Int) (x : Flt) : Int := if x.k = 1 then Nu.sv z ⟨x.n, x.v, x.e⟩ else 0
end Go.Proofs.YtokgalpflooegaaGreatDoor
/- Functions whose one result is a row of the caller's. No condition. -/
namespace Go.Proofs.YtokgalpflooegaaGreatDoor
set_option linter.unusedVariables false
set_option linter.unusedSimpArgs false
section
variable {P : Program} {G : Gl} {nt : Nat} {st : St} {cx : Cx} {a : Act} {W W' : World} {m : Nat → Option Nat} {QE : Exit → St → Prop} {ops l : List Oper} {Q : St → Prop}
/-- What a call computes whose one result is a row that its caller alone holds. -/
def DoesQ (P : Program) (G : Gl) (f : FuncId) (args : List PV) (sz : Nat) (rows : List (List Ce)) : Prop :=
  ∀ (W : World) (ok : Nat → Prop) (vals : List Value), (∀ b, ok b → b < W.heap.size) → GlOk G W → All2 (RP (enA W ok)) args vals →
    (callFunc f vals.toArray).run P W = .ok (.enter f vals.toArray) W ∧ Calls P f vals.toArray W (fun e W' => ∃ sv bo, e = .returned sv ∧ RowKit.Below W.heap.size W W' ∧ (∀ b, bo = some b → W.heap.size ≤ b ∧ b < W'.heap.size) ∧
      RC (enO W W' ok bo (.sr sz rows)) (.r 0 rows.length) sv ∧ RO (enO W W' ok bo (.sr sz rows)) 0 (.sr sz rows))
def endOne (sz : Nat) (rows : List (List Ce)) (rs : List ResultVar) (e : Exit) (s : St) : Prop :=
  (e = .ret ∨ e = .normal) ∧ match rs with
    | [.tmp t] => (match lk t s.tm with
      | some (.v (.c (.r j n))) => n = rows.length ∧ lk j s.ob = some (.sr sz rows)
      | _ => False)
    | _ => False
theorem DoesQ.of {f : FuncId} {fn : Func} {c : Code} {args : List PV} {sz : Nat} {rows : List (List Ce)} (hf : P.funcs[f]? = some fn) (hname : (fn.name == "runtime.NumGoroutine") = false) (hb : fn.body = some c) (hnt : fn.ntmps = nt) (hal : args.length ≤ nt)
    (h : Do P G nt c ⟨argTm 0 args, []⟩ (endOne sz rows fn.results.toList)) : DoesQ P G f args sz rows := by
  intro W ok vals hok hgl hargs
  refine ⟨?_, ?_⟩
  · have hn' : fn.name ≠ "runtime.NumGoroutine" := by simpa using hname
    simp [callFunc, hf, hn', hb]
  · refine calls_of_wp hf hb ?_
    refine Code.wp_mono (fun e a' W' ⟨s, hq, m', hs⟩ => ?_) (h _ _ W rfl ⟨_, start_rel hok hgl hargs hal hnt⟩)
    obtain ⟨he, hret⟩ := hq
    split at hret
    case h_2 => exact hret.elim
    rename_i t hrs
    split at hret
    case h_2 => exact hret.elim
    rename_i j n ht
    obtain ⟨rfl, hj⟩ := hret
    obtain ⟨sv, hv, hrt⟩ := hs.tm t _ ht
    have hg : a'.tmps.getD t undef = sv := by simp [hv]
    have hres : (results fn a'.tmps).run P W' = .ok sv W' := by
      have hfun : results fn a'.tmps = (do let vs ← fn.results.mapM (resOf a'.tmps); pure (if h : vs.size = 1 then vs[0] else .tuple vs)) := by
        unfold results
        congr 1
      rw [hfun]
      have h1 : (resOf a'.tmps (.tmp t)).run P W' = .ok sv W' := by simp [resOf, hg]
      simp only [Sem.run_bind, Array.mapM_eq_mapM_toList, Sem.run_map, hrs, List.mapM_cons, List.mapM_nil, h1, Result.andThen_ok, Sem.run_pure]
      simp
    have hbelow : RowKit.Below W.heap.size W W' := ⟨hs.os, hs.tape, hs.output, hs.size, fun k hk => hs.keep k hk id⟩
    have hown : ∀ b, m' j = some b → W.heap.size ≤ b ∧ b < W'.heap.size := fun b hb => by
      obtain ⟨q1, q2⟩ := hs.own j _ b hj hb
      exact ⟨q2.elim id fun e => e.1.elim, q1⟩
    have hle : EnLe (fun _ => False) (en ⟨W.heap.size, W, ok, fun _ => False, nt⟩ m' s.ob W') (enO W W' ok (m' j) (.sr sz rows)) :=
      ⟨fun b ⟨q1, q2, q3⟩ => ⟨⟨q1, q2⟩, q3 j _ hj⟩, fun _ _ => rfl, Nat.le_refl _, fun _ hF => hF.elim⟩
    have hO : ∃ bo, (∀ b, bo = some b → W.heap.size ≤ b ∧ b < W'.heap.size) ∧ RC (enO W W' ok bo (.sr sz rows)) (.r 0 rows.length) sv ∧ RO (enO W W' ok bo (.sr sz rows)) 0 (.sr sz rows) := by
      refine ⟨m' j, hown, ⟨hrt.1, fun o' ho' hle' => ?_⟩, ?_⟩
      · obtain rfl : Ob.sr sz rows = o' := by simpa [enO] using ho'
        obtain ⟨_, k2⟩ := hrt.2 _ hj (Nat.le_refl _)
        exact ⟨rfl, k2⟩
      · rcases hs.ob j _ hj with ⟨y1, y2⟩ | ⟨b', vs, e2, r1, r2, r3⟩
        · exact .inl ⟨y1, y2⟩
        · exact .inr ⟨b', vs, e2, r1, r2, fun i cs hi => let ⟨k1, us', k2, k3⟩ := r3 i cs hi; ⟨k1, us', k2.mono hle, k3⟩⟩
    obtain ⟨bo, k1, k2, k3⟩ := hO
    have hfin : ∃ sv' bo, (Ending.returned sv) = .returned sv' ∧ RowKit.Below W.heap.size W W' ∧ (∀ b, bo = some b → W.heap.size ≤ b ∧ b < W'.heap.size) ∧
      RC (enO W W' ok bo (.sr sz rows)) (.r 0 rows.length) sv' ∧ RO (enO W W' ok bo (.sr sz rows)) 0 (.sr sz rows) :=
      ⟨sv, bo, rfl, hbelow, k1, k2, k3⟩
    rcases he with rfl | rfl
    · exact ⟨hs.df, _, hres, hfin⟩
    · exact ⟨hs.df, _, hres, hfin⟩
end
end Go.Proofs.YtokgalpflooegaaGreatDoor
/- The reference's Rest: what sums leave, as a float. No condition. -/
namespace Go.Proofs.YtokgalpflooegaaGreatDoor
set_option linter.unusedVariables false
set_option linter.unusedSimpArgs false
variable {G : Gl}
set_option maxHeartbeats 4000000
set_option maxRecDepth 10000
theorem restP_low {z z' : Int} (hz : z' ≤ z) (S : Int) : restP z' (S * 2 ^ (z - z').toNat) = restP z S := by
  have hp : 0 < 2 ^ (z - z').toNat := Nat.pow_pos (by decide)
  have e2 : (2 : Int) ^ (z - z').toNat = ((2 ^ (z - z').toNat : Nat) : Int) := by simp
  unfold restP
  by_cases hS : S = 0
  · subst hS; simp
  · have h0 : S * 2 ^ (z - z').toNat ≠ 0 := by
      intro h
      rcases Int.mul_eq_zero.1 h with h | h
      · exact hS h
      · rw [e2] at h; omega
    rw [if_neg h0, if_neg hS]
    have ha : (S * 2 ^ (z - z').toNat).natAbs = S.natAbs * 2 ^ (z - z').toNat := by rw [e2, Int.natAbs_mul, Int.natAbs_natCast]
    have hs : decide (S * 2 ^ (z - z').toNat < 0) = decide (S < 0) := by
      rw [decide_eq_decide]
      constructor
      · intro h
        apply Classical.byContradiction
        intro hn
        have := Int.mul_nonneg (show 0 ≤ S by omega) (show (0 : Int) ≤ 2 ^ (z - z').toNat by rw [e2]; omega)
        omega
      · intro h
        exact Int.mul_neg_of_neg_of_pos h (by rw [e2]; omega)
    rw [ha, hs, ← rcanon_scale (decide (S < 0)) (show 0 < S.natAbs by omega) z (z - z').toNat, show z - ((z - z').toNat : Int) = z' by omega]
theorem Tame.rest {A B : List Flt} (ha : Tame A) (hb : Tame B) (hl : A.length + B.length < 1099511627776) : Tame (A ++ B.map Flt.neg) := by
  refine ⟨by simpa using hl, fun x hx hk => ?_⟩
  rcases List.mem_append.1 hx with hx | hx
  · exact ha.2 x hx hk
  · obtain ⟨y, hy, rfl⟩ := List.mem_map.1 hx
    exact hb.2 y hy hk
end Go.Proofs.YtokgalpflooegaaGreatDoor
/- A box under another label; a pointer to cells, taken as one, within a region. No condition. -/
namespace Go.Proofs.YtokgalpflooegaaGreatDoor
set_option linter.unusedVariables false
set_option linter.unusedSimpArgs false
section
variable {P : Program} {G : Gl} {nt : Nat} {st : St} {cx : Cx} {a : Act} {W W' : World} {m : Nat → Option Nat} {QE : Exit → St → Prop} {ops l : List Oper} {Q : St → Prop}
theorem lk_all {α : Type} {p : Nat × α → Bool} {j : Nat} {x : α} : ∀ {l : List (Nat × α)}, l.all p = true → lk j l = some x → p (j, x) = true
  | [], _, h => by simp [lk] at h
  | (k, y) :: r, ha, h => by
    simp only [List.all_cons, Bool.and_eq_true] at ha
    simp only [lk] at h
    split at h
    · rename_i e; injection h with h; subst h; subst e; exact ha.1
    · exact lk_all ha.2 h
/-- An object that nobody asks for any more. -/
theorem Do.drop {c : Code} (la : Nat) (h : Do P G nt c ⟨st.tm, del la st.ob⟩ QE) : Do P G nt c st QE :=
  fun cx a W hn ⟨m, hr⟩ => h cx a W hn ⟨m, hr.fewer (del la st.ob) fun j o hj => by
    rw [lk_del] at hj
    split at hj
    · cases hj
    · exact hj⟩
/-- A pointer to cells, taken as one. -/
theorem DoL.turn (md : Bool) (lab t : Nat) {cs : List Ce} (ht : lk t st.tm = some (.v (.c (.x (PtrSx cs))))) (h : runs P G nt md ops Q lab l ⟨put t (.e cs) st.tm, st.ob⟩) : DoL P G nt ops l st Q := by
  intro cx a W hn ⟨m, hr⟩
  refine DoL.run h cx a W hn ⟨m, { hr with tm := fun s x hx => ?_ }⟩
  rcases lk_le_put s x st.tm hx with ⟨rfl, rfl⟩ | ⟨_, hx⟩
  · obtain ⟨v, hv, ad, h1, h2, vs, h3, h4⟩ := hr.tm _ _ ht
    exact ⟨v, hv, ad, h1, h2, vs, RCs.same (E := enA W (okOf cx m st.ob W)) (E' := en cx m st.ob W) (fun _ h => h) rfl h3, h4⟩
  · exact hr.tm s x hx
end
end Go.Proofs.YtokgalpflooegaaGreatDoor
/- Pairs of floats: the rounded sum, and what it drops. No condition. -/
namespace Go.Proofs.YtokgalpflooegaaGreatDoor
set_option linter.unusedVariables false
set_option linter.unusedSimpArgs false
set_option maxHeartbeats 4000000
set_option maxRecDepth 10000
theorem sv_abs (z D : Int) : Nu.sv z ⟨decide (D < 0), D.natAbs, z⟩ = D := by
  unfold Nu.sv
  simp only [Int.sub_self, Int.toNat_zero, Nat.pow_zero, Nat.mul_one]
  split <;> rename_i h <;> simp at h <;> omega
/-- A canonical float that is a number. -/
def Numb (x : Flt) : Prop := x.k = 1 ∨ (x.k = 0 ∧ x.e = 0 ∧ x.v = 0)
theorem Numb.sv {x : Flt} (h : Numb x) (z : Int) : Nu.sv z ⟨x.n, x.v, x.e⟩ = fv z x := by
  unfold fv
  rcases h with h | ⟨h1, h2, h3⟩
  · rw [if_pos h]
  · rw [if_neg (by omega), h3]; simp [Nu.sv]
theorem Fine.ok {x : Flt} (h : Fine x) (hn : Numb x) (n : Bool) : (⟨n, x.v, x.e⟩ : Nu).Ok := by
  have h1 := h.v
  rcases hn with hk | ⟨hk, h2, h3⟩
  · have := canon_one h.can hk
    exact ⟨by simp only []; omega, by simp only []; omega⟩
  · exact ⟨by simp only []; omega, by simp only []; omega⟩
end Go.Proofs.YtokgalpflooegaaGreatDoor
/- The law SumPairs. No condition. -/
namespace Go.Proofs.YtokgalpflooegaaGreatDoor
set_option linter.unusedVariables false
set_option linter.unusedSimpArgs false
set_option maxHeartbeats 4000000
set_option maxRecDepth 10000
section
variable {f p : Int} {x y : Fla}
end
end Go.Proofs.YtokgalpflooegaaGreatDoor
/- Products of floats, plain. No condition. -/
namespace Go.Proofs.YtokgalpflooegaaGreatDoor
set_option linter.unusedVariables false
set_option linter.unusedSimpArgs false
set_option maxHeartbeats 4000000
set_option maxRecDepth 10000
def K4 (x : Flt) : Prop := x.k = 0 ∨ x.k = 1 ∨ x.k = 2 ∨ x.k = 3
/-- A float as it is held: canonical. -/
structure Cf (x : Flt) : Prop where
  k : K4 x
  fix : rcanon x = x
  pos : x.k = 1 → x.v ≠ 0
theorem Cf.of {x : Flt} (h : (canon x).2 = true) : Cf (rcanon x) := by
  refine ⟨?_, rcanon_idem x, fun hk => ?_⟩
  · have := (canon_kind h).1
    unfold K4
    rw [rcanon_k]; exact this
  · rw [rcanon_k] at hk
    have h1 := (canon_one h hk).2.2
    obtain ⟨m, hm⟩ := tz_form (show 0 < x.v by omega)
    have e1 : x.v / 2 ^ tz x.v = 2 * m + 1 := by
      conv => lhs; arg 1; rw [hm]
      exact Nat.mul_div_cancel_left _ (Nat.pow_pos (by decide))
    simp only [rcanon, hk, if_true]
    omega
end Go.Proofs.YtokgalpflooegaaGreatDoor
/- Sums of products of floats, plain. No condition. -/
namespace Go.Proofs.YtokgalpflooegaaGreatDoor
set_option linter.unusedVariables false
set_option linter.unusedSimpArgs false
set_option maxHeartbeats 4000000
set_option maxRecDepth 10000
theorem sv_rcan {x : Flt} (hk : x.k = 1) {z : Int} (hz : z ≤ x.e) : Nu.sv z ⟨(rcanon x).n, (rcanon x).v, (rcanon x).e⟩ = Nu.sv z ⟨x.n, x.v, x.e⟩ := by
  have e2 : rcanon x = ⟨1, x.n, x.e + tz x.v, x.v / 2 ^ tz x.v⟩ := by simp [rcanon, hk]
  rw [e2]
  have hv : x.v / 2 ^ tz x.v * 2 ^ (x.e + tz x.v - z).toNat = x.v * 2 ^ (x.e - z).toNat := by
    by_cases h0 : x.v = 0
    · rw [h0]; simp
    · obtain ⟨m, hm⟩ := tz_form (show 0 < x.v by omega)
      have e1 : x.v / 2 ^ tz x.v = 2 * m + 1 := by
        conv => lhs; arg 1; rw [hm]
        exact Nat.mul_div_cancel_left _ (Nat.pow_pos (by decide))
      rw [e1, show (x.e + tz x.v - z).toNat = tz x.v + (x.e - z).toNat by omega, Nat.pow_add, ← Nat.mul_assoc]
      congr 1
      conv => rhs; rw [hm]
      exact Nat.mul_comm _ _
  unfold Nu.sv
  simp only [hv]
theorem fv_rcan {x : Flt} {z : Int} (hz : x.k = 1 → z ≤ x.e) : fv z (rcanon x) = fv z x := by
  unfold fv
  rw [rcanon_k]
  split
  · rename_i h; exact sv_rcan h (hz h)
  · rfl
end Go.Proofs.YtokgalpflooegaaGreatDoor
/- The words of a product, plain. No condition. -/
namespace Go.Proofs.YtokgalpflooegaaGreatDoor
set_option linter.unusedVariables false
set_option linter.unusedSimpArgs false
set_option maxHeartbeats 4000000
set_option maxRecDepth 10000
/-- The i-th digit. -/
def dgw (n i : Nat) : Nat := n / 18446744073709551616 ^ i % 18446744073709551616
theorem HposW (i : Nat) : 0 < 18446744073709551616 ^ i := Nat.pow_pos (by decide)
theorem dgw_lt (n i : Nat) : dgw n i < 18446744073709551616 := Nat.mod_lt _ (by decide)
theorem wds_dgw {k n i : Nat} (h : i < k) : (wds n k)[i]? = some (dgw n i) := wds_get h
theorem dgw_none {n k i : Nat} (h : n < 18446744073709551616 ^ k) (hi : k ≤ i) : dgw n i = 0 := by unfold dgw; rw [Nat.div_eq_of_lt (Nat.lt_of_lt_of_le h (Nat.pow_le_pow_right (by decide) hi))]
theorem dgw_low {n p x : Nat} (h : x < p) : dgw (n % 18446744073709551616 ^ p) x = dgw n x := by
  obtain ⟨q, rfl⟩ : ∃ q, p = x + (q + 1) := ⟨p - x - 1, by omega⟩
  unfold dgw
  rw [Nat.pow_add, Nat.mod_mul_right_div_self, Nat.pow_succ, Nat.mul_comm _ 18446744073709551616, Nat.mod_mul_right_mod]
theorem dgw_high {n p x : Nat} (h : p ≤ x) : dgw n x = dgw (n / 18446744073709551616 ^ p) (x - p) := by
  unfold dgw
  rw [Nat.div_div_eq_div_mul, ← Nat.pow_add, show p + (x - p) = x by omega]
theorem low_stepW (n i : Nat) : n % 18446744073709551616 ^ (i + 1) = n % 18446744073709551616 ^ i + dgw n i * 18446744073709551616 ^ i := by
  unfold dgw
  rw [Nat.pow_succ, Nat.mod_mul, Nat.mul_comm (18446744073709551616 ^ i)]
theorem high_stepW (n i : Nat) : n / 18446744073709551616 ^ i = n / 18446744073709551616 ^ (i + 1) * 18446744073709551616 + dgw n i := by
  unfold dgw
  rw [Nat.pow_succ, ← Nat.div_div_eq_div_mul]; omega
theorem wds_ext {l : List Nat} {n k : Nat} (h : l.length = k) (he : ∀ i, i < k → l[i]? = some (dgw n i)) : l = wds n k := by
  apply List.ext_getElem?
  intro i
  by_cases hi : i < k
  · rw [he i hi, wds_dgw hi]
  · rw [List.getElem?_eq_none (by omega), List.getElem?_eq_none (by rw [wds_len]; omega)]
theorem wds_zero (k : Nat) : List.replicate k 0 = wds 0 k := wds_ext (by simp) fun i hi => by simp [dgw, hi]
theorem wds_set {Q n p v : Nat} (hp : p < n) (hv : v < 18446744073709551616) : ∃ Q', (wds Q n).set p v = wds Q' n ∧ Q' + dgw Q p * 18446744073709551616 ^ p = Q + v * 18446744073709551616 ^ p ∧ ∀ m, p < m → Q < 18446744073709551616 ^ m → Q' < 18446744073709551616 ^ m := by
  have e0 : Q = Q % 18446744073709551616 ^ p + (dgw Q p + Q / 18446744073709551616 ^ (p + 1) * 18446744073709551616) * 18446744073709551616 ^ p := by
    have h1 := Nat.div_add_mod' Q (18446744073709551616 ^ p)
    rw [high_stepW, Nat.add_comm (_ * 18446744073709551616)] at h1
    omega
  obtain ⟨Q', hQ⟩ : ∃ Q', Q' = Q % 18446744073709551616 ^ p + (v + Q / 18446744073709551616 ^ (p + 1) * 18446744073709551616) * 18446744073709551616 ^ p := ⟨_, rfl⟩
  have l1 := Nat.mod_lt Q (HposW p)
  have h1 : Q' % 18446744073709551616 ^ p = Q % 18446744073709551616 ^ p := by rw [hQ, Nat.add_mul_mod_self_right, Nat.mod_mod]
  have h2 : Q' / 18446744073709551616 ^ p = v + Q / 18446744073709551616 ^ (p + 1) * 18446744073709551616 := by rw [hQ, Nat.add_mul_div_right _ _ (HposW p), Nat.div_eq_of_lt l1, Nat.zero_add]
  have h3 : Q' / 18446744073709551616 ^ (p + 1) = Q / 18446744073709551616 ^ (p + 1) := by
    rw [Nat.pow_succ, ← Nat.div_div_eq_div_mul, h2, Nat.pow_succ]; omega
  refine ⟨Q', wds_ext (by rw [List.length_set, wds_len]) fun i hi => ?_, ?_, fun m hm h => ?_⟩
  · rw [List.getElem?_set]
    by_cases he : p = i
    · subst he
      rw [if_pos rfl, if_pos (by rw [wds_len]; exact hp)]
      unfold dgw
      rw [h2]
      congr 1
      omega
    · rw [if_neg he, wds_dgw hi]
      congr 1
      rcases Nat.lt_or_gt_of_ne he with h | h
      · rw [dgw_high (show p + 1 ≤ i by omega), dgw_high (show p + 1 ≤ i by omega), h3]
      · rw [← dgw_low h, ← h1, dgw_low h]
  · rw [hQ]
    conv => rhs; rw [e0]
    rw [Nat.add_mul, Nat.add_mul]; omega
  · obtain ⟨q, rfl⟩ : ∃ q, m = (p + 1) + q := ⟨m - (p + 1), by omega⟩
    rw [Nat.pow_add, Nat.mul_comm, ← Nat.div_lt_iff_lt_mul (HposW _)] at h ⊢
    rw [h3]; exact h
/-- The product with the digits below i. -/
def tpw (a b i : Nat) : Nat := a % 18446744073709551616 ^ i * b
/-- What holds within the row i, at the digit t: the number Q stands in the result, c is carried. -/
def TimesW (a b k i t Q c : Nat) : Prop := Q + c * 18446744073709551616 ^ (i + t) = tpw a b i + dgw a i * 18446744073709551616 ^ i * (b % 18446744073709551616 ^ t) ∧ Q < 18446744073709551616 ^ (i + k) ∧ c < 18446744073709551616
theorem TimesW.start {a b k i : Nat} (hb : b < 18446744073709551616 ^ k) : TimesW a b k i 0 (tpw a b i) 0 := by
  refine ⟨by simp [Nat.mod_one], ?_, by omega⟩
  unfold tpw
  rw [Nat.pow_add]
  exact Nat.mul_lt_mul_of_lt_of_le (Nat.mod_lt _ (HposW i)) (Nat.le_of_lt hb) (HposW k)
theorem mul_lt_sqW {x y : Nat} (hx : x < 18446744073709551616) (hy : y < 18446744073709551616) : x * y ≤ 340282366920938463426481119284349108225 := by
  have := Nat.mul_le_mul (show x ≤ 18446744073709551615 by omega) (show y ≤ 18446744073709551615 by omega)
  omega
theorem TimesW.next {a b j k i t Q c : Nat} (h : TimesW a b k i t Q c) (hi : i < j) (ht : t < k) : c + dgw Q (i + t) + dgw a i * dgw b t < 340282366920938463463374607431768211456 ∧ ∃ Q', (wds Q (j + k)).set (i + t) ((c + dgw Q (i + t) + dgw a i * dgw b t) % 18446744073709551616) = wds Q' (j + k) ∧ TimesW a b k i (t + 1) Q' ((c + dgw Q (i + t) + dgw a i * dgw b t) / 18446744073709551616) := by
  obtain ⟨h1, h2, h3⟩ := h
  have l1 := dgw_lt Q (i + t)
  have l2 := mul_lt_sqW (dgw_lt a i) (dgw_lt b t)
  refine ⟨by omega, ?_⟩
  obtain ⟨Q', e1, e2, e3⟩ := @wds_set Q (j + k) (i + t) ((c + dgw Q (i + t) + dgw a i * dgw b t) % 18446744073709551616) (by omega) (Nat.mod_lt _ (by decide))
  refine ⟨Q', e1, ?_, e3 _ (by omega) h2, by omega⟩
  have hs := Nat.div_add_mod' (c + dgw Q (i + t) + dgw a i * dgw b t) 18446744073709551616
  have hm : (c + dgw Q (i + t) + dgw a i * dgw b t) / 18446744073709551616 * 18446744073709551616 ^ (i + (t + 1)) = (c + dgw Q (i + t) + dgw a i * dgw b t) / 18446744073709551616 * 18446744073709551616 * 18446744073709551616 ^ (i + t) := by
    rw [show i + (t + 1) = i + t + 1 by omega, Nat.pow_succ, Nat.mul_comm (18446744073709551616 ^ (i + t)), Nat.mul_assoc]
  rw [hm, low_stepW b t, Nat.mul_add, ← Nat.add_assoc, ← h1]
  have hd : dgw a i * 18446744073709551616 ^ i * (dgw b t * 18446744073709551616 ^ t) = dgw a i * dgw b t * 18446744073709551616 ^ (i + t) := by
    rw [Nat.pow_add]; ac_rfl
  rw [hd]
  have hk : ∀ x y z : Nat, x / 18446744073709551616 * 18446744073709551616 + x % 18446744073709551616 = x := fun x _ _ => Nat.div_add_mod' x _
  generalize 18446744073709551616 ^ (i + t) = M at *
  generalize dgw a i * dgw b t = p at *
  generalize dgw Q (i + t) = q at *
  have e4 : (c + q + p) / 18446744073709551616 * 18446744073709551616 * M + (c + q + p) % 18446744073709551616 * M = (c + q + p) * M := by rw [← Nat.add_mul, hk _ 0 0]
  rw [Nat.add_mul, Nat.add_mul] at e4
  omega
theorem TimesW.out {a b j k i Q c : Nat} (h : TimesW a b k i k Q c) (hb : b < 18446744073709551616 ^ k) (hi : i < j) : (wds Q (j + k)).set (i + k) c = wds (tpw a b (i + 1)) (j + k) := by
  obtain ⟨h1, h2, h3⟩ := h
  obtain ⟨Q', e1, e2, _⟩ := @wds_set Q (j + k) (i + k) c (by omega) h3
  rw [dgw_none h2 (Nat.le_refl _), Nat.zero_mul, Nat.add_zero, h1, Nat.mod_eq_of_lt hb] at e2
  rw [e1, e2]
  unfold tpw
  rw [low_stepW a i, Nat.add_mul]
end Go.Proofs.YtokgalpflooegaaGreatDoor
/- The program's product of natural numbers. No condition. -/
namespace Go.Proofs.YtokgalpflooegaaGreatDoor
set_option linter.unusedVariables false
set_option linter.unusedSimpArgs false
variable {G : Gl}
set_option maxHeartbeats 4000000
set_option maxRecDepth 10000
theorem mask32 (a : Nat) : a &&& 4294967295 = a % 4294967296 := Nat.and_two_pow_sub_one_eq_mod a 32
theorem Mul64_does {x y : Nat} (hx : x < 18446744073709551616) (hy : y < 18446744073709551616) : Does Tryz.prog G 194 [.c (.n x), .c (.n y)] (.t [.c (.n (x * y / 18446744073709551616)), .c (.n (x * y % 18446744073709551616))]) := by
  obtain ⟨bd, bt, bw, hhi⟩ := Lib.mul64_hi x y hx hy
  have ba := Lib.half_mul_le (a := x / 4294967296) (b := y / 4294967296) (by omega) (by omega)
  have bb := Lib.half_mul_le (a := x / 4294967296) (b := y % 4294967296) (by omega) (by omega)
  have bc := Lib.half_mul_le (a := x % 4294967296) (b := y / 4294967296) (by omega) (by omega)
  generalize hxl : x % 4294967296 = xl at *
  generalize hxh : x / 4294967296 = xh at *
  generalize hyl : y % 4294967296 = yl at *
  generalize hyh : y / 4294967296 = yh at *
  have bx : x < M64 := hx
  have hy64 : y < M64 := hy
  have b0 : xl * yl < M64 := bd
  have b1 : xh * yl < M64 := by unfold M64; omega
  have b2 : xh * yl + xl * yl / 4294967296 < M64 := bt
  have b3 : xl * yh < M64 := by unfold M64; omega
  have b4 : (xh * yl + xl * yl / 4294967296) % 4294967296 + xl * yh < M64 := bw
  have b5 : xh * yh < M64 := by unfold M64; omega
  have b6 : xh * yh + (xh * yl + xl * yl / 4294967296) / 4294967296 < M64 := by unfold M64; omega
  have b7 : xh * yh + (xh * yl + xl * yl / 4294967296) / 4294967296 + ((xh * yl + xl * yl / 4294967296) % 4294967296 + xl * yh) / 4294967296 < M64 := by unfold M64; omega
  refine Does.of (nt := 51) Tryz.func194 rfl rfl rfl (by simp) ?_
  simp only [argTm, PV.ext, Ce.ext]
  refine Do.seqk fun _ k1_ => ?_
  refine Do.region [0,1] true ?_
  simp [go_sem, mask32, bx, hy64, hxl, hxh, hyl, hyh, b0, b1, b2, b3, b4, b5, b6, b7]
  apply k1_; clear k1_
  refine Do.seqk fun _ k2_ => ?_
  refine Do.region [0,1,6] true ?_
  simp [go_sem, mask32, bx, hy64, hxl, hxh, hyl, hyh, b0, b1, b2, b3, b4, b5, b6, b7]
  apply k2_; clear k2_
  refine Do.seqk fun _ k3_ => ?_
  refine Do.region [0,1,6,7] true ?_
  simp [go_sem, mask32, bx, hy64, hxl, hxh, hyl, hyh, b0, b1, b2, b3, b4, b5, b6, b7]
  repeat (refine And.intro (by first | omega | (intros; omega) | grind) ?_)
  apply k3_; clear k3_
  refine Do.seqk fun _ k4_ => ?_
  refine Do.region [0,1,6,7,8] true ?_
  simp [go_sem, mask32, bx, hy64, hxl, hxh, hyl, hyh, b0, b1, b2, b3, b4, b5, b6, b7]
  apply k4_; clear k4_
  refine Do.seqk fun _ k5_ => ?_
  refine Do.region [0,1,6,7,8,9] true ?_
  simp [go_sem, mask32, bx, hy64, hxl, hxh, hyl, hyh, b0, b1, b2, b3, b4, b5, b6, b7]
  repeat (refine And.intro (by first | omega | (intros; omega) | grind) ?_)
  apply k5_; clear k5_
  refine Do.seqk fun _ k6_ => ?_
  refine Do.region [0,1,6,7,8,9,10] true ?_
  simp [go_sem, mask32, bx, hy64, hxl, hxh, hyl, hyh, b0, b1, b2, b3, b4, b5, b6, b7]
  repeat (refine And.intro (by first | omega | (intros; omega) | grind) ?_)
  apply k6_; clear k6_
  refine Do.seqk fun _ k7_ => ?_
  refine Do.region [0,1,6,7,9,11] true ?_
  simp [go_sem, mask32, bx, hy64, hxl, hxh, hyl, hyh, b0, b1, b2, b3, b4, b5, b6, b7]
  repeat (refine And.intro (by first | omega | (intros; omega) | grind) ?_)
  apply k7_; clear k7_
  refine Do.seqk fun _ k8_ => ?_
  refine Do.region [0,1,6,7,9,11,12] true ?_
  simp [go_sem, mask32, bx, hy64, hxl, hxh, hyl, hyh, b0, b1, b2, b3, b4, b5, b6, b7]
  apply k8_; clear k8_
  refine Do.seqk fun _ k9_ => ?_
  refine Do.region [0,1,6,7,9,12,13] true ?_
  simp [go_sem, mask32, bx, hy64, hxl, hxh, hyl, hyh, b0, b1, b2, b3, b4, b5, b6, b7]
  repeat (refine And.intro (by first | omega | (intros; omega) | grind) ?_)
  apply k9_; clear k9_
  refine Do.seqk fun _ k10_ => ?_
  refine Do.region [0,1,7,9,12,13] true ?_
  simp [go_sem, mask32, bx, hy64, hxl, hxh, hyl, hyh, b0, b1, b2, b3, b4, b5, b6, b7]
  repeat (refine And.intro (by first | omega | (intros; omega) | grind) ?_)
  apply k10_; clear k10_
  refine Do.seqk fun _ k11_ => ?_
  refine Do.region [0,1,4] true ?_
  simp [go_sem, mask32, bx, hy64, hxl, hxh, hyl, hyh, b0, b1, b2, b3, b4, b5, b6, b7]
  repeat (refine And.intro (by first | omega | (intros; omega) | grind) ?_)
  apply k11_; clear k11_
  refine Do.seqk fun _ k12_ => ?_
  refine Do.region [4,5] false ?_
  simp [go_sem, mask32, bx, hy64, hxl, hxh, hyl, hyh, b0, b1, b2, b3, b4, b5, b6, b7]
  repeat (refine And.intro (by first | omega | (intros; omega) | grind) ?_)
  apply k12_; clear k12_
  refine Do.ret ?_
  simp [endQ, rets, ret1, go_sem, mask32, bx, hy64, hxl, hxh, hyl, hyh, b0, b1, b2, b3, b4, b5, b6, b7]
  repeat (refine And.intro (by first | omega | (intros; omega) | grind) ?_)
  rw [hhi]
  exact TLe.refl _
end Go.Proofs.YtokgalpflooegaaGreatDoor
/- A rounding without flags: the number is one of the format. No condition. -/
namespace Go.Proofs.YtokgalpflooegaaGreatDoor
set_option linter.unusedVariables false
set_option linter.unusedSimpArgs false
set_option maxHeartbeats 4000000
set_option maxRecDepth 10000
theorem round_rcanon2 {f p r : Int} {n : Bool} {v : Nat} {e : Int} (hv : 0 < v) : roundP f p r n (rcanon ⟨1, n, e, v⟩).v (rcanon ⟨1, n, e, v⟩).e false = roundP f p r n v e false := by
  obtain ⟨m, hm⟩ := tz_form hv
  have e1 : v / 2 ^ tz v = 2 * m + 1 := by
    conv => lhs; arg 1; rw [hm]
    exact Nat.mul_div_cancel_left _ (Nat.pow_pos (by decide))
  have e2 : rcanon ⟨1, n, e, v⟩ = ⟨1, n, e + tz v, v / 2 ^ tz v⟩ := by simp [rcanon]
  rw [e2]
  simp only []
  have h := @roundP_scale f p r n (v / 2 ^ tz v) (tz v) (e + tz v) (by omega)
  rw [← h, show e + (tz v : Int) - (tz v : Nat) = e by omega]
  congr 1
  rw [e1, Nat.mul_comm]
  exact hm.symm
theorem cutP_exact {V : Nat} {s : Int} (h : (cutP V s false).2 = 0) : ∃ a b : Nat, V * 2 ^ a = (cutP V s false).1 * 2 ^ b ∧ (b : Int) - a = s := by
  unfold cutP at h ⊢
  by_cases hs : s ≤ 0
  · rw [if_pos hs]
    exact ⟨(-s).toNat, 0, by simp, by omega⟩
  · rw [if_neg hs] at h ⊢
    simp only [Bool.false_or] at h ⊢
    refine ⟨0, s.toNat, ?_, by omega⟩
    obtain ⟨k, hk⟩ : ∃ k : Nat, s = k + 1 := ⟨(s - 1).toNat, by omega⟩
    have e1 : (s - 1).toNat = k := by omega
    have e2 : s.toNat = k + 1 := by omega
    rw [e1] at h
    rw [e2]
    have h1 : V / 2 ^ k % 2 ≠ 1 := by
      intro h1
      rw [if_pos h1] at h
      split at h <;> simp at h
    rw [if_neg h1] at h
    have h2 : V % 2 ^ k = 0 := by
      apply Classical.byContradiction
      intro h2
      simp [h2] at h
    have h3 := Nat.div_add_mod V (2 ^ k)
    have h4 := Nat.div_add_mod (V / 2 ^ k) 2
    rw [Nat.div_div_eq_div_mul, ← Nat.pow_succ] at h4
    rw [h2] at h3
    have h5 : V / 2 ^ k % 2 = 0 := by omega
    rw [h5] at h4
    simp only [Nat.pow_zero, Nat.mul_one, Nat.add_zero] at h3 h4 ⊢
    conv => lhs; rw [← h3, ← h4]
    rw [← Nat.mul_assoc, ← Nat.pow_succ, Nat.mul_comm]
theorem roundP_flags {f p r : Int} (hf : fmOk f p = true) {n : Bool} {V : Nat} {z : Int} (hV : 0 < V) (h : (roundP f p r n V z false).2 = 0) : inP f p ⟨1, n, z, V⟩ = true ∧ (roundP f p r n V z false).1 = rcanon ⟨1, n, z, V⟩ := by
  obtain ⟨b1, b2, b3, b4⟩ := fmOk_spec hf
  obtain ⟨b5, b6⟩ := gOfE_le b1 b2
  have hp := bl_pos hV
  have hu : 1 - gOfE f - (p - 1) ≤ stepP f p (z + bl V - 1) ∧ z + bl V - stepP f p (z + bl V - 1) ≤ p := by unfold stepP; split <;> omega
  unfold roundP at h ⊢
  simp only [] at h ⊢
  generalize stepP f p (z + bl V - 1) = u at *
  split at h
  · simp at h
  · rename_i hno
    rw [if_neg hno]
    have hc : (cutP V (u - z) false).2 = 0 := by
      apply Classical.byContradiction
      intro hn
      simp only [] at h
      rw [if_neg hn] at h
      split at h <;> simp at h
    obtain ⟨a, b, h1, h2⟩ := cutP_exact hc
    rw [hc, upP_none] at hno ⊢
    simp only []
    generalize (cutP V (u - z) false).1 = q at *
    have hq : 0 < q := by
      rcases Nat.eq_zero_or_pos q with h0 | h0
      · exfalso
        rw [h0, Nat.zero_mul] at h1
        have := Nat.mul_pos hV (Nat.pow_pos (n := a) (show 0 < 2 by decide))
        omega
      · exact h0
    have hb : a + bl V = b + bl q := by rw [← bl_mul_pow V a hV, ← bl_mul_pow q b hq, h1]
    have he : rcanon ⟨1, n, u, q⟩ = rcanon ⟨1, n, z, V⟩ := by
      rw [← rcanon_scale n hV z a, ← rcanon_scale n hq u b, h1, show u - (b : Int) = z - a by omega]
    refine ⟨?_, by rw [mkP_rcanon (by omega), he]⟩
    have hin : inP f p ⟨1, n, z, V⟩ = inP f p ⟨1, n, u, q⟩ := by
      unfold inP
      simp only [if_true]
      rw [he]
    rw [hin]
    have e2 : rcanon ⟨1, n, u, q⟩ = ⟨1, n, u + tz q, q / 2 ^ tz q⟩ := by simp [rcanon]
    unfold inP
    simp only [if_true]
    rw [e2]
    simp only [bl_div]
    have := tz_lt_bl hq
    simp only [Bool.and_eq_true, decide_eq_true_eq]
    omega
/-- Is what is left of the format, by the reference? -/
theorem inP_flags {f p : Int} (hf : fmOk f p = true) {z D : Int} {y : Nu} (hy : z ≤ y.e) (hs : y.sv z = D) : (inP f p (restP z D) = true → y.round f p 0 false = (restP z D, 0)) ∧ ((y.round f p 0 false).2 = 0 → inP f p (restP z D) = true) := by
  obtain ⟨b1, b2, b3, b4⟩ := fmOk_spec hf
  have hr := Nu.round_sv hy (b := ⟨decide (D < 0), D.natAbs, z⟩) (Int.le_refl _) (by rw [sv_abs, hs]) f p 0 false
  rw [hr]
  unfold Nu.round restP
  simp only []
  by_cases hD : D = 0
  · rw [if_pos (show D.natAbs = 0 by omega), if_pos hD]
    exact ⟨fun _ => rfl, fun _ => by simp [inP]⟩
  · rw [if_neg (show ¬ D.natAbs = 0 by omega), if_neg hD]
    have hV : 0 < D.natAbs := by omega
    have e2 : rcanon ⟨1, decide (D < 0), z, D.natAbs⟩ = ⟨1, decide (D < 0), z + tz D.natAbs, D.natAbs / 2 ^ tz D.natAbs⟩ := by simp [rcanon]
    refine ⟨fun h => ?_, fun h => ?_⟩
    · have h1 := @round_rcanon2 f p 0 (decide (D < 0)) D.natAbs z hV
      unfold inP at h
      rw [rcanon_idem, e2] at h
      rw [e2] at h1 ⊢
      simp only [if_true, Bool.and_eq_true, decide_eq_true_eq] at h
      have hpos : 0 < D.natAbs / 2 ^ tz D.natAbs := Nat.div_pos ((bl_le _ _).1 (tz_lt_bl hV)) (Nat.pow_pos (by decide))
      rw [← h1]
      simp only []
      rw [roundP_exact hf hpos h.1.2 h.1.1 (by omega)]
      congr 1
      rw [← e2]
      have := rcanon_idem ⟨1, decide (D < 0), z, D.natAbs⟩
      rw [e2] at this ⊢
      exact this
    · have h1 := (roundP_flags hf hV h).1
      unfold inP at h1 ⊢
      rw [rcanon_idem, rcanon_k]
      exact h1
end Go.Proofs.YtokgalpflooegaaGreatDoor
/- A part of a row of the call's own, given to a call; functions whose result is a row of words of the caller's. No condition. -/
namespace Go.Proofs.YtokgalpflooegaaGreatDoor
set_option linter.unusedVariables false
set_option linter.unusedSimpArgs false
section
variable {P : Program} {G : Gl} {nt : Nat} {st : St} {cx : Cx} {a : Act} {W W' : World} {m : Nat → Option Nat} {QE : Exit → St → Prop} {ops l : List Oper} {Q : St → Prop}
/-- A part of a row of words that this call writes, read by the call that follows. -/
theorem DoL.part {o1 o2 o3 : Oper} {t e : TypeId} {b1 z1 : Nat} {c1 : List Ce} {te : TI} {x lo hi y : Operand} {j n d1 d2 : Nat} {w : List Nat} {l0 h0 : Int} {yv : PV} {f : FuncId} {xf : Operand} {ts : Array TypeId} {ret : TV} (md : Bool) (lab : Nat)
    (hg1 : o1.guard = none) (hop1 : o1.op = .slice t x (some lo) (some hi) none) (hd1 : o1.dst = some d1) (hn1 : d1 < nt)
    (hg2 : o2.guard = none) (hop2 : o2.op = .move y) (hd2 : o2.dst = some d2) (hn2 : d2 < nt) (hne : d2 ≠ d1)
    (hg3 : o3.guard = none) (hop3 : o3.op = .call { callee := .value xf, args := #[.tmp d1, .tmp d2], argTypes := ts }) (hd3 : dstOk nt o3.dst = true)
    (ht : tiOf P t = some ⟨b1, z1, c1, .slice e⟩) (he : tiOf P e = some te) (hsz : te.size = 1)
    (hx : opv st.tm x = some (.v (.c (.r j n)))) (hj : lk j st.ob = some (.wr w)) (hlo : opv st.tm lo = some (.v (.c (.i .i64 l0)))) (hhi : opv st.tm hi = some (.v (.c (.i .i64 h0))))
    (hy : opv (del d1 st.tm) y = some (.v yv)) (hxf : opv (put d2 (.v yv) (del d1 st.tm)) xf = some (.v (.c (.f f))))
    (hp : w.length = n ∧ 0 ≤ l0 ∧ l0 ≤ h0 ∧ h0 ≤ w.length) (hD : Does P G f [.c (.w false ((w.drop l0.toNat).take (h0.toNat - l0.toNat))), yv.ext] ret) (hl : ret.labs = []) (hf : ret.fr = true)
    (next : runs P G nt md ops Q lab l ⟨setv o3.dst (some ret) (put d2 (.v yv) (del d1 st.tm)), st.ob⟩) : DoL P G nt ops (o1 :: o2 :: o3 :: l) st Q := by
  intro cx a W hn ⟨m, hr⟩ Q' hQ
  subst hn
  have hw : RP (enA W (okC cx m st W true)) (.c (.w false w)) (a.eval x) := row_words hr hj hp.1 (hr.opv hx) rfl false fun b hb => ⟨.inr ⟨rfl, j, _, hj, hb⟩, fun e => (by cases e)⟩
  have vlo : a.eval lo = .int .i64 l0 := hr.opv hlo
  have vhi : a.eval hi = .int .i64 h0 := hr.opv hhi
  obtain ⟨_, yy, u, e1, e2, e3⟩ := sliceM_run (P := P) (W := W) (tiOf_slice ht) he (x := .v (.c (.w false w))) hw (n := w.length) (lo := l0) (hi := h0) (mx := none) (vlo := some (a.eval lo)) (vhi := some (a.eval hi)) (vmx := none) rfl (.inr (by rw [vlo])) (.inl ⟨rfl, rfl, .inr (by rw [vhi])⟩) (out := ⟨0 ≤ l0 ∧ l0 ≤ h0 ∧ h0 ≤ w.length ∧ (∀ x : Int, none = some x → h0 ≤ x ∧ x ≤ w.length), some (.v (.c (.w false ((w.drop l0.toNat).take (h0.toNat - l0.toNat))))), .none⟩) (by simp only [sliceM]; rw [if_pos hsz]) ⟨hp.2.1, hp.2.2.1, hp.2.2.2, fun x hx => by cases hx⟩
  injection e1 with e1; subst e1
  -- the part
  refine wpList_plain hg1 fun K1 hK1 => ?_
  unfold Oper.wp
  have x1 : (execOp a.eval o1).run P W = .ok (.value u) W := by
    have : execOp a.eval o1 = (do pure (.value (← Instr.sliceAt t (a.eval x) (some (a.eval lo)) (some (a.eval hi)) none))) := by
      unfold execOp; simp [hop1]
    rw [this]; simp [e2]
  rw [x1]
  refine hK1 _ _ ?_
  rw [hd1]
  have h1 := hr.forget d1 u
  generalize ha1 : a.put (some d1) u = a1 at *
  have hu1 : a1.tmps[d1]? = some u := by rw [← ha1]; simp [Act.put, hr.nt, hn1]
  -- the other argument
  refine wpList_plain hg2 fun K2 hK2 => ?_
  unfold Oper.wp
  have hyv : RT (en cx m st.ob W) (.v yv) (a1.eval y) := h1.opv hy
  have x2 : (execOp a1.eval o2).run P W = .ok (.value (a1.eval y)) W := by unfold execOp; simp [hop2]
  rw [x2]
  refine hK2 _ _ ?_
  rw [hd2]
  have h2 := h1.slot hn2 hyv
  generalize ha2 : a1.put (some d2) (a1.eval y) = a2 at *
  have hu2 : a2.tmps[d1]? = some u := by rw [← ha2]; simp [Act.put, Array.getElem?_setIfInBounds_ne hne, hu1]
  have hv2 : a2.tmps[d2]? = some (a1.eval y) := by rw [← ha2]; simp [Act.put, h1.nt, hn2]
  -- the call
  refine wpList_plain hg3 fun K hK => ?_
  unfold Oper.wp
  have hxv : a2.eval xf = .func (.func f) #[] #[] := h2.opv hxf
  have hexec : execOp a2.eval o3 = callFunc f [u, a1.eval y].toArray := by
    have q1 : a2.eval (.tmp d1) = u := by simp [Act.eval, hu2]
    have q2 : a2.eval (.tmp d2) = a1.eval y := by simp [Act.eval, hv2]
    unfold execOp
    simp [hop3, resolve, hxv, Deferred.ofValue, invoke, q1, q2]
  have hok : ∀ b, okC cx m st W true b → b < W.heap.size := by
    rintro b (h | ⟨_, j, o, g1, g2⟩)
    · exact h.2.1
    · exact (hr.own j o b g1 g2).1
  have hargs : All2 (RP (enA W (okC cx m st W true))) [.c (.w false ((w.drop l0.toNat).take (h0.toNat - l0.toNat))), yv.ext] [u, a1.eval y] :=
    .cons e3 (.cons (PLe.ext _ _ _ (RP.mono (okC_le cx m st W true) (fun _ _ => trivial) hyv)) .nil)
  rcases hD W (okC cx m st W true) _ hok h2.glOk hargs with ⟨g1, g2⟩ | ⟨v, g1, g2⟩
  · rw [hexec, g1]
    refine g2.mono fun en' W' ⟨v, he, hb, hrt⟩ => ?_
    subst he
    exact hK _ _ (DoL.run next cx _ _ rfl (Rel.put (h2.below hb) rfl hd3 (call_res (pur := true) (st := ⟨put d2 (.v yv) (del d1 st.tm), st.ob⟩) h2 hb hl (.inr hf) hrt)) Q' hQ)
  · rw [hexec, g1]
    have hb := RowKit.Below.refl W.heap.size W
    exact hK _ _ (DoL.run next cx _ _ rfl (Rel.put h2 rfl hd3 (call_res (pur := true) (st := ⟨put d2 (.v yv) (del d1 st.tm), st.ob⟩) h2 hb hl (.inr hf) g2)) Q' hQ)
/-- What a call computes whose one result is a row of words that its caller alone holds. -/
def DoesW (P : Program) (G : Gl) (f : FuncId) (args : List PV) (w : List Nat) : Prop :=
  ∀ (W : World) (ok : Nat → Prop) (vals : List Value), (∀ b, ok b → b < W.heap.size) → GlOk G W → All2 (RP (enA W ok)) args vals →
    (callFunc f vals.toArray).run P W = .ok (.enter f vals.toArray) W ∧ Calls P f vals.toArray W (fun e W' => ∃ sv bo, e = .returned sv ∧ RowKit.Below W.heap.size W W' ∧ (∀ b, bo = some b → W.heap.size ≤ b ∧ b < W'.heap.size) ∧
      RC (enO W W' ok bo (.wr w)) (.r 0 w.length) sv ∧ RO (enO W W' ok bo (.wr w)) 0 (.wr w))
def endRow (w : List Nat) (rs : List ResultVar) (e : Exit) (s : St) : Prop :=
  (e = .ret ∨ e = .normal) ∧ match rs with
    | [.tmp t] => (match lk t s.tm with
      | some (.v (.c (.r j n))) => n = w.length ∧ lk j s.ob = some (.wr w)
      | _ => False)
    | _ => False
theorem DoesW.of {f : FuncId} {fn : Func} {c : Code} {args : List PV} {w : List Nat} (hf : P.funcs[f]? = some fn) (hname : (fn.name == "runtime.NumGoroutine") = false) (hb : fn.body = some c) (hnt : fn.ntmps = nt) (hal : args.length ≤ nt)
    (h : Do P G nt c ⟨argTm 0 args, []⟩ (endRow w fn.results.toList)) : DoesW P G f args w := by
  intro W ok vals hok hgl hargs
  refine ⟨?_, ?_⟩
  · have hn' : fn.name ≠ "runtime.NumGoroutine" := by simpa using hname
    simp [callFunc, hf, hn', hb]
  · refine calls_of_wp hf hb ?_
    refine Code.wp_mono (fun e a' W' ⟨s, hq, m', hs⟩ => ?_) (h _ _ W rfl ⟨_, start_rel hok hgl hargs hal hnt⟩)
    obtain ⟨he, hret⟩ := hq
    split at hret
    case h_2 => exact hret.elim
    rename_i t hrs
    split at hret
    case h_2 => exact hret.elim
    rename_i j n ht
    obtain ⟨rfl, hj⟩ := hret
    obtain ⟨sv, hv, hrt⟩ := hs.tm t _ ht
    have hg : a'.tmps.getD t undef = sv := by simp [hv]
    have hres : (results fn a'.tmps).run P W' = .ok sv W' := by
      have hfun : results fn a'.tmps = (do let vs ← fn.results.mapM (resOf a'.tmps); pure (if h : vs.size = 1 then vs[0] else .tuple vs)) := by
        unfold results
        congr 1
      rw [hfun]
      have h1 : (resOf a'.tmps (.tmp t)).run P W' = .ok sv W' := by simp [resOf, hg]
      simp only [Sem.run_bind, Array.mapM_eq_mapM_toList, Sem.run_map, hrs, List.mapM_cons, List.mapM_nil, h1, Result.andThen_ok, Sem.run_pure]
      simp
    have hbelow : RowKit.Below W.heap.size W W' := ⟨hs.os, hs.tape, hs.output, hs.size, fun k hk => hs.keep k hk id⟩
    have hown : ∀ b, m' j = some b → W.heap.size ≤ b ∧ b < W'.heap.size := fun b hb => by
      obtain ⟨q1, q2⟩ := hs.own j _ b hj hb
      exact ⟨q2.elim id fun e => e.1.elim, q1⟩
    have hO : ∃ bo, (∀ b, bo = some b → W.heap.size ≤ b ∧ b < W'.heap.size) ∧ RC (enO W W' ok bo (.wr w)) (.r 0 w.length) sv ∧ RO (enO W W' ok bo (.wr w)) 0 (.wr w) := by
      refine ⟨m' j, hown, ⟨hrt.1, fun o' ho' hle' => ?_⟩, ?_⟩
      · obtain rfl : Ob.wr w = o' := by simpa [enO] using ho'
        obtain ⟨_, k2⟩ := hrt.2 _ hj (Nat.le_refl _)
        exact ⟨rfl, k2⟩
      · rcases hs.ob j _ hj with ⟨y1, y2⟩ | ⟨b', vs, e2, r1, r2, r3⟩
        · exact .inl ⟨y1, y2⟩
        · exact .inr ⟨b', vs, e2, r1, r2, r3⟩
    obtain ⟨bo, k1, k2, k3⟩ := hO
    have hfin : ∃ sv' bo, (Ending.returned sv) = .returned sv' ∧ RowKit.Below W.heap.size W W' ∧ (∀ b, bo = some b → W.heap.size ≤ b ∧ b < W'.heap.size) ∧
      RC (enO W W' ok bo (.wr w)) (.r 0 w.length) sv' ∧ RO (enO W W' ok bo (.wr w)) 0 (.wr w) :=
      ⟨sv, bo, rfl, hbelow, k1, k2, k3⟩
    rcases he with rfl | rfl
    · exact ⟨hs.df, _, hres, hfin⟩
    · exact ⟨hs.df, _, hres, hfin⟩
/-- A call whose one result is a row of words of this function's own from here on. -/
theorem DoL.callW {o : Oper} {f : FuncId} {x : Operand} {az : Array Operand} {ts : Array TypeId} {p : Prop} {args : List PV} {w : List Nat} (md : Bool) (lab lo : Nat) (hg : o.guard = none) (hop : o.op = .call { callee := .value x, args := az, argTypes := ts })
    (hx : opv st.tm x = some (.v (.c (.f f)))) (ha : argsOf st az.toList = some (p, args, false)) (hp : p) (hD : DoesW P G f args w) (hf : st.free lo = true) (hd : dstOk nt o.dst = true)
    (next : runs P G nt md ops Q lab l ⟨setv o.dst (some (.v (.c (.r lo w.length)))) st.tm, put lo (.wr w) st.ob⟩) : DoL P G nt ops (o :: l) st Q := by
  intro cx a W hn ⟨m, hr⟩ Q' hQ
  refine wpList_plain hg fun K hK => ?_
  unfold Oper.wp
  have hxv : a.eval x = .func (.func f) #[] #[] := hr.opv hx
  have hargs := argsOf_run hr ha hp false id
  have hok : ∀ b, okC cx m st W false b → b < W.heap.size := by
    rintro b (h | ⟨e, _⟩)
    · exact h.2.1
    · cases e
  have hexec : execOp a.eval o = callFunc f (az.toList.map a.eval).toArray := by
    have e1 : (az.toList.map a.eval).toArray = az.map a.eval := by apply Array.ext'; simp
    unfold execOp
    simp [hop, resolve, hxv, Deferred.ofValue, invoke, e1]
  obtain ⟨h1, h2⟩ := hD W (okC cx m st W false) _ hok hr.glOk hargs
  rw [hexec, h1]
  refine h2.mono ?_
  rintro e W' ⟨sv, bo, rfl, hb, hbo, q1, q2⟩
  have hro : RO (en cx (upd m lo bo) (put lo (.wr w) st.ob) W') lo (.wr w) := by
    rcases q2 with ⟨y1, y2⟩ | ⟨b', vs, e2, r1, r2, r3⟩
    · exact .inl ⟨y1, by show upd m lo bo lo = none; rw [upd_self]; exact y2⟩
    · exact .inr ⟨b', vs, e2, by show upd m lo bo lo = _; rw [upd_self]; exact r1, r2, r3⟩
  have hr2 := hr.adopt hb hf hbo hro
  have hsv : RC (en cx (upd m lo bo) (put lo (.wr w) st.ob) W') (.r lo w.length) sv := by
    refine ⟨q1.1, fun o' ho' hle => ?_⟩
    have ho2 : lk lo (put lo (.wr w) st.ob) = some o' := ho'
    rw [lk_put_self] at ho2; injection ho2 with ho2; subst ho2
    obtain ⟨k1, k2⟩ := q1.2 (.wr w) rfl (Nat.le_refl _)
    refine ⟨rfl, ?_⟩
    show (_ ∧ _ ∧ upd m lo bo lo = none) ∨ ∃ b cap e, upd m lo bo lo = some b ∧ _
    rw [upd_self]
    exact k2
  have hput := Rel.put (st := ⟨st.tm, put lo (.wr w) st.ob⟩) hr2 hn hd (x := .v (.c (.r lo w.length))) (v := sv) hsv
  exact hK _ _ (DoL.run next cx _ _ hn hput Q' hQ)
/-- The lesser of two words. -/
theorem DoL.minN {o : Oper} {x y : Operand} {ts : Array TypeId} {u v : Nat} (md : Bool) (lab : Nat) (hg : o.guard = none) (hop : o.op = .call { callee := .builtin .min, args := #[x, y], argTypes := ts }) (hx : opv st.tm x = some (.v (.c (.n u)))) (hy : opv st.tm y = some (.v (.c (.n v)))) (hd : dstOk nt o.dst = true)
    (next : runs P G nt md ops Q lab l ⟨setv o.dst (some (.v (.c (.n (min u v))))) st.tm, st.ob⟩) : DoL P G nt ops (o :: l) st Q := by
  intro cx a W hn ⟨m, hr⟩ Q' hQ
  refine wpList_plain hg fun K hK => ?_
  unfold Oper.wp
  have hxv : a.eval x = .int .u64 u := rt_n (hr.opv hx)
  have hyv : a.eval y = .int .u64 v := rt_n (hr.opv hy)
  have hm : (Builtin.min2 (.int .u64 u) (.int .u64 v)).run P W = .ok (.int .u64 ((min u v : Nat) : Int)) W := by
    by_cases h : u ≤ v
    · simp [Builtin.min2, Nat.min_eq_left h]; omega
    · simp [Builtin.min2, Nat.min_eq_right (Nat.le_of_lt (Nat.lt_of_not_le h))]; omega
  have hexec : (execOp a.eval o).run P W = .ok (.value (.int .u64 ((min u v : Nat) : Int))) W := by
    simp [execOp, hop, hxv, hyv, resolve, invoke, builtin, Builtin.min_, hm]
  rw [hexec]
  exact hK _ _ (DoL.run next cx _ _ hn (Rel.put hr hn hd (x := .v (.c (.n (min u v)))) (show _ = _ from rfl)) Q' hQ)
end
end Go.Proofs.YtokgalpflooegaaGreatDoor
/- Division by the schoolbook: what its loops hold. No condition. -/
namespace Go.Proofs.YtokgalpflooegaaGreatDoor
set_option linter.unusedVariables false
set_option linter.unusedSimpArgs false
set_option maxHeartbeats 2000000
/-- The digits from i on, below i + k. -/
theorem dg_part {A L i k : Nat} (h : i + k ≤ L) : ((dg A L).drop i).take k = dg (hgh A i) k := by
  refine dg_ext (by rw [List.length_take, List.length_drop, dg_len]; omega) fun t ht => ?_
  rw [List.getElem?_take, if_pos ht, List.getElem?_drop, dg_dig (by omega)]
  unfold dig hgh
  rw [Nat.pow_add, Nat.div_div_eq_div_mul]
theorem hgh_dig (A i t : Nat) : dig (hgh A i) t = dig A (i + t) := by
  unfold dig hgh
  rw [Nat.pow_add, Nat.div_div_eq_div_mul]
theorem hgh_hgh (A i t : Nat) : hgh (hgh A i) t = hgh A (i + t) := by
  unfold hgh
  rw [Nat.pow_add, Nat.div_div_eq_div_mul]
/-- The estimate is not too small. -/
theorem guess_ge {X b n q : Nat} (hn : 0 < n) (hX : X < 4294967296 ^ (n + 1)) (hb : b < 4294967296 ^ n) (hd : dig b (n - 1) ≠ 0) (hq : q * b ≤ X) (hq1 : q ≤ 4294967295) : dig X n * 4294967296 + dig X (n - 1) = hgh X (n - 1) ∧ q ≤ min ((dig X n * 4294967296 + dig X (n - 1)) / dig b (n - 1)) 4294967295 := by
  obtain ⟨m, rfl⟩ : ∃ m, n = m + 1 := ⟨n - 1, by omega⟩
  simp only [Nat.add_sub_cancel] at *
  have h0 : hgh X (m + 1 + 1) = 0 := hi_none hX (Nat.le_refl _)
  have h1 := hi_step X (m + 1)
  have h2 := hi_step X m
  have e : dig X (m + 1) * 4294967296 + dig X m = hgh X m := by rw [h2, h1, h0]; omega
  refine ⟨e, ?_⟩
  rw [e]
  refine Nat.le_min.2 ⟨?_, hq1⟩
  rw [Nat.le_div_iff_mul_le (by omega)]
  unfold hgh
  rw [Nat.le_div_iff_mul_le (Hpos m), Nat.mul_assoc]
  refine Nat.le_trans (Nat.mul_le_mul_left q ?_) hq
  rw [dig_top hb]
  exact Nat.div_mul_le_self _ _
/-- The rest of a part, written k digits far. -/
def cpy (A d i k : Nat) : Nat := A % 4294967296 ^ i + d % 4294967296 ^ k * 4294967296 ^ i + hgh A (i + k) * 4294967296 ^ (i + k)
theorem cpy_zero (A d i : Nat) : cpy A d i 0 = A := by
  unfold cpy hgh
  rw [Nat.pow_zero, Nat.mod_one, Nat.zero_mul, Nat.add_zero, Nat.add_zero, Nat.mod_add_div']
theorem cpy_low (A d i k : Nat) : A % 4294967296 ^ i + d % 4294967296 ^ k * 4294967296 ^ i < 4294967296 ^ (i + k) := by
  have h1 := Nat.mod_lt A (Hpos i)
  have h2 := Nat.mod_lt d (Hpos k)
  rw [Nat.pow_add, Nat.mul_comm (4294967296 ^ i)]
  have h3 : (d % 4294967296 ^ k + 1) * 4294967296 ^ i ≤ 4294967296 ^ k * 4294967296 ^ i := Nat.mul_le_mul_right _ h2
  rw [Nat.add_mul] at h3
  omega
theorem cpy_dig (A d i k : Nat) : dig (cpy A d i k) (i + k) = dig A (i + k) := by
  have h := cpy_low A d i k
  unfold dig cpy hgh
  rw [Nat.add_mul_div_right _ _ (Hpos _), Nat.div_eq_of_lt h, Nat.zero_add]
theorem cpy_step {A d i k L : Nat} (h : i + k < L) : (dg (cpy A d i k) L).set (i + k) (dig d k) = dg (cpy A d i (k + 1)) L := by
  obtain ⟨Q', e1, e2, _⟩ := @dg_set (cpy A d i k) L (i + k) (dig d k) h (dig_lt _ _)
  rw [e1]
  congr 1
  rw [cpy_dig] at e2
  have e3 := hi_step A (i + k)
  have e4 := low_step d k
  unfold cpy at e2 ⊢
  rw [e3] at e2
  rw [e4]
  rw [show i + (k + 1) = i + k + 1 by omega]
  have e5 : dig d k * 4294967296 ^ (i + k) = dig d k * 4294967296 ^ k * 4294967296 ^ i := by rw [Nat.pow_add]; ac_rfl
  rw [e5] at e2
  have e6 : 4294967296 ^ (i + k + 1) = 4294967296 * 4294967296 ^ (i + k) := by rw [Nat.pow_succ, Nat.mul_comm]
  rw [e6, Nat.add_mul]
  rw [Nat.add_mul] at e2
  have e7 : hgh A (i + k + 1) * (4294967296 * 4294967296 ^ (i + k)) = hgh A (i + k + 1) * 4294967296 * 4294967296 ^ (i + k) := by rw [Nat.mul_assoc]
  rw [e7]
  omega
theorem cpy_end {A d i n : Nat} (hd : d < 4294967296 ^ n) (hh : hgh A (i + n) = 0) : cpy A d i n = A % 4294967296 ^ i + d * 4294967296 ^ i := by
  unfold cpy
  rw [hh, Nat.zero_mul, Nat.add_zero, Nat.mod_eq_of_lt hd]
/-- What holds before the digit below c of the quotient is found. -/
structure DivI (A0 b L c A Q : Nat) : Prop where
  lt : A < 4294967296 ^ L
  top : hgh A c < b
  eq : A + b * Q = A0
  low : Q % 4294967296 ^ c = 0
theorem DivI.start {A0 b L n : Nat} (h : A0 < 4294967296 ^ (L - 1)) (hn : 0 < n) (hL : 0 < L) (hb : 4294967296 ^ (n - 1) ≤ b) : DivI A0 b L (L - n) A0 0 := by
  refine ⟨Nat.lt_of_lt_of_le h (Nat.pow_le_pow_right (by decide) (by omega)), ?_, by simp, by simp⟩
  refine Nat.lt_of_lt_of_le ?_ hb
  unfold hgh
  rw [Nat.div_lt_iff_lt_mul (Hpos _), ← Nat.pow_add]
  exact Nat.lt_of_lt_of_le h (Nat.pow_le_pow_right (by decide) (by omega))
/-- The part that a digit of the quotient divides. -/
theorem DivI.part {A0 b L i A Q n : Nat} (h : DivI A0 b L (i + 1) A Q) (hn : 0 < n) (hb : b < 4294967296 ^ n) : hgh A i < b * 4294967296 ∧ hgh A i < 4294967296 ^ (n + 1) ∧ hgh A i / b ≤ 4294967295 ∧ hgh A i / b * b ≤ hgh A i ∧ hgh A (i + (n + 1)) = 0 := by
  have h1 := hi_step A i
  have h2 := dig_lt A i
  have h3 : hgh A i < b * 4294967296 := by
    have : (hgh A (i + 1) + 1) * 4294967296 ≤ b * 4294967296 := Nat.mul_le_mul_right _ h.top
    omega
  have h4 : hgh A i < 4294967296 ^ (n + 1) := by
    refine Nat.lt_of_lt_of_le h3 ?_
    rw [Nat.pow_succ]
    exact Nat.mul_le_mul_right _ (Nat.le_of_lt hb)
  refine ⟨h3, h4, ?_, Nat.div_mul_le_self _ _, ?_⟩
  · have : hgh A i / b < 4294967296 := (Nat.div_lt_iff_lt_mul (Nat.lt_of_le_of_lt (Nat.zero_le _) h.top)).2 (by rw [Nat.mul_comm]; exact h3)
    omega
  · rw [← hgh_hgh]
    exact hi_none h4 (Nat.le_refl _)
theorem DivI.next {A0 b L i A Q n d : Nat} (h : DivI A0 b L (i + 1) A Q) (hn : 0 < n) (hb : b < 4294967296 ^ n) (hi : i + (n + 1) ≤ L) (hd : d + b * (hgh A i / b) = hgh A i) (hdb : d < b) :
    ∃ Q', (dg Q (L - n)).set i (hgh A i / b) = dg Q' (L - n) ∧ DivI A0 b L i (cpy A d i (n + 1)) Q' := by
  obtain ⟨p1, p2, p3, p4, p5⟩ := h.part hn hb
  obtain ⟨Q', e1, e2, _⟩ := @dg_set Q (L - n) i (hgh A i / b) (by omega) (by omega)
  have hdn : d < 4294967296 ^ (n + 1) := Nat.lt_trans (Nat.lt_trans hdb hb) (Nat.pow_lt_pow_right (by decide) (by omega))
  have hc := @cpy_end A d i (n + 1) hdn p5
  have hdi : dig Q i = 0 := by
    have := h.low
    rw [low_step] at this
    have h5 := Hpos i
    have h6 : dig Q i * 4294967296 ^ i = 0 := by omega
    rcases Nat.mul_eq_zero.1 h6 with h6 | h6
    · exact h6
    · omega
  have hql : Q % 4294967296 ^ i = 0 := by
    have := h.low
    rw [low_step] at this
    omega
  rw [hdi, Nat.zero_mul, Nat.add_zero] at e2
  refine ⟨Q', e1, ?_, ?_, ?_, ?_⟩
  · rw [hc]
    have h1 := Nat.mod_lt A (Hpos i)
    have h2 : (d + 1) * 4294967296 ^ i ≤ 4294967296 ^ n * 4294967296 ^ i := Nat.mul_le_mul_right _ (by omega)
    rw [← Nat.pow_add, Nat.add_mul] at h2
    have h3 : 4294967296 ^ (n + i) ≤ 4294967296 ^ L := Nat.pow_le_pow_right (by decide) (by omega)
    omega
  · rw [hc]
    unfold hgh
    rw [Nat.add_mul_div_right _ _ (Hpos i), Nat.div_eq_of_lt (Nat.mod_lt _ (Hpos i)), Nat.zero_add]
    exact hdb
  · rw [hc, e2, ← h.eq]
    have h1 : A = A % 4294967296 ^ i + hgh A i * 4294967296 ^ i := by unfold hgh; rw [Nat.mod_add_div']
    conv => rhs; rw [h1, ← hd]
    rw [Nat.mul_add, Nat.add_mul]
    have : b * (hgh A i / b * 4294967296 ^ i) = b * (hgh A i / b) * 4294967296 ^ i := by rw [Nat.mul_assoc]
    omega
  · rw [e2, Nat.add_mul_mod_self_right, hql]
theorem DivI.fin {A0 b L A Q : Nat} (h : DivI A0 b L 0 A Q) (hb : 0 < b) : Q = A0 / b ∧ A = A0 % b := by
  have h1 := h.top
  rw [hi_zero] at h1
  rw [← h.eq]
  rw [Nat.add_mul_div_left _ _ hb, Nat.add_mul_mod_self_left, Nat.div_eq_of_lt h1, Nat.mod_eq_of_lt h1]
  omega
theorem two_dig {a b : Nat} (ha : a < 4294967296) (hb : b < 4294967296) : a * 4294967296 < M64 ∧ a * 4294967296 + b < M64 := by
  unfold M64; omega
theorem dl_pow {n : Nat} (h : 0 < n) : 0 < dl n ∧ 4294967296 ^ (dl n - 1) ≤ n ∧ n < 4294967296 ^ dl n := by
  have h1 := @dl_lt n (dl n)
  have h2 := @dl_lt n (dl n - 1)
  have h0 : 0 < dl n := by
    have := @dl_lt n 0
    simp at this
    omega
  refine ⟨h0, ?_, h1.1 (Nat.le_refl _)⟩
  have : ¬ dl n ≤ dl n - 1 := by omega
  rw [h2] at this
  omega
end Go.Proofs.YtokgalpflooegaaGreatDoor

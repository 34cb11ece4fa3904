/- The package variables of the program, as they are laid, and what a law's arguments are. No condition. Rounding to the nearest: how near, and when exactly. No condition. What a rounded sum drops is a float of the format. No condition. Functions whose one result is a row of the caller's. No condition. The reference's Rest: what sums leave, as a float. No condition. A box under another label; a pointer to cells, taken as one, within a region. No condition. Pairs of floats: the rounded sum, and what it drops. No condition. The law SumPairs. No condition. Products of floats, plain. No condition. Sums of products of floats, plain. No condition. The words of a product, plain. No condition. The program's product of natural numbers. No condition. A rounding without flags: the number is one of the format. No condition. The reference's products. No condition. The program's products. No condition. -/
import Derived.Test.YthpkhmbjmnhmoaaGreatDoorRows
import Derived.Test.YthpkhmbjmnhmoaaGreatDoorMh
import Derived.LaidMore
import Derived.LaidHandle
import Derived.Stop.Joined
import Derived.Carry
import Derived.OpenShut
import Derived.Test.YthpkhmbjmnhmoaaGreatDoorMj
import Derived.Test.YthpkhmbjmnhmoaaGreatDoorMd
import Derived.Test.YthpkhmbjmnhmoaaGreatDoorMg
import Derived.Test.YthpkhmbjmnhmoaaGreatDoorMe
import Derived.Test.YthpkhmbjmnhmoaaGreatDoorMf
import Derived.Lib.Mul64
/- The package variables of the program, as they are laid, and what a law's arguments are. No condition. -/
namespace Go.Proofs.YthpkhmbjmnhmoaaGreatDoor
set_option linter.unusedVariables false
set_option linter.unusedSimpArgs false
open Go.ChangeShapes Go.WideShapes Go.ChangeAt Go.RowKit
theorem own : ownKnob Tryz.prog.godebug = Option.none := by kernel_rfl
theorem laidOut : laidOutB Tryz.prog = true := by kernel_rfl
theorem g0_name : Tryz.prog.globalNamed "math/bits.deBruijn64tab" = some 1 := by kernel_rfl
theorem g1_name : Tryz.prog.globalNamed "reckoner/fin.more" = some 0 := by kernel_rfl
/-- What is listed. -/
abbrev laidL : List (String × DataW Unit) := [("math/bits.deBruijn64tab", Rows.laid_math_bits_deBruijn64tab), ("reckoner/fin.more", Rows.laid_reckoner_fin_more)]
section
variable {H : Type} {enc : TypeId × Value → H} {P : Program} {W : World} {base : Nat} {sp : Nat → Bool} {held : Bool}
theorem array_at {t e : TypeId} {n fuel : Nat} {cs : List Value} {ds : List (DataW H)} {p : List MemPlace} (ht : P.underlying t = some (.array n e)) (hc : P.cellsOf e = 1) (h : DataW.trod enc P W base sp held fuel t cs = some (.agg ds, p)) {i : Nat} {d : DataW H} (hd : ds[i]? = some d) : ∃ v m q, cs[i]? = some v ∧ DataW.trod enc P W base sp held m e [v] = some (d, q) := by
  obtain ⟨xs, m, rfl, hx, hl, hn, hel⟩ := DataW.trod_array ht h
  simp only [Prod.mk.injEq, DataW.agg.injEq] at hx
  obtain ⟨rfl, _⟩ := hx
  rw [List.getElem?_map] at hd
  cases hxi : xs[i]? with
  | none => simp [hxi] at hd
  | some y =>
    rw [hxi] at hd
    simp only [Option.map_some, Option.some.injEq] at hd
    have hi : i < n := by rw [← hn]; exact (List.getElem?_eq_some_iff.1 hxi).1
    have h1 := hel i hi
    rw [hc, Nat.mul_one, hxi] at h1
    have hil : i < cs.length := by
      apply Classical.byContradiction
      intro hge
      rw [List.drop_of_length_le (by omega)] at h1
      cases m with
      | zero => simp [DataW.trod] at h1
      | succ m =>
        have : P.cellsOf e = 1 := hc
        cases hu : P.underlying e with
        | none => simp [DataW.trod, hu] at h1
        | some k => cases k <;> simp [DataW.trod, hu] at h1 <;> (try omega)
    rw [List.drop_eq_getElem_cons hil] at h1
    simp only [List.take_succ_cons, List.take_zero] at h1
    exact ⟨cs[i], m, y.2, List.getElem?_eq_getElem hil, by rw [h1, ← hd]⟩
theorem laidMetH.plain {l : List (String × DataW Unit)} (h : laidMetH P l W) (hne : (l.filter fun x => x.2.handleName?.isSome).isEmpty = false) : laidMet P (l.filter fun x => x.2.handleName?.isNone) W := by
  unfold laidMetH at h
  generalize (l.filter fun x => x.2.handleName?.isSome) = fl at h hne
  cases fl with
  | nil => cases hne
  | cons a r => exact h.1
end
/-- The door's own heap meets the condition. -/
abbrev doorN : Nat := 19
abbrev doorK : Nat := 8
theorem door_met (os : Os) (args : Array Value) : laidMetH Tryz.prog laidL ((World.doorLaid Tryz.prog doorN os).forCall (fun _ _ => 0) ⟨#[], args, []⟩).memory :=
  laidMetH_of_parts3 (fuel := 8) (laidMet_of_run' 8 (by kernel_rfl) (by kernel_rfl)) (by kernel_rfl) (by kernel_rfl)
theorem of_laid {W : World} (h : laidMetH Tryz.prog laidL W) : GlOk Gv W := by
  have h0 : laidMet Tryz.prog [("math/bits.deBruijn64tab", Rows.laid_math_bits_deBruijn64tab)] W := laidMetH.plain h (by kernel_rfl)
  obtain ⟨ps, ⟨g0, t0, cs0, f0, p0, q0, hg0, ht0, hv0, hd0, _⟩, _, _⟩ := h0
  obtain ⟨g1, t1, cs1, f1, p1, hg1, ht1, hv1, hd1⟩ := h.funcs (d := .agg [.iface "func" (.lit (.string [114, 101, 99, 107, 111, 110, 101, 114, 47, 102, 105, 110, 46, 109, 111, 114, 101, 36, 49])), .iface "func" (.lit (.string [114, 101, 99, 107, 111, 110, 101, 114, 47, 102, 105, 110, 46, 109, 111, 114, 101, 36, 50])), .iface "func" (.lit (.string [114, 101, 99, 107, 111, 110, 101, 114, 47, 102, 105, 110, 46, 109, 111, 114, 101, 36, 51])), .iface "func" (.lit (.string [114, 101, 99, 107, 111, 110, 101, 114, 47, 102, 105, 110, 46, 109, 111, 114, 101, 36, 52])), .iface "func" (.lit (.string [114, 101, 99, 107, 111, 110, 101, 114, 47, 102, 105, 110, 46, 109, 111, 114, 101, 36, 53]))]) (n := "reckoner/fin.more") (List.mem_cons_of_mem _ (List.mem_singleton.2 rfl))
  obtain rfl := Option.some.inj (g0_name.symm.trans hg0)
  obtain rfl := Option.some.inj (g1_name.symm.trans hg1)
  have e0 : (Rows.laid_math_bits_deBruijn64tab : DataW Unit) = .agg (Lib.deBruijn64tab.map fun k => .lit (.int .u8 (k : Nat))) := by kernel_rfl
  rw [e0] at hd0
  obtain rfl := Option.some.inj ((show (Tryz.prog.globals[1]?).map (·.type) = some 191 by kernel_rfl).symm.trans ht0)
  obtain rfl := Option.some.inj ((show (Tryz.prog.globals[0]?).map (·.type) = some 183 by kernel_rfl).symm.trans ht1)
  intro b off x hx
  match b, hx with
  | 1, hx =>
    simp only [Gv, List.getElem?_map] at hx
    cases hk : Lib.deBruijn64tab[off]? with
    | none => simp [hk] at hx
    | some k =>
      simp only [hk, Option.map_some, Option.some.injEq] at hx; subst hx
      obtain ⟨v, m, q, h1, h2⟩ := array_at Tryz.underlying191 (by kernel_rfl) hd0 (i := off) (d := .lit (.int .u8 (k : Nat))) (by simp [hk])
      obtain ⟨z, h3, h4, _⟩ := DataW.trod_int Tryz.underlying5 h2
      simp only [List.cons.injEq, and_true, Prod.mk.injEq, DataW.lit.injEq, Lit.int.injEq, true_and] at h3 h4
      subst h3
      refine ⟨rfl, .int .u8 z, ?_, fun E => ?_⟩
      · rw [World.var?_cell hg0 hv0 off]; simpa using h1
      · show Value.int .u8 z = .int .u8 (k : Nat)
        rw [h4.1]
  | 0, hx =>
    have hd1 : DataW.trod (funcToken Tryz.prog) Tryz.prog W 0 (fun _ => true) true f1 183 cs1.toList = some (.agg [.held [114, 101, 99, 107, 111, 110, 101, 114, 47, 102, 105, 110, 46, 109, 111, 114, 101, 36, 49], .held [114, 101, 99, 107, 111, 110, 101, 114, 47, 102, 105, 110, 46, 109, 111, 114, 101, 36, 50], .held [114, 101, 99, 107, 111, 110, 101, 114, 47, 102, 105, 110, 46, 109, 111, 114, 101, 36, 51], .held [114, 101, 99, 107, 111, 110, 101, 114, 47, 102, 105, 110, 46, 109, 111, 114, 101, 36, 52], .held [114, 101, 99, 107, 111, 110, 101, 114, 47, 102, 105, 110, 46, 109, 111, 114, 101, 36, 53]], p1) := hd1
    have hF : ∀ {i : Nat} {by_ : UInt8} {r : List UInt8} {f0 : FuncId}, (([DataW.held (H := List UInt8) [114, 101, 99, 107, 111, 110, 101, 114, 47, 102, 105, 110, 46, 109, 111, 114, 101, 36, 49], .held [114, 101, 99, 107, 111, 110, 101, 114, 47, 102, 105, 110, 46, 109, 111, 114, 101, 36, 50], .held [114, 101, 99, 107, 111, 110, 101, 114, 47, 102, 105, 110, 46, 109, 111, 114, 101, 36, 51], .held [114, 101, 99, 107, 111, 110, 101, 114, 47, 102, 105, 110, 46, 109, 111, 114, 101, 36, 52], .held [114, 101, 99, 107, 111, 110, 101, 114, 47, 102, 105, 110, 46, 109, 111, 114, 101, 36, 53]]))[i]? = some (.held (by_ :: r)) → ((List.range Tryz.prog.funcs.size).filter fun f => (Tryz.prog.funcs[f]?).any (·.name.toUTF8.data.toList == by_ :: r)) = [f0] → (Ce.f f0).pure = true ∧ ∃ v, W.cell? ⟨0, i, Option.none⟩ = some v ∧ ∀ E, RC E (.f f0) v := fun {i by_ r f0} hi hone => by
      obtain ⟨v, m, q, h1, h2⟩ := array_at Tryz.underlying183 (by kernel_rfl) hd1 hi
      obtain rfl := func_of_trod (f0 := f0) Tryz.underlying182 hone h2
      refine ⟨rfl, .func (.func f0) #[] #[], ?_, fun E => rfl⟩
      rw [World.var?_cell hg1 hv1 i]; simpa using h1
    rcases off with _ | _ | _ | _ | _ | off
    · simp only [Gv] at hx
      obtain rfl : Ce.f 187 = x := Option.some.inj hx
      exact hF (i := 0) rfl (by kernel_rfl)
    · simp only [Gv] at hx
      obtain rfl : Ce.f 188 = x := Option.some.inj hx
      exact hF (i := 1) rfl (by kernel_rfl)
    · simp only [Gv] at hx
      obtain rfl : Ce.f 189 = x := Option.some.inj hx
      exact hF (i := 2) rfl (by kernel_rfl)
    · simp only [Gv] at hx
      obtain rfl : Ce.f 190 = x := Option.some.inj hx
      exact hF (i := 3) rfl (by kernel_rfl)
    · simp only [Gv] at hx
      obtain rfl : Ce.f 191 = x := Option.some.inj hx
      exact hF (i := 4) rfl (by kernel_rfl)
    · simp [Gv] at hx
  | b + 2, hx => simp [Gv] at hx
set_option maxRecDepth 100000
/-- A format among the arguments. -/
theorem arg_fm {H : Type} {enc : TypeId × Value → H} {W : World} {b0 : Nat} {sp : Nat → Bool} {held : Bool} {v : Value} {d : DataW H} {ps : List MemPlace} (hval : Value.okWide Tryz.prog W .any b0 23 v) (h : DataW.Trod enc Tryz.prog W 0 sp held 23 v d ps) : ∃ f p, RP (enA W fun b => b < W.heap.size) (Fm f p) v := by
  obtain ⟨ces, h1, h2⟩ := open_struct (ok := fun b => b < W.heap.size) (f := 2) (cts := [.i .i64, .i .i64]) (fun _ h => h) Tryz.underlying23 (by kernel_rfl) hval h
  cases h2 with | cons g h2 => cases h2 with | cons g' h2 => cases h2 with | nil =>
  obtain ⟨e, rfl, _⟩ := g
  obtain ⟨p, rfl, _⟩ := g'
  exact ⟨e, p, h1⟩
theorem cells_fl {ces : List Ce} (h2 : All2 CtIs [.i .i64, .b, .i .i64, .w] ces) : ∃ x : Fla, x.cs = ces ∧ Ws x.m ∧ I64 x.e := by
  cases h2 with | cons g1 h2 => cases h2 with | cons g2 h2 => cases h2 with | cons g3 h2 => cases h2 with | cons g4 h2 => cases h2 with | nil =>
  obtain ⟨k, rfl, _⟩ := g1
  obtain ⟨n, rfl⟩ := g2
  obtain ⟨e, rfl, he⟩ := g3
  obtain ⟨m, rfl, hm⟩ := g4
  exact ⟨⟨k, n, e, m⟩, rfl, hm, wf_i64 he⟩
/-- A float among the arguments. -/
theorem arg_fl {H : Type} {enc : TypeId × Value → H} {W : World} {b0 : Nat} {sp : Nat → Bool} {held : Bool} {v : Value} {d : DataW H} {ps : List MemPlace} (hval : Value.okWide Tryz.prog W .any b0 29 v) (h : DataW.Trod enc Tryz.prog W 0 sp held 29 v d ps) : ∃ x : Fla, Ws x.m ∧ I64 x.e ∧ RP (enA W fun b => b < W.heap.size) (Fl x.k x.n x.e x.m) v := by
  obtain ⟨ces, h1, h2⟩ := open_struct (ok := fun b => b < W.heap.size) (f := 2) (cts := [.i .i64, .b, .i .i64, .w]) (fun _ h => h) Tryz.underlying29 (by kernel_rfl) hval h
  obtain ⟨x, rfl, hx⟩ := cells_fl h2
  exact ⟨x, hx.1, hx.2, h1⟩
/-- What a law that returns true leaves. -/
theorem law_calls {f : FuncId} {fn : Func} {c : Code} {args : List PV} {W : World} {vals : List Value} (h : Does Tryz.prog Gv f args (.v (.c (.b true)))) (hf : Tryz.prog.funcs[f]? = some fn) (hname : (fn.name == "runtime.NumGoroutine") = false) (hb : fn.body = some c) (hg : GlOk Gv W) (ha : All2 (RP (enA W fun b => b < W.heap.size)) args vals) :
    Calls Tryz.prog f vals.toArray W (fun e W' => e = .returned (.bool true) ∧ Below W.heap.size W W') :=
  (h.toCalls hf hname hb (fun _ h => h) hg ha).mono fun e W' ⟨v, he, hb, hr⟩ => by
    have : v = .bool true := hr
    subst this
    exact ⟨he, hb⟩
end Go.Proofs.YthpkhmbjmnhmoaaGreatDoor
/- Rounding to the nearest: how near, and when exactly. No condition. -/
namespace Go.Proofs.YthpkhmbjmnhmoaaGreatDoor
set_option linter.unusedVariables false
set_option linter.unusedSimpArgs false
set_option maxHeartbeats 4000000
set_option maxRecDepth 10000
/-- A number over a low exponent, with few enough digits for the format. -/
structure OfF (f p z : Int) (A : Int) (w : Nat) (k : Int) : Prop where
  low : 1 - gOfE f - (p - 1) ≤ k
  few : (bl w : Int) ≤ p
  top : k + bl w ≤ gOfE f + 1
  abs : A.natAbs = w * 2 ^ (k - z).toNat
end Go.Proofs.YthpkhmbjmnhmoaaGreatDoor
/- What a rounded sum drops is a float of the format. No condition. -/
namespace Go.Proofs.YthpkhmbjmnhmoaaGreatDoor
set_option linter.unusedVariables false
set_option linter.unusedSimpArgs false
set_option maxHeartbeats 4000000
set_option maxRecDepth 10000
theorem OfF.mul {f p z A : Int} {w : Nat} {k : Int} (h : OfF f p z A w k) {m : Int} (h1 : z ≤ m) (h2 : m ≤ k) : ∃ a : Int, A = a * ((2 ^ (m - z).toNat : Nat) : Int) := by
  have e : w * 2 ^ (k - z).toNat = w * 2 ^ (k - m).toNat * 2 ^ (m - z).toNat := by rw [pow_split h1 h2, Nat.mul_assoc]
  have h3 := h.abs
  rw [e] at h3
  rcases Int.natAbs_eq A with h | h
  · exact ⟨(w * 2 ^ (k - m).toNat : Nat), by rw [← Int.natCast_mul, ← h3]; exact h⟩
  · exact ⟨-((w * 2 ^ (k - m).toNat : Nat) : Int), by rw [Int.neg_mul, ← Int.natCast_mul, ← h3]; exact h⟩
/-- The value of a float over a low exponent. -/
def fv (z : Int) (x : Flt) : Int := if x.k = 1 then Nu.sv z ⟨x.n, x.v, x.e⟩ else 0
theorem svs_fv (z : Int) (l : List Flt) : svs z l = (l.map (fv z)).sum := by
  induction l with
  | nil => rfl
  | cons x l ih => simp only [svs, List.map_cons, List.sum_cons, ih]; rfl
end Go.Proofs.YthpkhmbjmnhmoaaGreatDoor
/- Functions whose one result is a row of the caller's. No condition. -/
namespace Go.Proofs.YthpkhmbjmnhmoaaGreatDoor
set_option linter.unusedVariables false
set_option linter.unusedSimpArgs false
section
variable {P : Program} {G : Gl} {nt : Nat} {st : St} {cx : Cx} {a : Act} {W W' : World} {m : Nat → Option Nat} {QE : Exit → St → Prop} {ops l : List Oper} {Q : St → Prop}
/-- What a call computes whose one result is a row that its caller alone holds. -/
def DoesQ (P : Program) (G : Gl) (f : FuncId) (args : List PV) (sz : Nat) (rows : List (List Ce)) : Prop :=
  ∀ (W : World) (ok : Nat → Prop) (vals : List Value), (∀ b, ok b → b < W.heap.size) → GlOk G W → All2 (RP (enA W ok)) args vals →
    (callFunc f vals.toArray).run P W = .ok (.enter f vals.toArray) W ∧ Calls P f vals.toArray W (fun e W' => ∃ sv bo, e = .returned sv ∧ RowKit.Below W.heap.size W W' ∧ (∀ b, bo = some b → W.heap.size ≤ b ∧ b < W'.heap.size) ∧
      RC (enO W W' ok bo (.sr sz rows)) (.r 0 rows.length) sv ∧ RO (enO W W' ok bo (.sr sz rows)) 0 (.sr sz rows))
def endOne (sz : Nat) (rows : List (List Ce)) (rs : List ResultVar) (e : Exit) (s : St) : Prop :=
  (e = .ret ∨ e = .normal) ∧ match rs with
    | [.tmp t] => (match lk t s.tm with
      | some (.v (.c (.r j n))) => n = rows.length ∧ lk j s.ob = some (.sr sz rows)
      | _ => False)
    | _ => False
theorem DoesQ.of {f : FuncId} {fn : Func} {c : Code} {args : List PV} {sz : Nat} {rows : List (List Ce)} (hf : P.funcs[f]? = some fn) (hname : (fn.name == "runtime.NumGoroutine") = false) (hb : fn.body = some c) (hnt : fn.ntmps = nt) (hal : args.length ≤ nt)
    (h : Do P G nt c ⟨argTm 0 args, []⟩ (endOne sz rows fn.results.toList)) : DoesQ P G f args sz rows := by
  intro W ok vals hok hgl hargs
  refine ⟨?_, ?_⟩
  · have hn' : fn.name ≠ "runtime.NumGoroutine" := by simpa using hname
    simp [callFunc, hf, hn', hb]
  · refine calls_of_wp hf hb ?_
    refine Code.wp_mono (fun e a' W' ⟨s, hq, m', hs⟩ => ?_) (h _ _ W rfl ⟨_, start_rel hok hgl hargs hal hnt⟩)
    obtain ⟨he, hret⟩ := hq
    split at hret
    case h_2 => exact hret.elim
    rename_i t hrs
    split at hret
    case h_2 => exact hret.elim
    rename_i j n ht
    obtain ⟨rfl, hj⟩ := hret
    obtain ⟨sv, hv, hrt⟩ := hs.tm t _ ht
    have hg : a'.tmps.getD t undef = sv := by simp [hv]
    have hres : (results fn a'.tmps).run P W' = .ok sv W' := by
      have hfun : results fn a'.tmps = (do let vs ← fn.results.mapM (resOf a'.tmps); pure (if h : vs.size = 1 then vs[0] else .tuple vs)) := by
        unfold results
        congr 1
      rw [hfun]
      have h1 : (resOf a'.tmps (.tmp t)).run P W' = .ok sv W' := by simp [resOf, hg]
      simp only [Sem.run_bind, Array.mapM_eq_mapM_toList, Sem.run_map, hrs, List.mapM_cons, List.mapM_nil, h1, Result.andThen_ok, Sem.run_pure]
      simp
    have hbelow : RowKit.Below W.heap.size W W' := ⟨hs.os, hs.tape, hs.output, hs.size, fun k hk => hs.keep k hk id⟩
    have hown : ∀ b, m' j = some b → W.heap.size ≤ b ∧ b < W'.heap.size := fun b hb => by
      obtain ⟨q1, q2⟩ := hs.own j _ b hj hb
      exact ⟨q2.elim id fun e => e.1.elim, q1⟩
    have hle : EnLe (fun _ => False) (en ⟨W.heap.size, W, ok, fun _ => False, nt⟩ m' s.ob W') (enO W W' ok (m' j) (.sr sz rows)) :=
      ⟨fun b ⟨q1, q2, q3⟩ => ⟨⟨q1, q2⟩, q3 j _ hj⟩, fun _ _ => rfl, Nat.le_refl _, fun _ hF => hF.elim⟩
    have hO : ∃ bo, (∀ b, bo = some b → W.heap.size ≤ b ∧ b < W'.heap.size) ∧ RC (enO W W' ok bo (.sr sz rows)) (.r 0 rows.length) sv ∧ RO (enO W W' ok bo (.sr sz rows)) 0 (.sr sz rows) := by
      refine ⟨m' j, hown, ⟨hrt.1, fun o' ho' hle' => ?_⟩, ?_⟩
      · obtain rfl : Ob.sr sz rows = o' := by simpa [enO] using ho'
        obtain ⟨_, k2⟩ := hrt.2 _ hj (Nat.le_refl _)
        exact ⟨rfl, k2⟩
      · rcases hs.ob j _ hj with ⟨y1, y2⟩ | ⟨b', vs, e2, r1, r2, r3⟩
        · exact .inl ⟨y1, y2⟩
        · exact .inr ⟨b', vs, e2, r1, r2, fun i cs hi => let ⟨k1, us', k2, k3⟩ := r3 i cs hi; ⟨k1, us', k2.mono hle, k3⟩⟩
    obtain ⟨bo, k1, k2, k3⟩ := hO
    have hfin : ∃ sv' bo, (Ending.returned sv) = .returned sv' ∧ RowKit.Below W.heap.size W W' ∧ (∀ b, bo = some b → W.heap.size ≤ b ∧ b < W'.heap.size) ∧
      RC (enO W W' ok bo (.sr sz rows)) (.r 0 rows.length) sv' ∧ RO (enO W W' ok bo (.sr sz rows)) 0 (.sr sz rows) :=
      ⟨sv, bo, rfl, hbelow, k1, k2, k3⟩
    rcases he with rfl | rfl
    · exact ⟨hs.df, _, hres, hfin⟩
    · exact ⟨hs.df, _, hres, hfin⟩
end
end Go.Proofs.YthpkhmbjmnhmoaaGreatDoor
/- The reference's Rest: what sums leave, as a float. No condition. -/
namespace Go.Proofs.YthpkhmbjmnhmoaaGreatDoor
set_option linter.unusedVariables false
set_option linter.unusedSimpArgs false
variable {G : Gl}
set_option maxHeartbeats 4000000
set_option maxRecDepth 10000
theorem Tame.rest {A B : List Flt} (ha : Tame A) (hb : Tame B) (hl : A.length + B.length < 1099511627776) : Tame (A ++ B.map Flt.neg) := by
  refine ⟨by simpa using hl, fun x hx hk => ?_⟩
  rcases List.mem_append.1 hx with hx | hx
  · exact ha.2 x hx hk
  · obtain ⟨y, hy, rfl⟩ := List.mem_map.1 hx
    exact hb.2 y hy hk
end Go.Proofs.YthpkhmbjmnhmoaaGreatDoor
/- A box under another label; a pointer to cells, taken as one, within a region. No condition. -/
namespace Go.Proofs.YthpkhmbjmnhmoaaGreatDoor
set_option linter.unusedVariables false
set_option linter.unusedSimpArgs false
section
variable {P : Program} {G : Gl} {nt : Nat} {st : St} {cx : Cx} {a : Act} {W W' : World} {m : Nat → Option Nat} {QE : Exit → St → Prop} {ops l : List Oper} {Q : St → Prop}
/-- An object that nobody asks for any more. -/
theorem Do.drop {c : Code} (la : Nat) (h : Do P G nt c ⟨st.tm, del la st.ob⟩ QE) : Do P G nt c st QE :=
  fun cx a W hn ⟨m, hr⟩ => h cx a W hn ⟨m, hr.fewer (del la st.ob) fun j o hj => by
    rw [lk_del] at hj
    split at hj
    · cases hj
    · exact hj⟩
/-- A pointer to cells, taken as one. -/
theorem DoL.turn (md : Bool) (lab t : Nat) {cs : List Ce} (ht : lk t st.tm = some (.v (.c (.x (PtrSx cs))))) (h : runs P G nt md ops Q lab l ⟨put t (.e cs) st.tm, st.ob⟩) : DoL P G nt ops l st Q := by
  intro cx a W hn ⟨m, hr⟩
  refine DoL.run h cx a W hn ⟨m, { hr with tm := fun s x hx => ?_ }⟩
  rcases lk_le_put s x st.tm hx with ⟨rfl, rfl⟩ | ⟨_, hx⟩
  · obtain ⟨v, hv, ad, h1, h2, vs, h3, h4⟩ := hr.tm _ _ ht
    exact ⟨v, hv, ad, h1, h2, vs, RCs.same (E := enA W (okOf cx m st.ob W)) (E' := en cx m st.ob W) (fun _ h => h) rfl h3, h4⟩
  · exact hr.tm s x hx
/-- A call with a pointer to a box of this function's own, wherever it comes up. -/
theorem callP_core {f : FuncId} {y : Operand} {az : List Operand} {p : Prop} {args : List PV} {j : Nat} {cs cs' : List Ce} (hr : RelM G cx m st a W) (hy : opv st.tm y = some (.v (.c (.p j 0)))) (hj : lk j st.ob = some (.box cs)) (ha : argsOf st az = some (p, args, false)) (hp : p) (hD : DoesP P G f cs args cs') (hl : cs'.flatMap Ce.labs = []) (hl0 : cs.flatMap Ce.labs = []) :
    ∃ b : Nat, a.eval y = .pointer (some ⟨b, 0, none⟩) ∧ (callFunc f (.pointer (some ⟨b, 0, none⟩) :: az.map a.eval).toArray).run P W = .ok (.enter f (.pointer (some ⟨b, 0, none⟩) :: az.map a.eval).toArray) W ∧ Calls P f (.pointer (some ⟨b, 0, none⟩) :: az.map a.eval).toArray W (fun en W' => en = .returned (.tuple #[]) ∧ RelM G cx m ⟨st.tm, put j (.box cs') st.ob⟩ a W') := by
  have hargs := argsOf_run hr ha hp false id
  have hok : ∀ b, okC cx m st W false b → b < W.heap.size := by
    rintro b (h | ⟨e, _⟩)
    · exact h.2.1
    · cases e
  obtain ⟨b, hb, hyv⟩ := (hr.opv hy).2 cs hj
  have hyv : a.eval y = .pointer (some ⟨b, 0, none⟩) := hyv
  obtain ⟨vs, e, r2, r3⟩ : ∃ vs e, W.heap[b]? = some (.cells vs e (0, 0)) ∧ All2 (RC (en cx m st.ob W)) cs vs.toList := by
    obtain ⟨b', vs, e, r1, r2, r3⟩ := hr.ob j _ hj
    rw [← some_unique (show m j = some b from hb) (show m j = some b' from r1)]
    exact ⟨vs, e, r2, r3⟩
  have hnb : ¬ okC cx m st W false b := by
    rintro (h | ⟨e, _⟩)
    · exact h.2.2 j _ hj hb
    · cases e
  have hcs : All2 (RC (enA W (okC cx m st W false))) (exts cs) vs.toList := exts_RC (r3.mono' fun c hc v hv => RC.mono (okC_le cx m st W false) (fun _ _ => trivial) hv)
  have hgb : ∀ (b' off : Nat) (x : Ce), (G b')[off]? = some x → b' ≠ b := fun b' off x hx e => by
    subst e
    obtain ⟨k1, k2, _⟩ := hr.gl b' off x hx
    rcases (hr.own j _ b' hj hb).2 with k3 | k3
    · omega
    · exact k2 k3.1
  obtain ⟨h1, h2⟩ := hD W (okC cx m st W false) _ b vs e hok hr.glOk hgb hnb r2 hcs hargs
  refine ⟨b, hyv, h1, h2.mono ?_⟩
  rintro en' W' ⟨rfl, hX, hsh, vs', e', q1, q2⟩
  have hlt := lt_of_heap r2
  have he := enP hr hX hsh (cs' := cs') hj hb
  have hr2 : RelM G cx m ⟨st.tm, put j (.box cs') st.ob⟩ a W' := by
    refine hr.move he (fun _ _ _ _ _ => trivial) hX.size hX.os hX.tape hX.output (fun c hc hn => hX.block c (Nat.lt_of_lt_of_le hc hr.size) (fun e => by
        subst e; rcases (hr.own j _ c hj hb).2 with h' | h'
        · omega
        · exact hn h'.1)) (fun k o2 hk => ?_) (fun k k' o1 o2 c g1 g2 g3 g4 => ?_) (fun k o2 c g1 g2 => ?_) (fun o2 ho2 => ?_)
    · by_cases hkj : k = j
      · subst hkj; rw [lk_put_self] at hk; injection hk with hk; subst hk
        refine ⟨b, vs', e', hb, q1, q2.mono' fun c hc v hv => RC.mono (L := fun _ => False) (E := enR W W' (okC cx m st W false)) (E' := en cx m (put k (.box cs') st.ob) W') ⟨fun c ⟨g1, g2⟩ => ?_, fun _ _ => rfl, hr.size, fun _ hF => hF.elim⟩ (fun i hi => ?_) hv⟩
        · have hnew : ∀ i o', lk i (put k (.box cs') st.ob) = some o' → ∃ o3, lk i st.ob = some o3 := fun i o' hi => by
            by_cases hik : i = k
            · subst hik; exact ⟨_, hj⟩
            · rw [lk_put_ne _ _ hik] at hi; exact ⟨_, hi⟩
          rcases g1 with (g1 | ⟨e, _⟩) | g1
          · exact ⟨g1.1, g2, fun i o' hi => let ⟨o3, h3⟩ := hnew i o' hi; g1.2.2 i o3 h3⟩
          · cases e
          · exact ⟨.inr (Nat.le_trans hr.size g1), g2, fun i o' hi e => by obtain ⟨o3, h3⟩ := hnew i o' hi; have := (hr.own i o3 c h3 e).1; omega⟩
        · have : i ∈ cs'.flatMap Ce.labs := List.mem_flatMap.2 ⟨c, hc, hi⟩
          rw [hl] at this; cases this
      · rw [lk_put_ne _ _ hkj] at hk
        exact RO.mono he (fun _ _ => trivial) rfl (fun c hc => hX.block c (hr.own k o2 c hk hc).1 (fun e => hkj (by subst e; exact hr.inj k j o2 _ c hk hj hc hb))) (hr.ob k o2 hk)
    · have f : ∀ {k o2}, lk k (put j (.box cs') st.ob) = some o2 → ∃ o3, lk k st.ob = some o3 := fun {k o2} hk => by
        by_cases hkj : k = j
        · subst hkj; exact ⟨_, hj⟩
        · rw [lk_put_ne _ _ hkj] at hk; exact ⟨_, hk⟩
      obtain ⟨o3, q1⟩ := f g1
      obtain ⟨o4, q2⟩ := f g2
      exact hr.inj k k' o3 o4 c q1 q2 g3 g4
    · by_cases hkj : k = j
      · subst hkj
        rw [lk_put_self] at g1; injection g1 with g1; subst g1
        exact ⟨Nat.lt_of_lt_of_le (hr.own k _ c hj g2).1 hX.size, (hr.own k _ c hj g2).2⟩
      · rw [lk_put_ne _ _ hkj] at g1; exact ⟨Nat.lt_of_lt_of_le (hr.own k o2 c g1 g2).1 hX.size, (hr.own k o2 c g1 g2).2⟩
    · have key : ∀ o3, lk 7777777 st.ob = some o3 → ∃ b, m 7777777 = some b ∧ cx.bo b ∧ W'.shape? b = cx.W0.shape? b := fun o3 h3 => by
        obtain ⟨_, c, g2, g3, g4⟩ := hr.pin o3 h3
        refine ⟨c, g2, g3, ?_⟩
        by_cases hc : c = b
        · subst hc; exact hsh.trans g4
        · exact (shape_of_heap (hX.block c (hr.own _ o3 c h3 g2).1 hc)).trans g4
      by_cases hkj : 7777777 = j
      · subst hkj; rw [lk_put_self] at ho2; injection ho2 with ho2; subst ho2
        exact ⟨rfl, key _ hj⟩
      · rw [lk_put_ne _ _ hkj] at ho2; exact ⟨(hr.pin o2 ho2).1, key _ ho2⟩
  exact ⟨rfl, hr2⟩
theorem DoL.callP2 {o : Oper} {f : FuncId} {x y : Operand} {az : List Operand} {ts : Array TypeId} {p : Prop} {args : List PV} {j : Nat} {cs cs' : List Ce} (md : Bool) (lab : Nat) (hg : o.guard = none) (hop : o.op = .call { callee := .value x, args := (y :: az).toArray, argTypes := ts })
    (hx : opv st.tm x = some (.v (.c (.f f)))) (hy : opv st.tm y = some (.v (.c (.p j 0)))) (hj : lk j st.ob = some (.box cs)) (ha : argsOf st az = some (p, args, false)) (hp : p) (hD : DoesP P G f cs args cs') (hl : cs'.flatMap Ce.labs = []) (hl0 : cs.flatMap Ce.labs = []) (hd : dstOk nt o.dst = true)
    (next : runs P G nt md ops Q lab l ⟨setv o.dst (some (.t [])) st.tm, put j (.box cs') st.ob⟩) : DoL P G nt ops (o :: l) st Q := by
  intro cx a W hn ⟨m, hr⟩ Q' hQ
  refine wpList_plain hg fun K hK => ?_
  unfold Oper.wp
  have hxv : a.eval x = .func (.func f) #[] #[] := hr.opv hx
  obtain ⟨b, hyv, h1, h2⟩ := callP_core hr hy hj ha hp hD hl hl0
  have hexec : execOp a.eval o = callFunc f (.pointer (some ⟨b, 0, none⟩) :: az.map a.eval).toArray := by
    unfold execOp
    simp [hop, resolve, hxv, Deferred.ofValue, invoke, hyv]
  rw [hexec, h1]
  refine h2.mono ?_
  rintro en' W' ⟨rfl, hr2⟩
  have hput := Rel.put (st := ⟨st.tm, put j (.box cs') st.ob⟩) hr2 hn hd (x := .t []) (v := .tuple #[]) ⟨_, rfl, .nil⟩
  exact hK _ _ (DoL.run next cx _ _ hn hput Q' hQ)
theorem opOk_callP2 {B : List Nat} {o : Oper} {f : FuncId} {x y : Operand} {az : List Operand} {ts : Array TypeId} {p : Prop} {args : List PV} {j : Nat} {cs cs' : List Ce} (lab : Nat) (hg : o.guard = none) (hop : o.op = .call { callee := .value x, args := (y :: az).toArray, argTypes := ts })
    (hx : opv st.tm x = some (.v (.c (.f f)))) (hy : opv st.tm y = some (.v (.c (.p j 0)))) (hj : lk j st.ob = some (.box cs)) (ha : argsOf st az = some (p, args, false)) (hp : p) (hD : DoesP P G f cs args cs') (hl : cs'.flatMap Ce.labs = []) (hl0 : cs.flatMap Ce.labs = []) (hd : dstOk nt o.dst = true) :
    OpOk P G nt ops B o st ⟨o.dst, some (.t []), .upd j (.box cs'), lab, j :: labsOf st.tm az⟩ := by
  refine ⟨rfl, fun cx a W m S hn _ hrd hus hfree hr Q' K hK => ?_⟩
  have hmem : ∀ t, (.tmp t = x ∨ .tmp t ∈ y :: az) → t ∈ rdOf ops o := fun t ht => by
    unfold rdOf
    simp only [List.mem_append]
    refine .inl (.inl (tmpsOf_mem ?_))
    rw [hop]
    rcases ht with e | e
    · simp [Op.operands, Call.operands, e]
    · simp only [Op.operands, Call.operands, Array.toList_append, List.mem_append]; exact .inr (by simpa using e)
  have hx' : opv S.tm x = some (.v (.c (.f f))) := by rw [← hx]; exact opv_congr fun t e => hrd t (hmem t (.inl e.symm))
  have hy' : opv S.tm y = some (.v (.c (.p j 0))) := by rw [← hy]; exact opv_congr fun t e => hrd t (hmem t (.inr (e ▸ List.mem_cons_self)))
  have hj' : lk j S.ob = some (.box cs) := by rw [← hj]; exact hus j (by simp)
  have ha' : argsOf S az = some (p, args, false) := by rw [← ha]; exact argsOf_congr (fun z hz => opv_congr fun t e => hrd t (hmem t (.inr (e ▸ List.mem_cons_of_mem _ hz)))) (fun k hk => hus k (by simp only [List.mem_cons]; exact .inr hk))
  rw [wanted_none hg, if_pos rfl]
  unfold Oper.wp
  have hxv : a.eval x = .func (.func f) #[] #[] := hr.opv hx'
  obtain ⟨b, hyv, h1, h2⟩ := callP_core hr hy' hj' ha' hp hD hl hl0
  have hexec : execOp a.eval o = callFunc f (.pointer (some ⟨b, 0, none⟩) :: az.map a.eval).toArray := by
    unfold execOp
    simp [hop, resolve, hxv, Deferred.ofValue, invoke, hyv]
  rw [hexec, h1]
  refine h2.mono ?_
  rintro en' W' ⟨rfl, hr2⟩
  refine hK _ _ ?_
  exact Rel.put (st := ⟨S.tm, put j (.box cs') S.ob⟩) hr2 hn hd (x := .t []) (v := .tuple #[]) ⟨_, rfl, .nil⟩
theorem DoLD.callP2 {st0 : St} {acc : List Sm} {Q : List Sm → St → Prop} {o : Oper} {f : FuncId} {x y : Operand} {az : List Operand} {ts : Array TypeId} {p : Prop} {args : List PV} {j : Nat} {cs cs' : List Ce} (md : Bool) (lab : Nat) (hg : o.guard = none) (hop : o.op = .call { callee := .value x, args := (y :: az).toArray, argTypes := ts })
    (hx : opv st.tm x = some (.v (.c (.f f)))) (hy : opv st.tm y = some (.v (.c (.p j 0)))) (hj : lk j st.ob = some (.box cs)) (ha : argsOf st az = some (p, args, false)) (hp : p) (hD : DoesP P G f cs args cs') (hl : cs'.flatMap Ce.labs = []) (hl0 : cs.flatMap Ce.labs = []) (hd : dstOk nt o.dst = true)
    (next : runsD P G nt md ops st0 Q lab l (acc ++ [(Tr.mk o.dst (some (.t [])) (.upd j (.box cs')) 0 (j :: labsOf st.tm az)).sm]) ⟨setv o.dst (some (.t [])) st.tm, put j (.box cs') st.ob⟩) : DoLD P G nt ops st0 Q (o :: l) acc st := by
  refine DoLD.cons (opOk_callP2 0 hg hop hx hy hj ha hp hD hl hl0 hd) (fun l hl => by simp [Tr.nw, Eff.isNew] at hl) rfl ?_
  exact DoLD.run next
theorem ple_run {E : En} {cs cs' : List Ce} (hle : All2 (fun c d => PLe (.c c) (.c d)) cs cs') : ∀ {us : List Value}, All2 (RC E) cs us → All2 (RC E) cs' us := by
  induction hle with
  | nil => intro us h; exact h
  | cons h _ ih =>
    intro us h2
    obtain ⟨v, vs', rfl, g1, g2⟩ := h2.cons_iff
    exact .cons (h _ _ g1) (ih g2)
/-- A box whose cells are taken as less. -/
theorem RelM.weakB (hr : RelM G cx m st a W) {j : Nat} {cs cs' : List Ce} (hj : lk j st.ob = some (.box cs)) (hle : All2 (fun c d => PLe (.c c) (.c d)) cs cs') : RelM G cx m ⟨st.tm, put j (.box cs') st.ob⟩ a W := by
  obtain ⟨b, vs, e, hb, r2, r3⟩ := hr.ob j _ hj
  have hb : m j = some b := hb
  have hX : BelowX b W W := ⟨rfl, rfl, rfl, Nat.le_refl _, fun _ _ _ => rfl⟩
  have he := enP hr hX rfl (cs' := cs') hj hb
  have hd : ∀ k o, lk k (put j (.box cs') st.ob) = some o → (k = j ∧ o = .box cs') ∨ (k ≠ j ∧ lk k st.ob = some o) := fun k o hk => by
    rw [lk_put] at hk
    split at hk
    · rename_i e; injection hk with hk; exact .inl ⟨e, hk.symm⟩
    · rename_i e; exact .inr ⟨e, hk⟩
  refine hr.move he (fun _ _ _ _ _ => trivial) (Nat.le_refl _) rfl rfl rfl (fun _ _ _ => rfl) (fun k o hk => ?_) (fun k k' o o' c g1 g2 g3 g4 => ?_) (fun k o c g1 g2 => ?_) (fun o ho => ?_)
  · rcases hd k o hk with ⟨rfl, rfl⟩ | ⟨_, hk⟩
    · refine ⟨b, vs, e, hb, r2, ?_⟩
      have h2 : All2 (RC (en cx m (put k (.box cs') st.ob) W)) cs vs.toList := r3.mono' fun c hc v hv => RC.mono he (fun _ _ => trivial) hv
      exact ple_run hle h2
    · exact RO.mono he (fun _ _ => trivial) rfl (fun _ _ => rfl) (hr.ob k o hk)
  · have f : ∀ {k o}, lk k (put j (.box cs') st.ob) = some o → ∃ o3, lk k st.ob = some o3 := fun {k o} hk => by
      rcases hd k o hk with ⟨rfl, _⟩ | ⟨_, hk⟩
      · exact ⟨_, hj⟩
      · exact ⟨_, hk⟩
    obtain ⟨o3, q1⟩ := f g1
    obtain ⟨o4, q2⟩ := f g2
    exact hr.inj k k' o3 o4 c q1 q2 g3 g4
  · rcases hd k o g1 with ⟨rfl, rfl⟩ | ⟨_, hk⟩
    · have q := hr.own k _ c hj g2
      exact ⟨q.1, q.2.elim .inl fun e => .inr ⟨e.1, rfl, e.2.2⟩⟩
    · exact hr.own k o c hk g2
  · rcases hd _ o ho with ⟨rfl, rfl⟩ | ⟨_, hk⟩
    · exact ⟨rfl, (hr.pin _ hj).2⟩
    · exact hr.pin o hk
theorem Do.weakB {c : Code} (j : Nat) {cs : List Ce} (cs' : List Ce) (hj : lk j st.ob = some (.box cs)) (hle : All2 (fun c d => PLe (.c c) (.c d)) cs cs') (h : Do P G nt c ⟨st.tm, put j (.box cs') st.ob⟩ QE) : Do P G nt c st QE :=
  fun cx a W hn ⟨m, hr⟩ => h cx a W hn ⟨m, hr.weakB hj hle⟩
/-- A box given away: its pointer is read alone from here on. -/
theorem RelM.lend (h : RelM G cx m st a W) {t j : Nat} {cs : List Ce} (ht : lk t st.tm = some (.v (.c (.p j 0)))) (hj : lk j st.ob = some (.box cs)) (hpure : cs.all Ce.pure = true) (hp : j ≠ 7777777) : RelM G cx m ⟨put t (.v (.c (.x (PtrSx cs)))) st.tm, del j st.ob⟩ a W := by
  have hs : ∀ k o, lk k (del j st.ob) = some o → k ≠ j ∧ lk k st.ob = some o := fun k o hk => by
    rw [lk_del] at hk
    split at hk
    · cases hk
    · rename_i e; exact ⟨e, hk⟩
  have h1 := h.fewer (del j st.ob) fun k o hk => (hs k o hk).2
  refine { h1 with tm := fun s x hx => ?_ }
  rcases lk_le_put s x st.tm hx with ⟨rfl, rfl⟩ | ⟨_, hx⟩
  · obtain ⟨v, hv, q1, q2⟩ := h.tm _ _ ht
    obtain ⟨b, q3, q4⟩ := q2 cs hj
    obtain ⟨b', vs, e, r1, r2, r3⟩ := h.ob j _ hj
    obtain rfl := some_unique (show m j = some b' from r1) (show m j = some b from q3)
    have hown := h.own j _ b hj q3
    have hB : cx.B ≤ b := hown.2.elim id fun e => absurd e.2.2 hp
    refine ⟨v, hv, ⟨b, 0, none⟩, q4, ⟨.inr hB, hown.1, fun k o hk e => ?_⟩, vs.toList, ⟨fun c hc => List.all_eq_true.1 hpure c hc, r3.mono' fun c hc v hv => RC.mono (L := fun _ => False) (E := en cx m st.ob W) (E' := enA W (okOf cx m (del j st.ob) W)) ⟨fun b ⟨g1, g2, g3⟩ => ⟨g1, g2, fun k o hk => g3 k o (hs k o hk).2⟩, fun _ _ => rfl, Nat.zero_le _, fun _ hF => hF.elim⟩ (by rw [Ce.labs_of_pure (List.all_eq_true.1 hpure c hc)]; intro k hk; cases hk) hv⟩, fun q u hq => ?_⟩
    · obtain ⟨hne, hk⟩ := hs k o hk
      exact hne (h.inj k j o _ b hk hj e q3)
    · rw [addr_add0]
      simp only [World.cell?]
      rw [show (en cx m (del j st.ob) W).W.heap[b]? = _ from r2]
      simpa using hq
  · exact h1.tm s x hx
theorem DoL.lend (md : Bool) (lab t j : Nat) {cs : List Ce} (ht : lk t st.tm = some (.v (.c (.p j 0)))) (hj : lk j st.ob = some (.box cs)) (hpure : cs.all Ce.pure = true) (hp : j ≠ 7777777) (h : runs P G nt md ops Q lab l ⟨put t (.v (.c (.x (PtrSx cs)))) st.tm, del j st.ob⟩) : DoL P G nt ops l st Q :=
  fun cx a W hn ⟨m, hr⟩ => DoL.run h cx a W hn ⟨m, hr.lend ht hj hpure hp⟩
end
end Go.Proofs.YthpkhmbjmnhmoaaGreatDoor
/- Pairs of floats: the rounded sum, and what it drops. No condition. -/
namespace Go.Proofs.YthpkhmbjmnhmoaaGreatDoor
set_option linter.unusedVariables false
set_option linter.unusedSimpArgs false
set_option maxHeartbeats 4000000
set_option maxRecDepth 10000
/-- A canonical float that is a number. -/
def Numb (x : Flt) : Prop := x.k = 1 ∨ (x.k = 0 ∧ x.e = 0 ∧ x.v = 0)
theorem Numb.sv {x : Flt} (h : Numb x) (z : Int) : Nu.sv z ⟨x.n, x.v, x.e⟩ = fv z x := by
  unfold fv
  rcases h with h | ⟨h1, h2, h3⟩
  · rw [if_pos h]
  · rw [if_neg (by omega), h3]; simp [Nu.sv]
theorem Fine.ok {x : Flt} (h : Fine x) (hn : Numb x) (n : Bool) : (⟨n, x.v, x.e⟩ : Nu).Ok := by
  have h1 := h.v
  rcases hn with hk | ⟨hk, h2, h3⟩
  · have := canon_one h.can hk
    exact ⟨by simp only []; omega, by simp only []; omega⟩
  · exact ⟨by simp only []; omega, by simp only []; omega⟩
end Go.Proofs.YthpkhmbjmnhmoaaGreatDoor
/- The law SumPairs. No condition. -/
namespace Go.Proofs.YthpkhmbjmnhmoaaGreatDoor
set_option linter.unusedVariables false
set_option linter.unusedSimpArgs false
set_option maxHeartbeats 4000000
set_option maxRecDepth 10000
section
variable {f p : Int} {x y : Fla}
end
end Go.Proofs.YthpkhmbjmnhmoaaGreatDoor
/- Products of floats, plain. No condition. -/
namespace Go.Proofs.YthpkhmbjmnhmoaaGreatDoor
set_option linter.unusedVariables false
set_option linter.unusedSimpArgs false
set_option maxHeartbeats 4000000
set_option maxRecDepth 10000
/-- A product: is it nothing, its kind, its number. -/
def timesP (x y : Flt) : Bool × Int × Nu :=
  if x.k = 3 ∨ y.k = 3 then (false, 3, ⟨!x.n == y.n, 0, 0⟩)
  else if x.k = 2 ∨ y.k = 2 then (x.k == 0 || y.k == 0, 2, ⟨!x.n == y.n, 0, 0⟩)
  else if x.k = 1 ∧ y.k = 1 then (false, 1, ⟨!x.n == y.n, x.v * y.v, x.e + y.e⟩)
  else (false, 0, ⟨!x.n == y.n, 0, 0⟩)
def roundT (t : Bool × Int × Nu) (f p r : Int) : Flt × Int :=
  if t.1 then (⟨3, false, 0, 0⟩, 16) else if t.2.1 = 3 then (⟨3, false, 0, 0⟩, 0) else if t.2.1 ≠ 1 then (⟨t.2.1, t.2.2.n, 0, 0⟩, 0) else t.2.2.round f p r false
/-- The reference's product, and whether it is one. -/
def prodF (x y : Flt) : Flt × Bool :=
  if x.k = 3 ∨ y.k = 3 then (⟨3, false, 0, 0⟩, true)
  else if x.k = 2 ∧ y.k = 0 ∨ x.k = 0 ∧ y.k = 2 then (⟨0, false, 0, 0⟩, false)
  else if x.k = 2 ∨ y.k = 2 then (⟨2, !x.n == y.n, 0, 0⟩, true)
  else if x.k = 0 ∨ y.k = 0 then (⟨0, !x.n == y.n, 0, 0⟩, true)
  else (⟨1, !x.n == y.n, (rcanon x).e + (rcanon y).e, (rcanon x).v * (rcanon y).v⟩, true)
def K4 (x : Flt) : Prop := x.k = 0 ∨ x.k = 1 ∨ x.k = 2 ∨ x.k = 3
/-- A float as it is held: canonical. -/
structure Cf (x : Flt) : Prop where
  k : K4 x
  fix : rcanon x = x
  pos : x.k = 1 → x.v ≠ 0
theorem Cf.of {x : Flt} (h : (canon x).2 = true) : Cf (rcanon x) := by
  refine ⟨?_, rcanon_idem x, fun hk => ?_⟩
  · have := (canon_kind h).1
    unfold K4
    rw [rcanon_k]; exact this
  · rw [rcanon_k] at hk
    have h1 := (canon_one h hk).2.2
    obtain ⟨m, hm⟩ := tz_form (show 0 < x.v by omega)
    have e1 : x.v / 2 ^ tz x.v = 2 * m + 1 := by
      conv => lhs; arg 1; rw [hm]
      exact Nat.mul_div_cancel_left _ (Nat.pow_pos (by decide))
    simp only [rcanon, hk, if_true]
    omega
/-- Terms that are put in, one after the other. -/
def dotStep (g : Ga) (t : Bool × Int × Nu) : Ga := ({ g with inv := g.inv || t.1 } : Ga).put t.2.1 t.2.2
def dotG (ts : List (Bool × Int × Nu)) : Ga := ts.foldl dotStep .zero
def tFlt (t : Bool × Int × Nu) : Flt := ⟨t.2.1, t.2.2.n, t.2.2.e, t.2.2.v⟩
theorem put_inv (g : Ga) (b : Bool) (k : Int) (x : Nu) : ({ g with inv := b } : Ga).put k x = { g.put k x with inv := b } := by
  unfold Ga.put
  split
  · rfl
  · split
    · rfl
    · split <;> rfl
theorem put_inv_same (g : Ga) (k : Int) (x : Nu) : (g.put k x).inv = g.inv := by
  unfold Ga.put
  split
  · rfl
  · split
    · rfl
    · split <;> rfl
theorem dotG_is (ts : List (Bool × Int × Nu)) : dotG ts = { gatherP (ts.map tFlt) with inv := ts.any (·.1) } := by
  suffices H : ∀ (ts : List (Bool × Int × Nu)) (g h : Ga) (b : Bool), g = { h with inv := b } → ts.foldl dotStep g = { (ts.map tFlt).foldl (fun g x => g.put x.k ⟨x.n, x.v, x.e⟩) h with inv := b || ts.any (·.1) } by
    have := H ts .zero .zero false rfl
    rw [Bool.false_or] at this
    exact this
  intro ts
  induction ts with
  | nil => intro g h b e; simp [e]
  | cons t ts ih =>
    intro g h b e
    simp only [List.foldl_cons, List.map_cons, List.any_cons]
    rw [ih (dotStep g t) (h.put t.2.1 t.2.2) (b || t.1) (by rw [e]; exact put_inv h _ _ _), Bool.or_assoc]
    rfl
theorem dotG_take {ts : List (Bool × Int × Nu)} {i : Nat} {t : Bool × Int × Nu} (h : ts[i]? = some t) : dotG (ts.take (i + 1)) = dotStep (dotG (ts.take i)) t := by
  unfold dotG
  rw [List.take_add_one, h]; simp
/-- Sums of alike terms are alike. -/
theorem float_like {z : Int} {l m : List Flt} {g g' : Ga} (h : GaIs z l g) (h' : GaIs z m g') (hs : svs z l = svs z m) (hm : ∀ q : Int → Bool → Bool, (l.any fun x => q x.k x.n) = m.any fun x => q x.k x.n) (f p r : Int) : g.float f p r = g'.float f p r := by
  have e1 := hm fun k _ => k == 3
  have e2 := hm fun k n => k == 2 && !n
  have e3 := hm fun k n => k == 2 && n
  have e4 := hm fun _ _ => true
  have e5 := hm fun k n => k == 1 || (k != 2 && k != 3 && !n)
  have e6 := hm fun k n => k == 1 || (k != 2 && k != 3 && n)
  unfold Ga.float
  rw [h.nan, h'.nan, h.inv, h'.inv, h.plus, h'.plus, h.minus, h'.minus, h.seen, h'.seen, h.some_, h'.some_, h.other, h'.other]
  rw [e1, e2, e3, e4, e5, e6, Nu.round_sv h.low h'.low (by rw [h.sum, h'.sum, hs])]
/-- The sum of products and a float. -/
def dotP (f p r : Int) (ts : List (Bool × Int × Nu)) (z : Flt) : Flt × Int := ((dotG ts).put z.k ⟨z.n, z.v, z.e⟩).float f p r
theorem dotP_is (f p r : Int) (ts : List (Bool × Int × Nu)) (z : Flt) : dotP f p r ts z = if ((ts.map tFlt ++ [z]).any fun x => x.k == 3) = false ∧ (ts.any (·.1)) = true then (⟨3, false, 0, 0⟩, 16) else (gatherP (ts.map tFlt ++ [z])).float f p r := by
  have e : gatherP (ts.map tFlt ++ [z]) = (gatherP (ts.map tFlt)).put z.k ⟨z.n, z.v, z.e⟩ := by
    unfold gatherP
    rw [List.foldl_append]; rfl
  have hn : ∀ l : List Flt, (gatherP l).nan = (l.any fun x => x.k == 3) ∧ (gatherP l).inv = false := fun l => by
    suffices H : ∀ i, (gatherP (l.take i)).nan = ((l.take i).any fun x => x.k == 3) ∧ (gatherP (l.take i)).inv = false by have := H l.length; rwa [List.take_length] at this
    intro i
    induction i with
    | zero => exact ⟨rfl, rfl⟩
    | succ i ih =>
      cases hx : l[i]? with
      | none =>
        have hl : l.length ≤ i := List.getElem?_eq_none_iff.1 hx
        rw [List.take_of_length_le (by omega)] at ih ⊢
        exact ih
      | some x =>
        rw [gatherP_take hx, List.take_add_one, hx, put_inv_same]
        refine ⟨?_, ih.2⟩
        rw [List.any_append, ← ih.1]
        unfold Ga.put
        by_cases h3 : x.k = 3
        · simp [h3]
        · rw [if_neg h3]
          have : (x.k == 3) = false := by simp [h3]
          split
          · simp [this]
          · split <;> simp [this]
  unfold dotP
  rw [dotG_is, put_inv, ← e]
  have h1 := hn (ts.map tFlt ++ [z])
  generalize gatherP (ts.map tFlt ++ [z]) = g at *
  unfold Ga.float
  simp only [h1.2, Bool.false_or]
  rw [h1.1]
  cases ((ts.map tFlt ++ [z]).any fun x => x.k == 3) with
  | true => simp
  | false =>
    cases ts.any (·.1) with
    | true => simp
    | false => simp
end Go.Proofs.YthpkhmbjmnhmoaaGreatDoor
/- Sums of products of floats, plain. No condition. -/
namespace Go.Proofs.YthpkhmbjmnhmoaaGreatDoor
set_option linter.unusedVariables false
set_option linter.unusedSimpArgs false
set_option maxHeartbeats 4000000
set_option maxRecDepth 10000
theorem sv_rcan {x : Flt} (hk : x.k = 1) {z : Int} (hz : z ≤ x.e) : Nu.sv z ⟨(rcanon x).n, (rcanon x).v, (rcanon x).e⟩ = Nu.sv z ⟨x.n, x.v, x.e⟩ := by
  have e2 : rcanon x = ⟨1, x.n, x.e + tz x.v, x.v / 2 ^ tz x.v⟩ := by simp [rcanon, hk]
  rw [e2]
  have hv : x.v / 2 ^ tz x.v * 2 ^ (x.e + tz x.v - z).toNat = x.v * 2 ^ (x.e - z).toNat := by
    by_cases h0 : x.v = 0
    · rw [h0]; simp
    · obtain ⟨m, hm⟩ := tz_form (show 0 < x.v by omega)
      have e1 : x.v / 2 ^ tz x.v = 2 * m + 1 := by
        conv => lhs; arg 1; rw [hm]
        exact Nat.mul_div_cancel_left _ (Nat.pow_pos (by decide))
      rw [e1, show (x.e + tz x.v - z).toNat = tz x.v + (x.e - z).toNat by omega, Nat.pow_add, ← Nat.mul_assoc]
      congr 1
      conv => rhs; rw [hm]
      exact Nat.mul_comm _ _
  unfold Nu.sv
  simp only [hv]
theorem fv_rcan {x : Flt} {z : Int} (hz : x.k = 1 → z ≤ x.e) : fv z (rcanon x) = fv z x := by
  unfold fv
  rw [rcanon_k]
  split
  · rename_i h; exact sv_rcan h (hz h)
  · rfl
/-- Pairs of canonical floats. -/
def Cfs (l : List (Flt × Flt)) : Prop := ∀ q ∈ l, Cf q.1 ∧ Cf q.2
def tsOf (l : List (Flt × Flt)) : List (Bool × Int × Nu) := l.map fun q => timesP q.1 q.2
def psOf (l : List (Flt × Flt)) : List (Flt × Bool) := l.map fun q => prodF q.1 q.2
theorem pair_nan {x y : Flt} (hx : Cf x) (hy : Cf y) : ((timesP x y).2.1 = 3) = ((prodF x y).1.k = 3) := by
  unfold timesP prodF
  rcases hx.k with h | h | h | h <;> rcases hy.k with g | g | g | g <;> simp [h, g]
theorem pair_ok {x y : Flt} (hx : Cf x) (hy : Cf y) : (prodF x y).2 = !(timesP x y).1 := by
  unfold timesP prodF
  rcases hx.k with h | h | h | h <;> rcases hy.k with g | g | g | g <;> simp [h, g]
theorem pair_like {x y : Flt} (hx : Cf x) (hy : Cf y) (h3 : (timesP x y).2.1 ≠ 3) (h1 : (timesP x y).1 = false) : (prodF x y).1.k = (timesP x y).2.1 ∧ (prodF x y).1.n = (timesP x y).2.2.n ∧ ((prodF x y).1.k = 1 → (prodF x y).1.v = (timesP x y).2.2.v ∧ (prodF x y).1.e = (timesP x y).2.2.e) := by
  unfold timesP prodF at *
  rw [hx.fix, hy.fix]
  rcases hx.k with h | h | h | h <;> rcases hy.k with g | g | g | g <;> simp [h, g] at h3 h1 ⊢
/-- The reference's sum of products. -/
def dotR (f p r : Int) (l : List (Flt × Flt)) (z : Flt) : Flt × Int :=
  if (z.k = 3 ∨ ((psOf l).any fun q => q.1.k == 3) = true) then (⟨3, false, 0, 0⟩, 0)
  else if ((psOf l).any fun q => !q.2) = true then (⟨3, false, 0, 0⟩, 16)
  else (gatherP (rcanon z :: (psOf l).map fun q => rcanon q.1)).float f p r
theorem dot_same {f p r : Int} {l : List (Flt × Flt)} {z : Flt} (hl : Cfs l) (hz : Cf z) {w : Int} (hw : w ≤ 0) (h1 : ∀ q ∈ l, q.1.k = 1 → q.2.k = 1 → w ≤ q.1.e + q.2.e) (h2 : z.k = 1 → w ≤ z.e) : dotP f p r (tsOf l) z = dotR f p r l z := by
  rw [dotP_is]
  unfold dotR
  have e3 : ((tsOf l).map tFlt ++ [z]).any (fun x => x.k == 3) = (decide (z.k = 3) || (psOf l).any fun q => q.1.k == 3) := by
    rw [List.any_append, Bool.or_comm]
    congr 1
    · rw [Bool.eq_iff_iff]; simp
    · unfold tsOf psOf
      rw [List.map_map, List.any_map, List.any_map, Bool.eq_iff_iff, List.any_eq_true, List.any_eq_true]
      constructor
      · rintro ⟨q, hq, h⟩
        refine ⟨q, hq, ?_⟩
        simp only [Function.comp, tFlt, beq_iff_eq] at h ⊢
        rw [← pair_nan (hl q hq).1 (hl q hq).2]; exact h
      · rintro ⟨q, hq, h⟩
        refine ⟨q, hq, ?_⟩
        simp only [Function.comp, tFlt, beq_iff_eq] at h ⊢
        rw [pair_nan (hl q hq).1 (hl q hq).2]; exact h
  have e1 : (tsOf l).any (·.1) = (psOf l).any fun q => !q.2 := by
    unfold tsOf psOf
    rw [List.any_map, List.any_map, Bool.eq_iff_iff, List.any_eq_true, List.any_eq_true]
    constructor
    · rintro ⟨q, hq, h⟩
      refine ⟨q, hq, ?_⟩
      simp only [Function.comp] at h ⊢
      rw [pair_ok (hl q hq).1 (hl q hq).2, h]; rfl
    · rintro ⟨q, hq, h⟩
      refine ⟨q, hq, ?_⟩
      simp only [Function.comp] at h ⊢
      rw [pair_ok (hl q hq).1 (hl q hq).2] at h
      simpa using h
  have hel : ∀ q ∈ l, (timesP q.1 q.2).2.1 = 1 → q.1.k = 1 ∧ q.2.k = 1 ∧ (timesP q.1 q.2).2.2.e = q.1.e + q.2.e := by
    intro q hq h
    unfold timesP at h ⊢
    rcases (hl q hq).1.k with h' | h' | h' | h' <;> rcases (hl q hq).2.k with g | g | g | g <;> simp [h', g] at h ⊢
  have hlow : ∀ x ∈ (tsOf l).map tFlt ++ [z], x.k = 1 → w ≤ x.e := by
    intro x hx hk
    rcases List.mem_append.1 hx with hx | hx
    · obtain ⟨t, ht, rfl⟩ := List.mem_map.1 hx
      obtain ⟨q, hq, rfl⟩ := List.mem_map.1 ht
      obtain ⟨k1, k2, k3⟩ := hel q hq hk
      show w ≤ (timesP q.1 q.2).2.2.e
      rw [k3]; exact h1 q hq k1 k2
    · rw [List.mem_singleton.1 hx] at hk ⊢; exact h2 hk
  have hG := gather_is hw hlow
  rw [e3]
  by_cases c3 : z.k = 3 ∨ ((psOf l).any fun q => q.1.k == 3) = true
  · have hb : (decide (z.k = 3) || (psOf l).any fun q => q.1.k == 3) = true := by
      rcases c3 with h | h <;> simp [h]
    rw [if_pos c3, hb, if_neg (by simp)]
    unfold Ga.float
    rw [hG.nan, e3, hb]; rfl
  · have hb : (decide (z.k = 3) || (psOf l).any fun q => q.1.k == 3) = false := by
      simp only [not_or, Bool.not_eq_true] at c3
      simp [c3.1, c3.2]
    rw [if_neg c3, hb, e1]
    by_cases c1 : ((psOf l).any fun q => !q.2) = true
    · rw [if_pos ⟨rfl, c1⟩, if_pos c1]
    · rw [if_neg (fun h => c1 h.2), if_neg c1]
      have hall : ∀ q ∈ l, (timesP q.1 q.2).2.1 ≠ 3 ∧ (timesP q.1 q.2).1 = false := by
        intro q hq
        constructor
        · intro h
          rw [pair_nan (hl q hq).1 (hl q hq).2] at h
          apply c3
          right
          unfold psOf
          rw [List.any_map, List.any_eq_true]
          exact ⟨q, hq, by simp [h]⟩
        · apply Classical.byContradiction
          intro h
          apply c1
          unfold psOf
          rw [List.any_map, List.any_eq_true]
          refine ⟨q, hq, ?_⟩
          simp only [Function.comp]
          rw [pair_ok (hl q hq).1 (hl q hq).2]
          simpa using h
      have hlike := fun q hq => pair_like (hl q hq).1 (hl q hq).2 (hall q hq).1 (hall q hq).2
      have hG' := gather_is hw (l := rcanon z :: (psOf l).map fun q => rcanon q.1) (by
        intro x hx hk
        rcases List.mem_cons.1 hx with rfl | hx
        · rw [hz.fix] at hk ⊢; exact h2 hk
        · unfold psOf at hx
          rw [List.map_map] at hx
          obtain ⟨q, hq, rfl⟩ := List.mem_map.1 hx
          simp only [Function.comp] at hk ⊢
          rw [rcanon_k] at hk
          obtain ⟨k1, k2, k3⟩ := hlike q hq
          obtain ⟨k4, k5⟩ := k3 hk
          obtain ⟨k6, k7, k8⟩ := hel q hq (by rw [← k1]; exact hk)
          have : (prodF q.1 q.2).1.e ≤ (rcanon (prodF q.1 q.2).1).e := by simp only [rcanon, hk, if_true]; omega
          have := h1 q hq k6 k7
          omega)
      refine float_like hG hG' ?_ (fun q => ?_) f p r
      · rw [svs_append]
        have e2 : svs w (rcanon z :: (psOf l).map fun q => rcanon q.1) = fv w z + svs w ((psOf l).map fun q => rcanon q.1) := by
          rw [hz.fix]; rfl
        rw [e2, show svs w [z] = fv w z + 0 from rfl, Int.add_comm]
        have : svs w ((tsOf l).map tFlt) = svs w ((psOf l).map fun q => rcanon q.1) := by
          rw [svs_fv, svs_fv]
          congr 1
          unfold tsOf psOf
          rw [List.map_map, List.map_map, List.map_map, List.map_map]
          apply List.map_congr_left
          intro q hq
          simp only [Function.comp]
          obtain ⟨k1, k2, k3⟩ := hlike q hq
          rw [fv_rcan (fun hk => by
            obtain ⟨k4, k5⟩ := k3 hk
            obtain ⟨k6, k7, k8⟩ := hel q hq (by rw [← k1]; exact hk)
            rw [k5, k8]; exact h1 q hq k6 k7)]
          unfold fv tFlt
          simp only []
          rw [← k1]
          split
          · rename_i hk
            obtain ⟨k4, k5⟩ := k3 hk
            rw [k2, k4, k5]
          · rfl
        omega
      · rw [List.any_append, List.any_cons, Bool.or_comm]
        congr 1
        · rw [hz.fix]; simp
        · unfold tsOf psOf
          rw [List.map_map, List.map_map, List.any_map, List.any_map, Bool.eq_iff_iff, List.any_eq_true, List.any_eq_true]
          constructor
          · rintro ⟨a, ha, h⟩
            refine ⟨a, ha, ?_⟩
            obtain ⟨k1, k2, _⟩ := hlike a ha
            simp only [Function.comp, tFlt] at h ⊢
            rw [rcanon_k, rcanon_n, k1, k2]; exact h
          · rintro ⟨a, ha, h⟩
            refine ⟨a, ha, ?_⟩
            obtain ⟨k1, k2, _⟩ := hlike a ha
            simp only [Function.comp, tFlt] at h ⊢
            rw [rcanon_k, rcanon_n, k1, k2] at h; exact h
end Go.Proofs.YthpkhmbjmnhmoaaGreatDoor
/- The words of a product, plain. No condition. -/
namespace Go.Proofs.YthpkhmbjmnhmoaaGreatDoor
set_option linter.unusedVariables false
set_option linter.unusedSimpArgs false
set_option maxHeartbeats 4000000
set_option maxRecDepth 10000
/-- The i-th digit. -/
def dgw (n i : Nat) : Nat := n / 18446744073709551616 ^ i % 18446744073709551616
theorem HposW (i : Nat) : 0 < 18446744073709551616 ^ i := Nat.pow_pos (by decide)
theorem dgw_lt (n i : Nat) : dgw n i < 18446744073709551616 := Nat.mod_lt _ (by decide)
theorem wds_dgw {k n i : Nat} (h : i < k) : (wds n k)[i]? = some (dgw n i) := wds_get h
theorem dgw_none {n k i : Nat} (h : n < 18446744073709551616 ^ k) (hi : k ≤ i) : dgw n i = 0 := by unfold dgw; rw [Nat.div_eq_of_lt (Nat.lt_of_lt_of_le h (Nat.pow_le_pow_right (by decide) hi))]
theorem dgw_low {n p x : Nat} (h : x < p) : dgw (n % 18446744073709551616 ^ p) x = dgw n x := by
  obtain ⟨q, rfl⟩ : ∃ q, p = x + (q + 1) := ⟨p - x - 1, by omega⟩
  unfold dgw
  rw [Nat.pow_add, Nat.mod_mul_right_div_self, Nat.pow_succ, Nat.mul_comm _ 18446744073709551616, Nat.mod_mul_right_mod]
theorem dgw_high {n p x : Nat} (h : p ≤ x) : dgw n x = dgw (n / 18446744073709551616 ^ p) (x - p) := by
  unfold dgw
  rw [Nat.div_div_eq_div_mul, ← Nat.pow_add, show p + (x - p) = x by omega]
theorem low_stepW (n i : Nat) : n % 18446744073709551616 ^ (i + 1) = n % 18446744073709551616 ^ i + dgw n i * 18446744073709551616 ^ i := by
  unfold dgw
  rw [Nat.pow_succ, Nat.mod_mul, Nat.mul_comm (18446744073709551616 ^ i)]
theorem high_stepW (n i : Nat) : n / 18446744073709551616 ^ i = n / 18446744073709551616 ^ (i + 1) * 18446744073709551616 + dgw n i := by
  unfold dgw
  rw [Nat.pow_succ, ← Nat.div_div_eq_div_mul]; omega
theorem wds_ext {l : List Nat} {n k : Nat} (h : l.length = k) (he : ∀ i, i < k → l[i]? = some (dgw n i)) : l = wds n k := by
  apply List.ext_getElem?
  intro i
  by_cases hi : i < k
  · rw [he i hi, wds_dgw hi]
  · rw [List.getElem?_eq_none (by omega), List.getElem?_eq_none (by rw [wds_len]; omega)]
theorem wds_zero (k : Nat) : List.replicate k 0 = wds 0 k := wds_ext (by simp) fun i hi => by simp [dgw, hi]
theorem wds_set {Q n p v : Nat} (hp : p < n) (hv : v < 18446744073709551616) : ∃ Q', (wds Q n).set p v = wds Q' n ∧ Q' + dgw Q p * 18446744073709551616 ^ p = Q + v * 18446744073709551616 ^ p ∧ ∀ m, p < m → Q < 18446744073709551616 ^ m → Q' < 18446744073709551616 ^ m := by
  have e0 : Q = Q % 18446744073709551616 ^ p + (dgw Q p + Q / 18446744073709551616 ^ (p + 1) * 18446744073709551616) * 18446744073709551616 ^ p := by
    have h1 := Nat.div_add_mod' Q (18446744073709551616 ^ p)
    rw [high_stepW, Nat.add_comm (_ * 18446744073709551616)] at h1
    omega
  obtain ⟨Q', hQ⟩ : ∃ Q', Q' = Q % 18446744073709551616 ^ p + (v + Q / 18446744073709551616 ^ (p + 1) * 18446744073709551616) * 18446744073709551616 ^ p := ⟨_, rfl⟩
  have l1 := Nat.mod_lt Q (HposW p)
  have h1 : Q' % 18446744073709551616 ^ p = Q % 18446744073709551616 ^ p := by rw [hQ, Nat.add_mul_mod_self_right, Nat.mod_mod]
  have h2 : Q' / 18446744073709551616 ^ p = v + Q / 18446744073709551616 ^ (p + 1) * 18446744073709551616 := by rw [hQ, Nat.add_mul_div_right _ _ (HposW p), Nat.div_eq_of_lt l1, Nat.zero_add]
  have h3 : Q' / 18446744073709551616 ^ (p + 1) = Q / 18446744073709551616 ^ (p + 1) := by
    rw [Nat.pow_succ, ← Nat.div_div_eq_div_mul, h2, Nat.pow_succ]; omega
  refine ⟨Q', wds_ext (by rw [List.length_set, wds_len]) fun i hi => ?_, ?_, fun m hm h => ?_⟩
  · rw [List.getElem?_set]
    by_cases he : p = i
    · subst he
      rw [if_pos rfl, if_pos (by rw [wds_len]; exact hp)]
      unfold dgw
      rw [h2]
      congr 1
      omega
    · rw [if_neg he, wds_dgw hi]
      congr 1
      rcases Nat.lt_or_gt_of_ne he with h | h
      · rw [dgw_high (show p + 1 ≤ i by omega), dgw_high (show p + 1 ≤ i by omega), h3]
      · rw [← dgw_low h, ← h1, dgw_low h]
  · rw [hQ]
    conv => rhs; rw [e0]
    rw [Nat.add_mul, Nat.add_mul]; omega
  · obtain ⟨q, rfl⟩ : ∃ q, m = (p + 1) + q := ⟨m - (p + 1), by omega⟩
    rw [Nat.pow_add, Nat.mul_comm, ← Nat.div_lt_iff_lt_mul (HposW _)] at h ⊢
    rw [h3]; exact h
/-- The product with the digits below i. -/
def tpw (a b i : Nat) : Nat := a % 18446744073709551616 ^ i * b
/-- What holds within the row i, at the digit t: the number Q stands in the result, c is carried. -/
def TimesW (a b k i t Q c : Nat) : Prop := Q + c * 18446744073709551616 ^ (i + t) = tpw a b i + dgw a i * 18446744073709551616 ^ i * (b % 18446744073709551616 ^ t) ∧ Q < 18446744073709551616 ^ (i + k) ∧ c < 18446744073709551616
theorem TimesW.start {a b k i : Nat} (hb : b < 18446744073709551616 ^ k) : TimesW a b k i 0 (tpw a b i) 0 := by
  refine ⟨by simp [Nat.mod_one], ?_, by omega⟩
  unfold tpw
  rw [Nat.pow_add]
  exact Nat.mul_lt_mul_of_lt_of_le (Nat.mod_lt _ (HposW i)) (Nat.le_of_lt hb) (HposW k)
theorem mul_lt_sqW {x y : Nat} (hx : x < 18446744073709551616) (hy : y < 18446744073709551616) : x * y ≤ 340282366920938463426481119284349108225 := by
  have := Nat.mul_le_mul (show x ≤ 18446744073709551615 by omega) (show y ≤ 18446744073709551615 by omega)
  omega
theorem TimesW.next {a b j k i t Q c : Nat} (h : TimesW a b k i t Q c) (hi : i < j) (ht : t < k) : c + dgw Q (i + t) + dgw a i * dgw b t < 340282366920938463463374607431768211456 ∧ ∃ Q', (wds Q (j + k)).set (i + t) ((c + dgw Q (i + t) + dgw a i * dgw b t) % 18446744073709551616) = wds Q' (j + k) ∧ TimesW a b k i (t + 1) Q' ((c + dgw Q (i + t) + dgw a i * dgw b t) / 18446744073709551616) := by
  obtain ⟨h1, h2, h3⟩ := h
  have l1 := dgw_lt Q (i + t)
  have l2 := mul_lt_sqW (dgw_lt a i) (dgw_lt b t)
  refine ⟨by omega, ?_⟩
  obtain ⟨Q', e1, e2, e3⟩ := @wds_set Q (j + k) (i + t) ((c + dgw Q (i + t) + dgw a i * dgw b t) % 18446744073709551616) (by omega) (Nat.mod_lt _ (by decide))
  refine ⟨Q', e1, ?_, e3 _ (by omega) h2, by omega⟩
  have hs := Nat.div_add_mod' (c + dgw Q (i + t) + dgw a i * dgw b t) 18446744073709551616
  have hm : (c + dgw Q (i + t) + dgw a i * dgw b t) / 18446744073709551616 * 18446744073709551616 ^ (i + (t + 1)) = (c + dgw Q (i + t) + dgw a i * dgw b t) / 18446744073709551616 * 18446744073709551616 * 18446744073709551616 ^ (i + t) := by
    rw [show i + (t + 1) = i + t + 1 by omega, Nat.pow_succ, Nat.mul_comm (18446744073709551616 ^ (i + t)), Nat.mul_assoc]
  rw [hm, low_stepW b t, Nat.mul_add, ← Nat.add_assoc, ← h1]
  have hd : dgw a i * 18446744073709551616 ^ i * (dgw b t * 18446744073709551616 ^ t) = dgw a i * dgw b t * 18446744073709551616 ^ (i + t) := by
    rw [Nat.pow_add]; ac_rfl
  rw [hd]
  have hk : ∀ x y z : Nat, x / 18446744073709551616 * 18446744073709551616 + x % 18446744073709551616 = x := fun x _ _ => Nat.div_add_mod' x _
  generalize 18446744073709551616 ^ (i + t) = M at *
  generalize dgw a i * dgw b t = p at *
  generalize dgw Q (i + t) = q at *
  have e4 : (c + q + p) / 18446744073709551616 * 18446744073709551616 * M + (c + q + p) % 18446744073709551616 * M = (c + q + p) * M := by rw [← Nat.add_mul, hk _ 0 0]
  rw [Nat.add_mul, Nat.add_mul] at e4
  omega
theorem TimesW.out {a b j k i Q c : Nat} (h : TimesW a b k i k Q c) (hb : b < 18446744073709551616 ^ k) (hi : i < j) : (wds Q (j + k)).set (i + k) c = wds (tpw a b (i + 1)) (j + k) := by
  obtain ⟨h1, h2, h3⟩ := h
  obtain ⟨Q', e1, e2, _⟩ := @wds_set Q (j + k) (i + k) c (by omega) h3
  rw [dgw_none h2 (Nat.le_refl _), Nat.zero_mul, Nat.add_zero, h1, Nat.mod_eq_of_lt hb] at e2
  rw [e1, e2]
  unfold tpw
  rw [low_stepW a i, Nat.add_mul]
theorem tpw_zero (a b : Nat) : tpw a b 0 = 0 := by simp [tpw, Nat.mod_one]
theorem tpw_end {a b j : Nat} (ha : a < 18446744073709551616 ^ j) : tpw a b j = a * b := by rw [tpw, Nat.mod_eq_of_lt ha]
end Go.Proofs.YthpkhmbjmnhmoaaGreatDoor
/- The program's product of natural numbers. No condition. -/
namespace Go.Proofs.YthpkhmbjmnhmoaaGreatDoor
set_option linter.unusedVariables false
set_option linter.unusedSimpArgs false
variable {G : Gl}
set_option maxHeartbeats 4000000
set_option maxRecDepth 10000
theorem mask32 (a : Nat) : a &&& 4294967295 = a % 4294967296 := Nat.and_two_pow_sub_one_eq_mod a 32
theorem Mul64_does {x y : Nat} (hx : x < 18446744073709551616) (hy : y < 18446744073709551616) : Does Tryz.prog G 160 [.c (.n x), .c (.n y)] (.t [.c (.n (x * y / 18446744073709551616)), .c (.n (x * y % 18446744073709551616))]) := by
  obtain ⟨bd, bt, bw, hhi⟩ := Lib.mul64_hi x y hx hy
  have ba := Lib.half_mul_le (a := x / 4294967296) (b := y / 4294967296) (by omega) (by omega)
  have bb := Lib.half_mul_le (a := x / 4294967296) (b := y % 4294967296) (by omega) (by omega)
  have bc := Lib.half_mul_le (a := x % 4294967296) (b := y / 4294967296) (by omega) (by omega)
  generalize hxl : x % 4294967296 = xl at *
  generalize hxh : x / 4294967296 = xh at *
  generalize hyl : y % 4294967296 = yl at *
  generalize hyh : y / 4294967296 = yh at *
  have bx : x < M64 := hx
  have hy64 : y < M64 := hy
  have b0 : xl * yl < M64 := bd
  have b1 : xh * yl < M64 := by unfold M64; omega
  have b2 : xh * yl + xl * yl / 4294967296 < M64 := bt
  have b3 : xl * yh < M64 := by unfold M64; omega
  have b4 : (xh * yl + xl * yl / 4294967296) % 4294967296 + xl * yh < M64 := bw
  have b5 : xh * yh < M64 := by unfold M64; omega
  have b6 : xh * yh + (xh * yl + xl * yl / 4294967296) / 4294967296 < M64 := by unfold M64; omega
  have b7 : xh * yh + (xh * yl + xl * yl / 4294967296) / 4294967296 + ((xh * yl + xl * yl / 4294967296) % 4294967296 + xl * yh) / 4294967296 < M64 := by unfold M64; omega
  refine Does.of (nt := 51) Tryz.func160 rfl rfl rfl (by simp) ?_
  simp only [argTm, PV.ext, Ce.ext]
  refine Do.seqk fun _ k1_ => ?_
  refine Do.region [0,1] true ?_
  simp [go_sem, mask32, bx, hy64, hxl, hxh, hyl, hyh, b0, b1, b2, b3, b4, b5, b6, b7]
  apply k1_; clear k1_
  refine Do.seqk fun _ k2_ => ?_
  refine Do.region [0,1,6] true ?_
  simp [go_sem, mask32, bx, hy64, hxl, hxh, hyl, hyh, b0, b1, b2, b3, b4, b5, b6, b7]
  apply k2_; clear k2_
  refine Do.seqk fun _ k3_ => ?_
  refine Do.region [0,1,6,7] true ?_
  simp [go_sem, mask32, bx, hy64, hxl, hxh, hyl, hyh, b0, b1, b2, b3, b4, b5, b6, b7]
  repeat (refine And.intro (by first | omega | (intros; omega) | (intros; exact And.intro (by assumption) (by omega)) | grind) ?_)
  apply k3_; clear k3_
  refine Do.seqk fun _ k4_ => ?_
  refine Do.region [0,1,6,7,8] true ?_
  simp [go_sem, mask32, bx, hy64, hxl, hxh, hyl, hyh, b0, b1, b2, b3, b4, b5, b6, b7]
  apply k4_; clear k4_
  refine Do.seqk fun _ k5_ => ?_
  refine Do.region [0,1,6,7,8,9] true ?_
  simp [go_sem, mask32, bx, hy64, hxl, hxh, hyl, hyh, b0, b1, b2, b3, b4, b5, b6, b7]
  repeat (refine And.intro (by first | omega | (intros; omega) | (intros; exact And.intro (by assumption) (by omega)) | grind) ?_)
  apply k5_; clear k5_
  refine Do.seqk fun _ k6_ => ?_
  refine Do.region [0,1,6,7,8,9,10] true ?_
  simp [go_sem, mask32, bx, hy64, hxl, hxh, hyl, hyh, b0, b1, b2, b3, b4, b5, b6, b7]
  repeat (refine And.intro (by first | omega | (intros; omega) | (intros; exact And.intro (by assumption) (by omega)) | grind) ?_)
  apply k6_; clear k6_
  refine Do.seqk fun _ k7_ => ?_
  refine Do.region [0,1,6,7,9,11] true ?_
  simp [go_sem, mask32, bx, hy64, hxl, hxh, hyl, hyh, b0, b1, b2, b3, b4, b5, b6, b7]
  repeat (refine And.intro (by first | omega | (intros; omega) | (intros; exact And.intro (by assumption) (by omega)) | grind) ?_)
  apply k7_; clear k7_
  refine Do.seqk fun _ k8_ => ?_
  refine Do.region [0,1,6,7,9,11,12] true ?_
  simp [go_sem, mask32, bx, hy64, hxl, hxh, hyl, hyh, b0, b1, b2, b3, b4, b5, b6, b7]
  apply k8_; clear k8_
  refine Do.seqk fun _ k9_ => ?_
  refine Do.region [0,1,6,7,9,12,13] true ?_
  simp [go_sem, mask32, bx, hy64, hxl, hxh, hyl, hyh, b0, b1, b2, b3, b4, b5, b6, b7]
  repeat (refine And.intro (by first | omega | (intros; omega) | (intros; exact And.intro (by assumption) (by omega)) | grind) ?_)
  apply k9_; clear k9_
  refine Do.seqk fun _ k10_ => ?_
  refine Do.region [0,1,7,9,12,13] true ?_
  simp [go_sem, mask32, bx, hy64, hxl, hxh, hyl, hyh, b0, b1, b2, b3, b4, b5, b6, b7]
  repeat (refine And.intro (by first | omega | (intros; omega) | (intros; exact And.intro (by assumption) (by omega)) | grind) ?_)
  apply k10_; clear k10_
  refine Do.seqk fun _ k11_ => ?_
  refine Do.region [0,1,4] true ?_
  simp [go_sem, mask32, bx, hy64, hxl, hxh, hyl, hyh, b0, b1, b2, b3, b4, b5, b6, b7]
  repeat (refine And.intro (by first | omega | (intros; omega) | (intros; exact And.intro (by assumption) (by omega)) | grind) ?_)
  apply k11_; clear k11_
  refine Do.seqk fun _ k12_ => ?_
  refine Do.region [4,5] false ?_
  simp [go_sem, mask32, bx, hy64, hxl, hxh, hyl, hyh, b0, b1, b2, b3, b4, b5, b6, b7]
  repeat (refine And.intro (by first | omega | (intros; omega) | (intros; exact And.intro (by assumption) (by omega)) | grind) ?_)
  apply k12_; clear k12_
  refine Do.ret ?_
  simp [endQ, rets, ret1, go_sem, mask32, bx, hy64, hxl, hxh, hyl, hyh, b0, b1, b2, b3, b4, b5, b6, b7]
  repeat (refine And.intro (by first | omega | (intros; omega) | (intros; exact And.intro (by assumption) (by omega)) | grind) ?_)
  rw [hhi]
  exact TLe.refl _
theorem mul_step {p q c hi lo l1 c1 l2 c2 : Nat} (hp : p ≤ 340282366920938463426481119284349108225) (hq : q < 18446744073709551616) (hc : c < 18446744073709551616)
    (e1 : p / 18446744073709551616 = hi) (e2 : p % 18446744073709551616 = lo) (e3 : (lo + q + 0) % 18446744073709551616 = l1) (e4 : (lo + q + 0) / 18446744073709551616 = c1) (e5 : (l1 + c + 0) % 18446744073709551616 = l2) (e6 : (l1 + c + 0) / 18446744073709551616 = c2) :
    (c + q + p) % 18446744073709551616 = l2 ∧ (c + q + p) / 18446744073709551616 = hi + c1 + c2 ∧ hi + c1 < 18446744073709551616 ∧ hi + c1 + c2 < 18446744073709551616 := by omega
theorem WMul_does {x y : List Nat} (hx : x.length < 536870912) (hy : y.length < 536870912) (wx : Ws x) (wy : Ws y) : Does Tryz.prog G 134 [Wd x, Wd y] (.v (Wn (nat (val x * val y)))) := by
  have hvx := @view_does G x (by unfold Sh; omega)
  have hvy := @view_does G y (by unfold Sh; omega)
  have hlx := norm_length x
  have hly := norm_length y
  have ltx := val_lt (norm_ws wx)
  have lty := val_lt (norm_ws wy)
  rw [val_norm] at ltx lty
  obtain ⟨j, hj⟩ : ∃ j, (norm x).length = j := ⟨_, rfl⟩
  obtain ⟨k, hk⟩ : ∃ k, (norm y).length = k := ⟨_, rfl⟩
  have ea : norm x = wds (val x) j := by rw [← hj, ← val_norm x]; exact (wds_of (norm_ws wx)).symm
  have eb : norm y = wds (val y) k := by rw [← hk, ← val_norm y]; exact (wds_of (norm_ws wy)).symm
  rw [hj] at ltx hlx
  rw [hk] at lty hly
  rw [ea] at hvx
  rw [eb] at hvy
  clear ea eb hj hk
  generalize val x = A at *
  generalize val y = B at *
  have hend := @tpw_end A B j ltx
  have hst := fun i => @TimesW.start A B k i lty
  have hout := fun i Q c (h : TimesW A B k i k Q c) hi => @TimesW.out A B j k i Q c h lty hi
  have hT := @Trim_does G (wds (A * B) (j + k)) (by unfold Sh; rw [wds_len]; omega) (wds_ws _ _)
  rw [val_wds, Nat.mod_eq_of_lt (by rw [Nat.pow_add]; exact Nat.mul_lt_mul'' ltx lty)] at hT
  have hz : j = 0 ∨ k = 0 → A * B = 0 := by
    rintro (h | h)
    · subst h; have : A = 0 := by simpa using ltx
      rw [this, Nat.zero_mul]
    · subst h; have : B = 0 := by simpa using lty
      rw [this, Nat.mul_zero]
  clear ltx lty
  refine Does.of (nt := 93) Tryz.func134 rfl rfl rfl (by simp) ?_
  simp only [argTm, PV.ext, Ce.ext]
  refine Do.seqk fun _ k1_ => ?_
  refine Do.region [0,1] true ?_
  simp [go_sem, wds_len, -List.reduceReplicate]
  apply k1_; clear k1_
  refine Do.seqk fun _ k2_ => ?_
  refine Do.region [0,1] true ?_
  simp [go_sem, wds_len, -List.reduceReplicate]
  refine DoL.call true 102 rfl rfl rfl rfl (by first | exact trivial | omega | (simp; done) | (simp; omega)) (hvx) rfl (by first | exact .inl rfl | exact .inr rfl) rfl ?_
  simp [go_sem, wds_len, -List.reduceReplicate]
  refine DoL.call true 104 rfl rfl rfl rfl (by first | exact trivial | omega | (simp; done) | (simp; omega)) (hvy) rfl (by first | exact .inl rfl | exact .inr rfl) rfl ?_
  simp [go_sem, wds_len, -List.reduceReplicate]
  apply k2_; clear k2_
  refine Do.seqk fun _ k3_ => ?_
  refine Do.seqk fun _ k4_ => ?_
  refine Do.region [0,1,25] true ?_
  simp [go_sem, wds_len, -List.reduceReplicate]
  repeat (refine And.intro (by first | omega | (intros; omega) | (intros; exact And.intro (by assumption) (by omega)) | grind) ?_)
  apply k4_; clear k4_
  refine Do.cond [0,1] rfl (fun h0 => ?_) (fun h0 => ?_) <;> simp [go_sem, wds_len, -List.reduceReplicate] at h0 ⊢
  · refine Do.seqk fun _ k5_ => ?_
    refine Do.region [4] true ?_
    simp [go_sem, wds_len, -List.reduceReplicate]
    apply k5_; clear k5_
    refine Do.ret ?_
    simp [endQ, rets, ret1, go_sem, wds_len, -List.reduceReplicate]
    repeat (refine And.intro (by first | omega | (intros; omega) | (intros; exact And.intro (by assumption) (by omega)) | grind) ?_)
    rw [hz (by omega), nat_zero]
    exact TLe.v (PLe.z true)
  · refine Do.skip ?_
    simp [go_sem]
    apply k3_; clear k3_
    refine Do.seqk fun _ k6_ => ?_
    refine Do.region [0,1,5] true ?_
    simp [go_sem, wds_len, -List.reduceReplicate]
    repeat (refine And.intro (by first | omega | (intros; omega) | (intros; exact And.intro (by assumption) (by omega)) | grind) ?_)
    apply k6_; clear k6_
    refine Do.seqk fun _ k7_ => ?_
    refine Do.seqk fun _ k8_ => ?_
    refine Do.region [1,5,32,33,34] true ?_
    simp [go_sem, wds_len, -List.reduceReplicate]
    repeat (refine And.intro (by first | omega | (intros; omega) | (intros; exact And.intro (by assumption) (by omega)) | grind) ?_)
    apply k8_; clear k8_
    refine Do.block ?_
    rw [show ((j : Int) + k).toNat = j + k by omega, wds_zero]
    refine Do.loopF [1,5,32,33,34] (fun (i : Nat) => [(34, .int .i64 i)]) (fun (i : Nat) => [(405, .wr (wds (tpw A B i) (j + k)))]) (fun (i : Nat) => i ≤ j) (fun (i : Nat) => j - i) (0) (fun _ => by first | (simp [go_sem, mixS]; done) | (simp [go_sem, mixS]; rfl)) (St.le_of (by simp [keep, tpw_zero]) (by simp [keep, tpw_zero])) (Nat.zero_le _) ?_
    intro i hi
    refine Do.seqk fun _ k9_ => ?_
    refine Do.region [1,5,32,33,34,35] true ?_
    simp [go_sem, wds_len, -List.reduceReplicate]
    apply k9_; clear k9_
    refine Do.seqk fun _ k10_ => ?_
    refine Do.cond [1,5,32,33,34] rfl (fun h => ?_) (fun h => ?_) <;> simp [go_sem, wds_len, -List.reduceReplicate] at h ⊢
    · have g2 := @wds_dgw j A i h
      have la := dgw_lt A i
      refine Do.skip ?_
      simp [go_sem]
      apply k10_; clear k10_
      refine Do.seqk fun _ k11_ => ?_
      refine Do.block ?_
      refine Do.seqk fun _ k12_ => ?_
      refine Do.region [1,5,6,7,32,33,34] true ?_
      simp [go_sem, g2, wds_len]
      repeat (refine And.intro (by first | omega | (intros; omega) | (intros; exact And.intro (by assumption) (by omega)) | grind) ?_)
      apply k12_; clear k12_
      refine Do.seqk fun _ k13_ => ?_
      refine Do.region [1,5,6,7,8,32,33,34] true ?_
      simp [go_sem, g2, wds_len]
      apply k13_; clear k13_
      refine Do.seqk fun _ k14_ => ?_
      refine Do.seqk fun _ k15_ => ?_
      refine Do.region [1,5,6,7,8,32,33,34,39,40,41] true ?_
      simp [go_sem, g2, wds_len]
      repeat (refine And.intro (by first | omega | (intros; omega) | (intros; exact And.intro (by assumption) (by omega)) | grind) ?_)
      apply k15_; clear k15_
      refine Do.block ?_
      refine Do.loopF [1,5,6,7,8,32,33,34,39,40,41] (fun (s : Nat × Nat × Nat) => [(8, .v (.c (.n s.2.2))), (41, .int .i64 s.1)]) (fun (s : Nat × Nat × Nat) => [(405, .wr (wds s.2.1 (j + k)))]) (fun (s : Nat × Nat × Nat) => s.1 ≤ k ∧ TimesW A B k i s.1 s.2.1 s.2.2) (fun (s : Nat × Nat × Nat) => k - s.1) ((0, tpw A B i, 0)) (fun _ => by first | (simp [go_sem, mixS]; done) | (simp [go_sem, mixS]; rfl)) (St.le_of (by first | rfl | simp [keep]) (by first | rfl | simp [keep])) (⟨Nat.zero_le _, hst i⟩) ?_
      rintro ⟨t, Q, c⟩ ⟨ht, hI⟩
      simp only at ht hI
      refine Do.seqk fun _ k16_ => ?_
      refine Do.region [1,5,6,7,8,32,33,34,39,40,41,42] true ?_
      simp [go_sem, g2, wds_len]
      apply k16_; clear k16_
      refine Do.seqk fun _ k17_ => ?_
      refine Do.cond [1,5,6,7,8,32,33,34,39,40,41] rfl (fun h2 => ?_) (fun h2 => ?_) <;> simp [go_sem, g2, wds_len] at h2 ⊢
      · obtain ⟨hb1, Q', e1, hI'⟩ := hI.next h h2
        have g1 := @wds_dgw (j + k) Q (i + t) (by omega)
        have g3 := @wds_dgw k B t h2
        have lq := dgw_lt Q (i + t)
        have lb := dgw_lt B t
        have l2 := mul_lt_sqW (dgw_lt A i) (dgw_lt B t)
        have hc := hI.2.2
        have hM := @Mul64_does G _ _ la lb
        obtain ⟨hh, eh⟩ : ∃ h, dgw A i * dgw B t / 18446744073709551616 = h := ⟨_, rfl⟩
        obtain ⟨lo, el⟩ : ∃ h, dgw A i * dgw B t % 18446744073709551616 = h := ⟨_, rfl⟩
        have hA1 := @Add64_does G lo (dgw Q (i + t)) 0 (Nat.zero_le _)
        obtain ⟨l1, e3⟩ : ∃ h, (lo + dgw Q (i + t) + 0) % 18446744073709551616 = h := ⟨_, rfl⟩
        obtain ⟨c1, e4⟩ : ∃ h, (lo + dgw Q (i + t) + 0) / 18446744073709551616 = h := ⟨_, rfl⟩
        have hA2 := @Add64_does G l1 c 0 (Nat.zero_le _)
        obtain ⟨w2, e5⟩ : ∃ h, (l1 + c + 0) % 18446744073709551616 = h := ⟨_, rfl⟩
        obtain ⟨c2, e6⟩ : ∃ h, (l1 + c + 0) / 18446744073709551616 = h := ⟨_, rfl⟩
        obtain ⟨s1, s2, s3, s4⟩ := mul_step l2 lq hc eh el e3 e4 e5 e6
        rw [eh, el] at hM
        rw [e3, e4] at hA1
        rw [e5, e6] at hA2
        rw [s1] at e1
        rw [s2] at hI'
        have b1 : hh + c1 < M64 := s3
        have b2 : hh + c1 + c2 < M64 := s4
        refine Do.skip ?_
        simp [go_sem]
        apply k17_; clear k17_
        refine Do.seqk fun _ k18_ => ?_
        refine Do.block ?_
        refine Do.seqk fun _ k19_ => ?_
        refine Do.region [1,5,6,7,8,9,10,32,33,34,39,40,41] true ?_
        simp [go_sem, g1, g2, g3, wds_len, b1, b2, show ((i : Int) + t).toNat = i + t by omega]
        repeat (refine And.intro (by first | omega | (intros; omega) | (intros; exact And.intro (by assumption) (by omega)) | grind) ?_)
        apply k19_; clear k19_
        refine Do.seqk fun _ k20_ => ?_
        refine Do.region [1,5,6,7,8,9,11,12,32,33,34,39,40,41] true ?_
        simp [go_sem, g1, g2, g3, wds_len, b1, b2, show ((i : Int) + t).toNat = i + t by omega]
        refine DoL.call true 1203 rfl rfl rfl rfl (by first | exact trivial | omega | (simp; done) | (simp; omega)) (hM) rfl (by first | exact .inl rfl | exact .inr rfl) rfl ?_
        simp [go_sem, g1, g2, g3, wds_len, b1, b2, show ((i : Int) + t).toNat = i + t by omega]
        apply k20_; clear k20_
        refine Do.seqk fun _ k21_ => ?_
        refine Do.region [1,5,6,7,8,9,11,12,32,33,34,39,40,41] true ?_
        simp [go_sem, g1, g2, g3, wds_len, b1, b2, show ((i : Int) + t).toNat = i + t by omega]
        apply k21_; clear k21_
        refine Do.seqk fun _ k22_ => ?_
        refine Do.region [1,5,6,7,8,9,11,12,13,32,33,34,39,40,41] true ?_
        simp [go_sem, g1, g2, g3, wds_len, b1, b2, show ((i : Int) + t).toNat = i + t by omega]
        repeat (refine And.intro (by first | omega | (intros; omega) | (intros; exact And.intro (by assumption) (by omega)) | grind) ?_)
        refine DoL.call true 1408 rfl rfl rfl rfl (by first | exact trivial | omega | (simp; done) | (simp; omega)) (hA1) rfl (by first | exact .inl rfl | exact .inr rfl) rfl ?_
        simp [go_sem, g1, g2, g3, wds_len, b1, b2, show ((i : Int) + t).toNat = i + t by omega]
        apply k22_; clear k22_
        refine Do.seqk fun _ k23_ => ?_
        refine Do.region [1,5,6,7,8,9,11,12,32,33,34,39,40,41] true ?_
        simp [go_sem, g1, g2, g3, wds_len, b1, b2, show ((i : Int) + t).toNat = i + t by omega]
        repeat (refine And.intro (by first | omega | (intros; omega) | (intros; exact And.intro (by assumption) (by omega)) | grind) ?_)
        apply k23_; clear k23_
        refine Do.seqk fun _ k24_ => ?_
        refine Do.region [1,5,6,7,9,11,12,13,32,33,34,39,40,41] true ?_
        simp [go_sem, g1, g2, g3, wds_len, b1, b2, show ((i : Int) + t).toNat = i + t by omega]
        refine DoL.call true 1603 rfl rfl rfl rfl (by first | exact trivial | omega | (simp; done) | (simp; omega)) (hA2) rfl (by first | exact .inl rfl | exact .inr rfl) rfl ?_
        simp [go_sem, g1, g2, g3, wds_len, b1, b2, show ((i : Int) + t).toNat = i + t by omega]
        apply k24_; clear k24_
        refine Do.seqk fun _ k25_ => ?_
        refine Do.region [1,5,6,7,9,11,12,32,33,34,39,40,41] true ?_
        simp [go_sem, g1, g2, g3, wds_len, b1, b2, show ((i : Int) + t).toNat = i + t by omega]
        repeat (refine And.intro (by first | omega | (intros; omega) | (intros; exact And.intro (by assumption) (by omega)) | grind) ?_)
        apply k25_; clear k25_
        refine Do.region [1,5,6,7,8,32,33,34,39,40,41] true ?_
        simp [go_sem, g1, g2, g3, wds_len, b1, b2, show ((i : Int) + t).toNat = i + t by omega]
        repeat (refine And.intro (by first | omega | (intros; omega) | (intros; exact And.intro (by assumption) (by omega)) | grind) ?_)
        apply k18_; clear k18_
        refine Do.region [1,5,6,7,8,32,33,34,39,40,41] true ?_
        simp [go_sem, g1, g2, g3, wds_len, b1, b2, show ((i : Int) + t).toNat = i + t by omega]
        repeat (refine And.intro (by first | omega | (intros; omega) | (intros; exact And.intro (by assumption) (by omega)) | grind) ?_)
        refine ⟨(t + 1, Q', hh + c1 + c2), St.le_of rfl (by simp [keep, e1]), ⟨by omega, hI'⟩, by simp; omega⟩
      · obtain rfl : t = k := by omega
        have ho := hout i Q c hI h
        refine Do.exit ?_
        simp [go_sem]
        apply k14_; clear k14_
        refine Do.region [1,5,32,33,34] true ?_
        simp [go_sem, wds_len, show ((i : Int) + t).toNat = i + t by omega]
        repeat (refine And.intro (by first | omega | (intros; omega) | (intros; exact And.intro (by assumption) (by omega)) | grind) ?_)
        apply k11_; clear k11_
        refine Do.region [1,5,32,33,34] true ?_
        simp [go_sem, wds_len, show ((i : Int) + t).toNat = i + t by omega]
        repeat (refine And.intro (by first | omega | (intros; omega) | (intros; exact And.intro (by assumption) (by omega)) | grind) ?_)
        refine ⟨i + 1, St.le_of rfl (by simp [keep, ho]), by omega, by simp; omega⟩
    · obtain rfl : i = j := by omega
      rw [hend]
      refine Do.exit ?_
      simp [go_sem]
      apply k7_; clear k7_
      refine Do.seqk fun _ k26_ => ?_
      refine Do.frz 405 rfl ?_
      simp [go_sem, wds_len]
      refine Do.region [4] true ?_
      simp [go_sem, wds_len, -List.reduceReplicate]
      refine DoL.call true 2202 rfl rfl rfl rfl (by first | exact trivial | omega | (simp; done) | (simp; omega)) (hT) rfl (by first | exact .inl rfl | exact .inr rfl) rfl ?_
      simp [go_sem, wds_len, -List.reduceReplicate]
      apply k26_; clear k26_
      refine Do.ret ?_
      simp [endQ, rets, ret1, go_sem, wds_len, -List.reduceReplicate]
      repeat (refine And.intro (by first | omega | (intros; omega) | (intros; exact And.intro (by assumption) (by omega)) | grind) ?_)
      exact TLe.refl _
theorem NTimes_does {a b : Nu} (ha : (nat a.v).length < 536870912) (hb : (nat b.v).length < 536870912) (h1 : -4294967296 ≤ a.e ∧ a.e ≤ 4294967296) (h2 : -4294967296 ≤ b.e ∧ b.e ≤ 4294967296) : Does Tryz.prog G 86 [a.pv, b.pv] (.v (Nm (!a.n == b.n) (nat (a.v * b.v)) (a.e + b.e))) := by
  obtain ⟨an, av, ae⟩ := a
  obtain ⟨bn, bv, be⟩ := b
  have hM := @WMul_does G (nat av) (nat bv) ha hb (nat_ws _) (nat_ws _)
  rw [val_nat, val_nat] at hM
  generalize av * bv = cv at *
  refine Does.of (nt := 21) Tryz.func86 rfl rfl rfl (by simp) ?_
  simp only [argTm, PV.ext, Ce.ext]
  refine Do.seqk fun _ k1_ => ?_
  refine Do.region [2,3,4] true ?_
  simp [go_sem]
  apply k1_; clear k1_
  refine Do.seqk fun _ k2_ => ?_
  refine Do.draw [4] true (by kernel_rfl) ?_
  simp [go_sem]
  repeat (refine And.intro (by first | omega | (intros; omega) | (intros; exact And.intro (by assumption) (by omega)) | kernel_rfl | grind) ?_)
  refine DoLD.call true 110 rfl rfl rfl rfl (by first | exact trivial | omega | (simp; done) | (simp; omega)) (hM) rfl (by first | exact .inl rfl | exact .inr rfl) rfl ?_
  simp [go_sem]
  repeat (refine And.intro (by first | omega | (intros; omega) | (intros; exact And.intro (by assumption) (by omega)) | kernel_rfl | grind) ?_)
  try (refine And.intro (by kernel_rfl) ?_)
  apply k2_; clear k2_
  refine Do.ret ?_
  simp [endQ, rets, ret1, go_sem]
  repeat (refine And.intro (by first | omega | (intros; omega) | (intros; exact And.intro (by assumption) (by omega)) | grind) ?_)
  exact TLe.v (PLe.nu (PLe.ext _))
end Go.Proofs.YthpkhmbjmnhmoaaGreatDoor
/- A rounding without flags: the number is one of the format. No condition. -/
namespace Go.Proofs.YthpkhmbjmnhmoaaGreatDoor
set_option linter.unusedVariables false
set_option linter.unusedSimpArgs false
set_option maxHeartbeats 4000000
set_option maxRecDepth 10000
end Go.Proofs.YthpkhmbjmnhmoaaGreatDoor
/- The reference's products. No condition. -/
namespace Go.Proofs.YthpkhmbjmnhmoaaGreatDoor
set_option linter.unusedVariables false
set_option linter.unusedSimpArgs false
variable {G : Gl}
set_option maxHeartbeats 4000000
set_option maxRecDepth 10000
theorem prodF_rc (x y : Flt) : prodF (rcanon x) (rcanon y) = prodF x y := by
  unfold prodF
  simp only [rcanon_k, rcanon_n, rcanon_idem]
/-- What a product of right floats is like. -/
structure Pr (x : Flt) : Prop where
  e : x.k = 1 → -2200000 ≤ x.e ∧ x.e ≤ 2200000
  v : bl x.v ≤ 600000
  pos : x.k = 1 → x.v ≠ 0
  e0 : x.k ≠ 1 → x.e = 0
theorem Rt.rc {x : Fla} (h : Rt x) : bl (rcanon x.flt).v ≤ 262144 ∧ (x.k = 1 → -1048576 ≤ (rcanon x.flt).e ∧ (rcanon x.flt).e ≤ 1048576 ∧ (rcanon x.flt).v ≠ 0) := by
  refine ⟨?_, fun hk => ?_⟩
  · have hb := bl_le_len h.ws (rv_le (k := x.k) (n := x.n) (e := x.e))
    have := h.len
    show bl (rcanon ⟨x.k, x.n, x.e, val x.m⟩).v ≤ 262144
    omega
  · have h1 := canon_one h.can hk
    refine ⟨?_, ?_, (Cf.of h.can).pos (by rw [rcanon_k]; exact hk)⟩
    · simp only [rcanon, show x.flt.k = 1 from hk, if_true]; omega
    · simp only [rcanon, show x.flt.k = 1 from hk, if_true]; omega
theorem bl_mul_le (x y : Nat) : bl (x * y) ≤ bl x + bl y := by
  rw [bl_lt, Nat.pow_add]
  rcases Nat.eq_zero_or_pos y with h | h
  · subst h; rw [Nat.mul_zero]; exact Nat.mul_pos (Nat.pow_pos (by decide)) (Nat.pow_pos (by decide))
  · exact Nat.mul_lt_mul'' (bl_self x) (bl_self y)
theorem prodF_pr {x y : Fla} (hx : Rt x) (hy : Rt y) : Pr (prodF x.flt y.flt).1 := by
  obtain ⟨a1, a2⟩ := hx.rc
  obtain ⟨b1, b2⟩ := hy.rc
  have hm := bl_mul_le (rcanon x.flt).v (rcanon y.flt).v
  unfold prodF
  split
  · exact ⟨by simp, by simp [bl_zero], by simp, by simp⟩
  · split
    · exact ⟨by simp, by simp [bl_zero], by simp, by simp⟩
    · split
      · exact ⟨by simp, by simp [bl_zero], by simp, by simp⟩
      · split
        · exact ⟨by simp, by simp [bl_zero], by simp, by simp⟩
        · rename_i h1 h2 h3 h4
          have k1 : x.k = 1 := by have := (canon_kind hx.can).1; simp only [Fla.flt] at *; omega
          have k2 : y.k = 1 := by have := (canon_kind hy.can).1; simp only [Fla.flt] at *; omega
          obtain ⟨c1, c2, c3⟩ := a2 k1
          obtain ⟨d1, d2, d3⟩ := b2 k2
          refine ⟨fun _ => ⟨by simp only []; omega, by simp only []; omega⟩, by simp only []; omega, fun _ => ?_, by simp⟩
          simp only [ne_eq, Nat.mul_eq_zero, not_or]
          exact ⟨c3, d3⟩
theorem Product_does {x y : Fla} (hx : Rt x) (hy : Rt y) : Does Tryz.prog G 44 [Fl x.k x.n x.e x.m, Fl y.k y.n y.e y.m] (.t [(prodF x.flt y.flt).1.pw, .c (.b (prodF x.flt y.flt).2)]) := by
  have hcx : Does Tryz.prog G 73 [Fl x.k x.n x.e x.m] (.v (rcanon x.flt).pw) := @Canonical_new G x.k x.e x.n x.m (by have := hx.len; omega) hx.ws hx.md
  have hcy : Does Tryz.prog G 73 [Fl y.k y.n y.e y.m] (.v (rcanon y.flt).pw) := @Canonical_new G y.k y.e y.n y.m (by have := hy.len; omega) hy.ws hy.md
  obtain ⟨a1, a2⟩ := hx.rc
  obtain ⟨b1, b2⟩ := hy.rc
  have hz : prodF x.flt y.flt = prodF x.flt y.flt := rfl
  conv at hz => rhs; unfold prodF
  have ex : x.flt.k = x.k ∧ x.flt.n = x.n := ⟨rfl, rfl⟩
  have ey : y.flt.k = y.k ∧ y.flt.n = y.n := ⟨rfl, rfl⟩
  rw [ex.1, ex.2, ey.1, ey.2] at hz
  have hM := @RMul_does G (nat (rcanon x.flt).v) (nat (rcanon y.flt).v) (by have := len_bl a1; omega) (nat_ws _) (by have := len_bl b1; omega) (nat_ws _)
  rw [val_nat, val_nat] at hM
  generalize prodF x.flt y.flt = z at *
  have kx := (canon_kind hx.can).1
  have ky := (canon_kind hy.can).1
  rw [ex.1] at kx
  rw [ey.1] at ky
  refine Does.of (nt := 80) Tryz.func44 rfl rfl rfl (by simp) ?_
  simp only [argTm, PV.ext, Ce.ext]
  refine Do.seqk fun _ k1_ => ?_
  refine Do.region [2,3,4] true ?_
  simp [go_sem]
  apply k1_; clear k1_
  refine Do.seqk fun _ k2_ => ?_
  refine Do.region [2,3,4,6] true ?_
  simp [go_sem]
  repeat (refine And.intro (by first | omega | (intros; omega) | (intros; exact And.intro (by assumption) (by omega)) | grind) ?_)
  apply k2_; clear k2_
  refine Do.seqk fun _ k3_ => ?_
  refine Do.block ?_
  refine Do.seqk fun _ k4_ => ?_
  refine Do.region [2,3,4,6,12] true ?_
  simp [go_sem]
  repeat (refine And.intro (by first | omega | (intros; omega) | (intros; exact And.intro (by assumption) (by omega)) | grind) ?_)
  apply k4_; clear k4_
  refine Do.cond [2,3,4,6] rfl (fun h1 => ?_) (fun h1 => ?_) <;> simp [go_sem] at h1 ⊢
  · refine Do.seqk fun _ k5_ => ?_
    refine Do.region [4,5] true ?_
    simp [go_sem]
    repeat (refine And.intro (by first | omega | (intros; omega) | (intros; exact And.intro (by assumption) (by omega)) | grind) ?_)
    apply k5_; clear k5_
    refine Do.ret ?_
    simp [endQ, rets, ret1, go_sem]
    repeat (refine And.intro (by first | omega | (intros; omega) | (intros; exact And.intro (by assumption) (by omega)) | grind) ?_)
    rw [hz, if_pos h1]
    exact TLe.t (.cons (PLe.flw (ret_zw rfl)) (.cons (PLe.refl _) .nil))
  · refine Do.seqk fun _ k6_ => ?_
    refine Do.region [2,3,4,6,22] true ?_
    simp [go_sem]
    repeat (refine And.intro (by first | omega | (intros; omega) | (intros; exact And.intro (by assumption) (by omega)) | grind) ?_)
    apply k6_; clear k6_
    refine Do.cond [2,3,4,6] rfl (fun h2 => ?_) (fun h2 => ?_) <;> simp [go_sem] at h2 ⊢
    · refine Do.seqk fun _ k7_ => ?_
      refine Do.region [4,5] true ?_
      simp [go_sem]
      repeat (refine And.intro (by first | omega | (intros; omega) | (intros; exact And.intro (by assumption) (by omega)) | grind) ?_)
      apply k7_; clear k7_
      refine Do.ret ?_
      simp [endQ, rets, ret1, go_sem]
      repeat (refine And.intro (by first | omega | (intros; omega) | (intros; exact And.intro (by assumption) (by omega)) | grind) ?_)
      rw [hz, if_neg (by omega), if_pos (by omega)]
      exact TLe.t (.cons (PLe.flw (ret_zw rfl)) (.cons (PLe.refl _) .nil))
    · refine Do.seqk fun _ k8_ => ?_
      refine Do.region [2,3,4,6,42] true ?_
      simp [go_sem]
      repeat (refine And.intro (by first | omega | (intros; omega) | (intros; exact And.intro (by assumption) (by omega)) | grind) ?_)
      apply k8_; clear k8_
      refine Do.cond [2,3,4,6] rfl (fun h3 => ?_) (fun h3 => ?_) <;> simp [go_sem] at h3 ⊢
      · refine Do.seqk fun _ k9_ => ?_
        refine Do.region [4,5] true ?_
        simp [go_sem]
        repeat (refine And.intro (by first | omega | (intros; omega) | (intros; exact And.intro (by assumption) (by omega)) | grind) ?_)
        apply k9_; clear k9_
        refine Do.ret ?_
        simp [endQ, rets, ret1, go_sem]
        repeat (refine And.intro (by first | omega | (intros; omega) | (intros; exact And.intro (by assumption) (by omega)) | grind) ?_)
        rw [hz, if_neg (by omega), if_neg (by omega), if_pos (by omega)]
        exact TLe.t (.cons (PLe.flw (ret_zw rfl)) (.cons (PLe.refl _) .nil))
      · refine Do.seqk fun _ k10_ => ?_
        refine Do.region [2,3,4,6,53] true ?_
        simp [go_sem]
        repeat (refine And.intro (by first | omega | (intros; omega) | (intros; exact And.intro (by assumption) (by omega)) | grind) ?_)
        apply k10_; clear k10_
        refine Do.cond [2,3,4,6] rfl (fun h4 => ?_) (fun h4 => ?_) <;> simp [go_sem] at h4 ⊢
        · refine Do.seqk fun _ k11_ => ?_
          refine Do.region [4,5] true ?_
          simp [go_sem]
          repeat (refine And.intro (by first | omega | (intros; omega) | (intros; exact And.intro (by assumption) (by omega)) | grind) ?_)
          apply k11_; clear k11_
          refine Do.ret ?_
          simp [endQ, rets, ret1, go_sem]
          repeat (refine And.intro (by first | omega | (intros; omega) | (intros; exact And.intro (by assumption) (by omega)) | grind) ?_)
          rw [hz, if_neg (by omega), if_neg (by omega), if_neg (by omega), if_pos (by omega)]
          exact TLe.t (.cons (PLe.flw (ret_zw rfl)) (.cons (PLe.refl _) .nil))
        · have k1 : x.k = 1 := by omega
          have k2 : y.k = 1 := by omega
          have c1 := a2 k1
          have c2 := b2 k2
          refine Do.skip ?_
          simp [go_sem]
          apply k3_; clear k3_
          refine Do.seqk fun _ k12_ => ?_
          refine Do.draw [2,3,4,6] true (by kernel_rfl) ?_
          simp [go_sem]
          repeat (refine And.intro (by first | omega | (intros; omega) | (intros; exact And.intro (by assumption) (by omega)) | kernel_rfl | grind) ?_)
          refine DoLD.call true 1002 rfl rfl rfl rfl (by first | exact trivial | omega | (simp; done) | (simp; omega)) (hcx) rfl (by first | exact .inl rfl | exact .inr rfl) rfl ?_
          simp [go_sem]
          repeat (refine And.intro (by first | omega | (intros; omega) | (intros; exact And.intro (by assumption) (by omega)) | kernel_rfl | grind) ?_)
          refine DoLD.call true 1004 rfl rfl rfl rfl (by first | exact trivial | omega | (simp; done) | (simp; omega)) (hcy) rfl (by first | exact .inl rfl | exact .inr rfl) rfl ?_
          simp [go_sem]
          repeat (refine And.intro (by first | omega | (intros; omega) | (intros; exact And.intro (by assumption) (by omega)) | kernel_rfl | grind) ?_)
          try (refine And.intro (by kernel_rfl) ?_)
          apply k12_; clear k12_
          refine Do.seqk fun _ k13_ => ?_
          refine Do.draw [4,5] true (by kernel_rfl) ?_
          simp [go_sem]
          repeat (refine And.intro (by first | omega | (intros; omega) | (intros; exact And.intro (by assumption) (by omega)) | kernel_rfl | grind) ?_)
          refine DoLD.call true 1111 rfl rfl rfl rfl (by first | exact trivial | omega | (simp; done) | (simp; omega)) (hM) rfl (by first | exact .inl rfl | exact .inr rfl) rfl ?_
          simp [go_sem]
          repeat (refine And.intro (by first | omega | (intros; omega) | (intros; exact And.intro (by assumption) (by omega)) | kernel_rfl | grind) ?_)
          try (refine And.intro (by kernel_rfl) ?_)
          apply k13_; clear k13_
          refine Do.ret ?_
          simp [endQ, rets, ret1, go_sem]
          repeat (refine And.intro (by first | omega | (intros; omega) | (intros; exact And.intro (by assumption) (by omega)) | grind) ?_)
          rw [hz, if_neg (by omega), if_neg (by omega), if_neg (by omega), if_neg (by omega)]
          exact TLe.refl _
end Go.Proofs.YthpkhmbjmnhmoaaGreatDoor
/- The program's products. No condition. -/
namespace Go.Proofs.YthpkhmbjmnhmoaaGreatDoor
set_option linter.unusedVariables false
set_option linter.unusedSimpArgs false
set_option maxHeartbeats 4000000
set_option maxRecDepth 10000
/-- A term as cells. -/
abbrev Tp (t : Bool × Int × Nu) : PV := .a [.b t.1, .i .i64 t.2.1, .b t.2.2.n, .w false (nat t.2.2.v), .i .i64 t.2.2.e]
theorem PLe.tp {t : Bool × Int × Nu} {a : Bool} {k : Int} {n : Bool} {c : Ce} {e : Int} (h : PLe (.c c) (.c (.w false (nat t.2.2.v)))) (h1 : (a, k, n, e) = (t.1, t.2.1, t.2.2.n, t.2.2.e)) : PLe (.a [.b a, .i .i64 k, .b n, c, .i .i64 e]) (Tp t) := by
  simp only [Prod.mk.injEq] at h1
  obtain ⟨rfl, rfl, rfl, rfl⟩ := h1
  exact PLe.agg (.cons (PLe.refl _) (.cons (PLe.refl _) (.cons (PLe.refl _) (.cons h (.cons (PLe.refl _) .nil)))))
theorem times_does {G : Gl} {x y : Flt} (hx : (nat x.v).length < 536870912) (hy : (nat y.v).length < 536870912) (h1 : -4294967296 ≤ x.e ∧ x.e ≤ 4294967296) (h2 : -4294967296 ≤ y.e ∧ y.e ≤ 4294967296) : Does Tryz.prog G 40 [x.pv, y.pv] (.v (Tp (timesP x y))) := by
  have hT := @NTimes_does G ⟨x.n, x.v, x.e⟩ ⟨y.n, y.v, y.e⟩ hx hy h1 h2
  have hz : timesP x y = timesP x y := rfl
  conv at hz => rhs; unfold timesP
  obtain ⟨xk, xn, xe, xv⟩ := x
  obtain ⟨yk, yn, ye, yv⟩ := y
  simp only [] at hz hT
  generalize timesP ⟨xk, xn, xe, xv⟩ ⟨yk, yn, ye, yv⟩ = z at *
  generalize xv * yv = p at *
  refine Does.of (nt := 59) Tryz.func40 rfl rfl rfl (by simp) ?_
  simp only [argTm, PV.ext, Ce.ext]
  refine Do.seqk fun _ k1_ => ?_
  refine Do.region [2,3,4] true ?_
  simp [go_sem]
  apply k1_; clear k1_
  refine Do.seqk fun _ k2_ => ?_
  refine Do.region [2,3,4,5] true ?_
  simp [go_sem]
  repeat (refine And.intro (by first | omega | (intros; omega) | (intros; exact And.intro (by assumption) (by omega)) | grind) ?_)
  apply k2_; clear k2_
  refine Do.seqk fun _ k3_ => ?_
  refine Do.block ?_
  refine Do.seqk fun _ k4_ => ?_
  refine Do.region [2,3,4,5,13] true ?_
  simp [go_sem]
  repeat (refine And.intro (by first | omega | (intros; omega) | (intros; exact And.intro (by assumption) (by omega)) | grind) ?_)
  apply k4_; clear k4_
  refine Do.cond [2,3,4,5] rfl (fun h1 => ?_) (fun h1 => ?_) <;> simp [go_sem] at h1 ⊢
  · refine Do.region [4,5] true ?_
    simp [go_sem]
    repeat (refine And.intro (by first | omega | (intros; omega) | (intros; exact And.intro (by assumption) (by omega)) | grind) ?_)
    apply k3_; clear k3_
    refine Do.seqk fun _ k5_ => ?_
    refine Do.region [4] true ?_
    simp [go_sem]
    repeat (refine And.intro (by first | omega | (intros; omega) | (intros; exact And.intro (by assumption) (by omega)) | grind) ?_)
    apply k5_; clear k5_
    refine Do.ret ?_
    simp [endQ, rets, ret1, go_sem]
    repeat (refine And.intro (by first | omega | (intros; omega) | (intros; exact And.intro (by assumption) (by omega)) | grind) ?_)
    rw [if_pos h1] at hz
    subst hz
    exact TLe.v (PLe.tp (ret_z rfl) rfl)
  · refine Do.seqk fun _ k6_ => ?_
    refine Do.region [2,3,4,5,23] true ?_
    simp [go_sem]
    repeat (refine And.intro (by first | omega | (intros; omega) | (intros; exact And.intro (by assumption) (by omega)) | grind) ?_)
    apply k6_; clear k6_
    refine Do.cond [2,3,4,5] rfl (fun h2 => ?_) (fun h2 => ?_) <;> simp [go_sem] at h2 ⊢
    · refine Do.seqk fun _ k7_ => ?_
      refine Do.region [2,3,4,5] true ?_
      simp [go_sem]
      repeat (refine And.intro (by first | omega | (intros; omega) | (intros; exact And.intro (by assumption) (by omega)) | grind) ?_)
      apply k7_; clear k7_
      refine Do.region [4,5] true ?_
      simp [go_sem]
      repeat (refine And.intro (by first | omega | (intros; omega) | (intros; exact And.intro (by assumption) (by omega)) | grind) ?_)
      apply k3_; clear k3_
      refine Do.seqk fun _ k8_ => ?_
      refine Do.region [4] true ?_
      simp [go_sem]
      repeat (refine And.intro (by first | omega | (intros; omega) | (intros; exact And.intro (by assumption) (by omega)) | grind) ?_)
      apply k8_; clear k8_
      refine Do.ret ?_
      simp [endQ, rets, ret1, go_sem]
      repeat (refine And.intro (by first | omega | (intros; omega) | (intros; exact And.intro (by assumption) (by omega)) | grind) ?_)
      rw [if_neg (by omega), if_pos h2] at hz
      subst hz
      exact TLe.v (PLe.tp (ret_z rfl) rfl)
    · refine Do.seqk fun _ k9_ => ?_
      refine Do.region [2,3,4,5,42] true ?_
      simp [go_sem]
      repeat (refine And.intro (by first | omega | (intros; omega) | (intros; exact And.intro (by assumption) (by omega)) | grind) ?_)
      apply k9_; clear k9_
      refine Do.cond [2,3,4,5] rfl (fun h3 => ?_) (fun h3 => ?_) <;> simp [go_sem] at h3 ⊢
      · refine Do.draw [4,5] true (by kernel_rfl) ?_
        simp [go_sem]
        repeat (refine And.intro (by first | omega | (intros; omega) | (intros; exact And.intro (by assumption) (by omega)) | kernel_rfl | grind) ?_)
        refine DoLD.call true 802 rfl rfl rfl rfl (by first | exact trivial | omega | (simp; done) | (simp; omega)) (Of_does) rfl (by first | exact .inl rfl | exact .inr rfl) rfl ?_
        simp [go_sem]
        repeat (refine And.intro (by first | omega | (intros; omega) | (intros; exact And.intro (by assumption) (by omega)) | kernel_rfl | grind) ?_)
        refine DoLD.call true 804 rfl rfl rfl rfl (by first | exact trivial | omega | (simp; done) | (simp; omega)) (Of_does) rfl (by first | exact .inl rfl | exact .inr rfl) rfl ?_
        simp [go_sem]
        refine DoLD.call true 805 rfl rfl rfl rfl (by first | exact trivial | omega | (simp; done) | (simp; omega)) (hT) rfl (by first | exact .inl rfl | exact .inr rfl) rfl ?_
        simp [go_sem]
        repeat (refine And.intro (by first | omega | (intros; omega) | (intros; exact And.intro (by assumption) (by omega)) | kernel_rfl | grind) ?_)
        try (refine And.intro (by kernel_rfl) ?_)
        apply k3_; clear k3_
        refine Do.seqk fun _ k10_ => ?_
        refine Do.region [4] true ?_
        simp [go_sem]
        repeat (refine And.intro (by first | omega | (intros; omega) | (intros; exact And.intro (by assumption) (by omega)) | grind) ?_)
        apply k10_; clear k10_
        refine Do.ret ?_
        simp [endQ, rets, ret1, go_sem]
        repeat (refine And.intro (by first | omega | (intros; omega) | (intros; exact And.intro (by assumption) (by omega)) | grind) ?_)
        rw [if_neg (by omega), if_neg (by omega), if_pos h3] at hz
        subst hz
        exact TLe.refl _
      · refine Do.skip ?_
        simp [go_sem]
        apply k3_; clear k3_
        refine Do.seqk fun _ k11_ => ?_
        refine Do.region [4] true ?_
        simp [go_sem]
        repeat (refine And.intro (by first | omega | (intros; omega) | (intros; exact And.intro (by assumption) (by omega)) | grind) ?_)
        apply k11_; clear k11_
        refine Do.ret ?_
        simp [endQ, rets, ret1, go_sem]
        repeat (refine And.intro (by first | omega | (intros; omega) | (intros; exact And.intro (by assumption) (by omega)) | grind) ?_)
        rw [if_neg (by omega), if_neg (by omega), if_neg (by omega)] at hz
        subst hz
        exact TLe.v (PLe.tp (ret_z rfl) rfl)
theorem round_does {f p r : Int} (hf : fmOk f p = true) (hr : 0 ≤ r) (hr' : r ≤ 4) {t : Bool × Int × Nu} (ht : t.2.1 = 1 → t.2.2.Ok) : Does Tryz.prog Gv 41 [Tp t, Fm f p, .c (.i .i64 r)] (.t [(roundT t f p r).1.pv, .c (.i .i64 (roundT t f p r).2)]) := by
  have hF := fun h => @NFloat_does f p r hf hr hr' t.2.2 false (ht h)
  have hz : roundT t f p r = roundT t f p r := rfl
  conv at hz => rhs; unfold roundT
  obtain ⟨a, k, n, v, e⟩ := t
  simp only [] at hz hF ht
  generalize roundT (a, k, ⟨n, v, e⟩) f p r = z at *
  refine Does.of (nt := 34) Tryz.func41 rfl rfl rfl (by simp) ?_
  simp only [argTm, PV.ext, Ce.ext]
  refine Do.seqk fun _ k1_ => ?_
  refine Do.region [2,3,4,6] true ?_
  simp [go_sem]
  apply k1_; clear k1_
  refine Do.seqk fun _ k2_ => ?_
  refine Do.block ?_
  refine Do.seqk fun _ k3_ => ?_
  refine Do.region [2,3,4,6,8] true ?_
  simp [go_sem]
  repeat (refine And.intro (by first | omega | (intros; omega) | (intros; exact And.intro (by assumption) (by omega)) | grind) ?_)
  apply k3_; clear k3_
  refine Do.cond [2,3,4,6] rfl (fun h1 => ?_) (fun h1 => ?_) <;> simp [go_sem] at h1 ⊢
  · refine Do.seqk fun _ k4_ => ?_
    refine Do.region [6,7] true ?_
    simp [go_sem]
    repeat (refine And.intro (by first | omega | (intros; omega) | (intros; exact And.intro (by assumption) (by omega)) | grind) ?_)
    apply k4_; clear k4_
    refine Do.ret ?_
    simp [endQ, rets, ret1, go_sem]
    repeat (refine And.intro (by first | omega | (intros; omega) | (intros; exact And.intro (by assumption) (by omega)) | grind) ?_)
    rw [if_pos h1] at hz
    subst hz
    exact TLe.t (.cons (PLe.flt (ret_z rfl)) (.cons (PLe.refl _) .nil))
  · refine Do.seqk fun _ k5_ => ?_
    refine Do.region [2,3,4,6,12] true ?_
    simp [go_sem]
    repeat (refine And.intro (by first | omega | (intros; omega) | (intros; exact And.intro (by assumption) (by omega)) | grind) ?_)
    apply k5_; clear k5_
    refine Do.cond [2,3,4,6] rfl (fun h2 => ?_) (fun h2 => ?_) <;> simp [go_sem] at h2 ⊢
    · refine Do.seqk fun _ k6_ => ?_
      refine Do.region [6,7] true ?_
      simp [go_sem]
      repeat (refine And.intro (by first | omega | (intros; omega) | (intros; exact And.intro (by assumption) (by omega)) | grind) ?_)
      apply k6_; clear k6_
      refine Do.ret ?_
      simp [endQ, rets, ret1, go_sem]
      repeat (refine And.intro (by first | omega | (intros; omega) | (intros; exact And.intro (by assumption) (by omega)) | grind) ?_)
      rw [if_neg (by simp [h1]), if_pos h2] at hz
      subst hz
      exact TLe.t (.cons (PLe.flt (ret_z rfl)) (.cons (PLe.refl _) .nil))
    · refine Do.seqk fun _ k7_ => ?_
      refine Do.region [2,3,4,6,17] true ?_
      simp [go_sem]
      repeat (refine And.intro (by first | omega | (intros; omega) | (intros; exact And.intro (by assumption) (by omega)) | grind) ?_)
      apply k7_; clear k7_
      refine Do.cond [2,3,4,6] rfl (fun h3 => ?_) (fun h3 => ?_) <;> simp [go_sem] at h3 ⊢
      · refine Do.seqk fun _ k8_ => ?_
        refine Do.region [6,7] true ?_
        simp [go_sem]
        repeat (refine And.intro (by first | omega | (intros; omega) | (intros; exact And.intro (by assumption) (by omega)) | grind) ?_)
        apply k8_; clear k8_
        refine Do.ret ?_
        simp [endQ, rets, ret1, go_sem]
        repeat (refine And.intro (by first | omega | (intros; omega) | (intros; exact And.intro (by assumption) (by omega)) | grind) ?_)
        rw [if_neg (by simp [h1]), if_neg h2, if_pos h3] at hz
        subst hz
        exact TLe.t (.cons (PLe.flt (ret_z rfl)) (.cons (PLe.refl _) .nil))
      · refine Do.skip ?_
        simp [go_sem]
        apply k2_; clear k2_
        refine Do.seqk fun _ k9_ => ?_
        refine Do.region [6,7] true ?_
        simp [go_sem]
        repeat (refine And.intro (by first | omega | (intros; omega) | (intros; exact And.intro (by assumption) (by omega)) | grind) ?_)
        refine DoL.call true 705 rfl rfl rfl rfl (by first | exact trivial | omega | (simp; done) | (simp; omega)) (hF (by omega)) rfl (by first | exact .inl rfl | exact .inr rfl) rfl ?_
        simp [go_sem]
        repeat (refine And.intro (by first | omega | (intros; omega) | (intros; exact And.intro (by assumption) (by omega)) | grind) ?_)
        apply k9_; clear k9_
        refine Do.ret ?_
        simp [endQ, rets, ret1, go_sem]
        repeat (refine And.intro (by first | omega | (intros; omega) | (intros; exact And.intro (by assumption) (by omega)) | grind) ?_)
        rw [if_neg (by simp [h1]), if_neg h2, if_neg (by omega)] at hz
        subst hz
        exact TLe.refl _
end Go.Proofs.YthpkhmbjmnhmoaaGreatDoor

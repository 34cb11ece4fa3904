/- The canonical floats of a call's arguments. No condition. What a sum is made of, and how a term is put in. No condition. Values that stand for an iterator over rows, and for a pointer to cells; a range over rows. No condition. What slices.Values and sum.gather compute. No condition. Sums, rounded. No condition. Total, Add and Sub. No condition. Digits of 32 bits, words of 64 bits. No condition. The digits of the reference. No condition. The natural numbers of the reference: canonical words, lengths. No condition. Bits and shifts of the reference. No condition. The floats of the reference. No condition. -/
import Derived.Test.YtbhokdhkfodpfaaGreatDoorMf
import Derived.RangeFuncNested
import Derived.RangeFuncLeaves
import Derived.RangeFuncCalls
import Derived.Shelf.Abstract
import Derived.OwnWalkIn
import Derived.TacticsInMore
import Derived.LoopNIn
import Derived.LoopIn
import Derived.Shelf.RegionOpen
import Derived.Test.YtbhokdhkfodpfaaGreatDoorMd
import Derived.Test.YtbhokdhkfodpfaaGreatDoorMe
/- The canonical floats of a call's arguments. No condition. -/
namespace Go.Proofs.YtbhokdhkfodpfaaGreatDoor
set_option linter.unusedVariables false
set_option linter.unusedSimpArgs false
set_option maxHeartbeats 2000000
/-- The error of a call's arguments. -/
def argsE (f p r : Int) (b : Bool) (l : List Fla) : Int :=
  if anyLarge l then 2 else if (decide (0 ≤ r) && decide (r ≤ 4) && !b) = false then 1 else if fmOk f p = false then 150 else if allHold f p l = false then 151 else 0
theorem notLarge {l : List Fla} (h : anyLarge l = false) : ∀ x ∈ l, x.m.length ≤ 4096 := fun x hx => by
  simp only [anyLarge, List.any_eq_false, decide_eq_true_eq] at h
  have := h x hx
  omega
theorem Args_rest {f p r e : Int} {b : Bool} {l : List Fla} (hl : l.length < 1099511627776) (h : ∀ x ∈ l, x.m.length ≤ 4096) (h0 : 0 ≤ r) (h4 : r ≤ 4) (hb : b = false) (hD : Does Tryz.prog Gv 60 [Fm f p, Rows l] (.t [.c .z, .c (.i .i64 e)])) : Does Tryz.prog Gv 65 [Fm f p, .c (.i .i64 r), .c (.b b), Rows l] (.t [.c .z, .c (.i .i64 e)]) := by
  subst hb
  refine Does.of (nt := 34) Tryz.func65 rfl rfl rfl (by simp) ?_
  simp only [argTm, PV.ext, Ce.ext]
  refine Do.seqk fun _ k1_ => ?_
  refine Do.region [1,2,3,4] true ?_
  simp [go_sem]
  apply k1_; clear k1_
  refine Do.seqk fun _ k2_ => ?_
  refine Do.seqk fun _ k3_ => ?_
  refine Do.region [1,2,3,4,12,13,14] true ?_
  simp [go_sem]
  repeat (refine And.intro (by first | omega | (intros; omega) | grind) ?_)
  apply k3_; clear k3_
  refine Do.block ?_
  refine Do.loopF [1,2,3,4,12,13,14] (fun (i : Nat) => [(14, .int .i64 i)]) (fun (i : Nat) => []) (fun (i : Nat) => i ≤ l.length) (fun (i : Nat) => l.length - i) (0) (fun _ => by first | (simp [go_sem, mixS]; done) | (simp [go_sem, mixS]; rfl)) (St.le_of (by first | rfl | simp [keep]) (by first | rfl | simp [keep])) (Nat.zero_le _) ?_
  intro i hi
  refine Do.seqk fun _ k4_ => ?_
  refine Do.region [1,2,3,4,12,13,14,15] true ?_
  simp [go_sem]
  apply k4_; clear k4_
  refine Do.seqk fun _ k5_ => ?_
  refine Do.cond [1,2,3,4,12,13,14] rfl (fun h2 => ?_) (fun h2 => ?_) <;> simp [go_sem] at h2 ⊢
  · obtain ⟨x, hx⟩ : ∃ x, l[i]? = some x := ⟨_, List.getElem?_eq_getElem h2⟩
    have hxm : x.m.length ≤ 4096 := h x (List.mem_of_getElem? hx)
    refine Do.skip ?_
    simp [go_sem]
    apply k5_; clear k5_
    refine Do.seqk fun _ k6_ => ?_
    refine Do.block ?_
    refine Do.seqk fun _ k7_ => ?_
    refine Do.region [1,2,3,4,11,12,13,14] true ?_
    simp [go_sem, hx]
    repeat (refine And.intro (by first | omega | (intros; omega) | grind) ?_)
    apply k7_; clear k7_
    refine Do.seqk fun _ k8_ => ?_
    refine Do.region [1,2,3,4,12,13,14,21] true ?_
    simp [go_sem, hx]
    repeat (refine And.intro (by first | omega | (intros; omega) | grind) ?_)
    apply k8_; clear k8_
    refine Do.cond [1,2,3,4,12,13,14] rfl (fun h3 => ?_) (fun h3 => ?_) <;> simp [go_sem, hx] at h3 ⊢
    · omega
    · refine Do.skip ?_
      simp [go_sem]
      apply k6_; clear k6_
      refine Do.region [1,2,3,4,12,13,14] true ?_
      simp [go_sem, hx]
      repeat (refine And.intro (by first | omega | (intros; omega) | grind) ?_)
      refine ⟨i + 1, St.le_of (by first | rfl | simp [keep]) (by first | rfl | simp [keep]), by omega, by first | (simp; done) | (simp; omega)⟩
  · refine Do.exit ?_
    simp [go_sem]
    apply k2_; clear k2_
    refine Do.seqk fun _ k9_ => ?_
    refine Do.seqk fun _ k10_ => ?_
    refine Do.region [3,4,28] true ?_
    simp [go_sem]
    refine DoL.call true 702 rfl rfl rfl rfl (by first | exact trivial | omega | (simp; done) | (simp; omega)) (Right_does) rfl (by first | exact .inl rfl | exact .inr rfl) rfl ?_
    simp [go_sem]
    repeat (refine And.intro (by first | omega | (intros; omega) | grind) ?_)
    apply k10_; clear k10_
    refine Do.cond [3,4] rfl (fun h3 => ?_) (fun h3 => ?_) <;> simp [go_sem] at h3 ⊢
    · omega
    · refine Do.skip ?_
      simp [go_sem]
      apply k9_; clear k9_
      refine Do.seqk fun _ k11_ => ?_
      refine Do.region [8,9] true ?_
      simp [go_sem]
      repeat (refine And.intro (by first | omega | (intros; omega) | grind) ?_)
      refine DoL.call true 903 rfl rfl rfl rfl (by first | exact trivial | omega | (simp; done) | (simp; omega)) (hD) rfl (by first | exact .inl rfl | exact .inr rfl) rfl ?_
      simp [go_sem]
      apply k11_; clear k11_
      refine Do.ret ?_
      simp [endQ, rets, ret1, go_sem]
      repeat (refine And.intro (by first | omega | (intros; omega) | grind) ?_)
      exact TLe.refl _
theorem Args_err {f p r : Int} {b : Bool} {l : List Fla} (hl : l.length < 1099511627776) (ho : ∀ x ∈ l, x.Ok) (h : argsE f p r b l ≠ 0) : Does Tryz.prog Gv 65 [Fm f p, .c (.i .i64 r), .c (.b b), Rows l] (.t [.c .z, .c (.i .i64 (argsE f p r b l))]) := by
  unfold argsE at h ⊢
  cases h1 : anyLarge l with
  | true => exact Args_size hl ho h1
  | false =>
    have hm := notLarge h1
    simp only [h1, Bool.false_eq_true, if_false] at h ⊢
    cases h2 : (decide (0 ≤ r) && decide (r ≤ 4) && !b) with
    | false => exact Args_arg hl hm h2
    | true =>
      simp only [h2, Bool.true_eq_false, if_false] at h ⊢
      simp only [Bool.and_eq_true, decide_eq_true_eq, Bool.not_eq_true'] at h2
      obtain ⟨⟨h0, h4⟩, hb⟩ := h2
      cases hf : fmOk f p with
      | false => exact Args_rest hl hm h0 h4 hb (Floats_fmt hl hm hf)
      | true =>
        simp only [hf, Bool.true_eq_false, if_false] at h ⊢
        cases hh : allHold f p l with
        | false => exact Args_rest hl hm h0 h4 hb (Floats_bad hl hm hf ho hh)
        | true => rw [hh] at h; exact absurd rfl h
theorem argsE_zero {f p r : Int} {b : Bool} {l : List Fla} (h : argsE f p r b l = 0) : (∀ x ∈ l, x.m.length ≤ 4096) ∧ 0 ≤ r ∧ r ≤ 4 ∧ b = false ∧ fmOk f p = true ∧ allHold f p l = true := by
  unfold argsE at h
  cases h1 : anyLarge l with
  | true => simp [h1] at h
  | false =>
    simp only [h1, Bool.false_eq_true, if_false] at h
    cases h2 : (decide (0 ≤ r) && decide (r ≤ 4) && !b) with
    | false => simp [h2] at h
    | true =>
      simp only [h2, Bool.true_eq_false, if_false] at h
      simp only [Bool.and_eq_true, decide_eq_true_eq, Bool.not_eq_true'] at h2
      cases hf : fmOk f p with
      | false => simp [hf] at h
      | true =>
        simp only [hf, Bool.true_eq_false, if_false] at h
        cases hh : allHold f p l with
        | false => simp [hh] at h
        | true => exact ⟨notLarge h1, h2.1.1, h2.1.2, h2.2, rfl, rfl⟩
theorem Args_own {f p r : Int} {b : Bool} {l : List Fla} (hl : l.length < 1099511627776) (ho : ∀ x ∈ l, x.Ok) (he : argsE f p r b l = 0) : DoesO Tryz.prog Gv 65 [Fm f p, .c (.i .i64 r), .c (.b b), Rows l] 4 ((heldL f p l).map Flt.cs) [.c (.i .i64 0)] := by
  obtain ⟨h, h0, h4, rfl, hf, hh⟩ := argsE_zero he
  have hD := Floats_own hl h hf ho hh
  generalize (heldL f p l).map Flt.cs = rows at *
  refine DoesO.of (nt := 34) Tryz.func65 rfl rfl rfl (by simp) rfl (by simp) ?_
  simp only [argTm, PV.ext, Ce.ext, exts]
  refine Do.seqk fun _ k1_ => ?_
  refine Do.region [1,2,3,4] true ?_
  simp [go_sem]
  apply k1_; clear k1_
  refine Do.seqk fun _ k2_ => ?_
  refine Do.seqk fun _ k3_ => ?_
  refine Do.region [1,2,3,4,12,13,14] true ?_
  simp [go_sem]
  repeat (refine And.intro (by first | omega | (intros; omega) | grind) ?_)
  apply k3_; clear k3_
  refine Do.block ?_
  refine Do.loopF [1,2,3,4,12,13,14] (fun (i : Nat) => [(14, .int .i64 i)]) (fun (i : Nat) => []) (fun (i : Nat) => i ≤ l.length) (fun (i : Nat) => l.length - i) (0) (fun _ => by first | (simp [go_sem, mixS]; done) | (simp [go_sem, mixS]; rfl)) (St.le_of (by first | rfl | simp [keep]) (by first | rfl | simp [keep])) (Nat.zero_le _) ?_
  intro i hi
  refine Do.seqk fun _ k4_ => ?_
  refine Do.region [1,2,3,4,12,13,14,15] true ?_
  simp [go_sem]
  apply k4_; clear k4_
  refine Do.seqk fun _ k5_ => ?_
  refine Do.cond [1,2,3,4,12,13,14] rfl (fun h2 => ?_) (fun h2 => ?_) <;> simp [go_sem] at h2 ⊢
  · obtain ⟨x, hx⟩ : ∃ x, l[i]? = some x := ⟨_, List.getElem?_eq_getElem h2⟩
    have hxm : x.m.length ≤ 4096 := h x (List.mem_of_getElem? hx)
    refine Do.skip ?_
    simp [go_sem]
    apply k5_; clear k5_
    refine Do.seqk fun _ k6_ => ?_
    refine Do.block ?_
    refine Do.seqk fun _ k7_ => ?_
    refine Do.region [1,2,3,4,11,12,13,14] true ?_
    simp [go_sem, hx]
    repeat (refine And.intro (by first | omega | (intros; omega) | grind) ?_)
    apply k7_; clear k7_
    refine Do.seqk fun _ k8_ => ?_
    refine Do.region [1,2,3,4,12,13,14,21] true ?_
    simp [go_sem, hx]
    repeat (refine And.intro (by first | omega | (intros; omega) | grind) ?_)
    apply k8_; clear k8_
    refine Do.cond [1,2,3,4,12,13,14] rfl (fun h3 => ?_) (fun h3 => ?_) <;> simp [go_sem, hx] at h3 ⊢
    · omega
    · refine Do.skip ?_
      simp [go_sem]
      apply k6_; clear k6_
      refine Do.region [1,2,3,4,12,13,14] true ?_
      simp [go_sem, hx]
      repeat (refine And.intro (by first | omega | (intros; omega) | grind) ?_)
      refine ⟨i + 1, St.le_of (by first | rfl | simp [keep]) (by first | rfl | simp [keep]), by omega, by first | (simp; done) | (simp; omega)⟩
  · refine Do.exit ?_
    simp [go_sem]
    apply k2_; clear k2_
    refine Do.seqk fun _ k9_ => ?_
    refine Do.seqk fun _ k10_ => ?_
    refine Do.region [3,4,28] true ?_
    simp [go_sem]
    refine DoL.call true 702 rfl rfl rfl rfl (by first | exact trivial | omega | (simp; done) | (simp; omega)) (Right_does) rfl (by first | exact .inl rfl | exact .inr rfl) rfl ?_
    simp [go_sem]
    repeat (refine And.intro (by first | omega | (intros; omega) | grind) ?_)
    apply k10_; clear k10_
    refine Do.cond [3,4] rfl (fun h3 => ?_) (fun h3 => ?_) <;> simp [go_sem] at h3 ⊢
    · omega
    · refine Do.skip ?_
      simp [go_sem]
      apply k9_; clear k9_
      refine Do.seqk fun _ k11_ => ?_
      refine Do.region [8,9] true ?_
      simp [go_sem]
      repeat (refine And.intro (by first | omega | (intros; omega) | grind) ?_)
      refine DoL.callO true 903 2000 rfl rfl rfl rfl (by first | exact trivial | omega | (simp; done) | (simp; omega)) (hD) rfl rfl rfl ?_
      simp [go_sem]
      apply k11_; clear k11_
      refine Do.ret ?_
      simp [endO, rets, ret1, go_sem]
      repeat (refine And.intro (by first | omega | (intros; omega) | grind) ?_)
end Go.Proofs.YtbhokdhkfodpfaaGreatDoor
/- What a sum is made of, and how a term is put in. No condition. -/
namespace Go.Proofs.YtbhokdhkfodpfaaGreatDoor
set_option linter.unusedVariables false
set_option linter.unusedSimpArgs false
set_option maxHeartbeats 2000000
/-- What a sum is made of. -/
structure Ga where
  sum : Nu
  nan : Bool
  inv : Bool
  plus : Bool
  minus : Bool
  seen : Bool
  some_ : Bool
  other : Bool
abbrev Ga.cs (g : Ga) : List Ce := [.b g.sum.n, .w false (nat g.sum.v), .i .i64 g.sum.e, .b g.nan, .b g.inv, .b g.plus, .b g.minus, .b g.seen, .b g.some_, .b g.other]
def Ga.zero : Ga := ⟨⟨false, 0, 0⟩, false, false, false, false, false, false, false⟩
/-- A term more. -/
def Ga.put (g : Ga) (k : Int) (x : Nu) : Ga :=
  if k = 3 then { g with seen := true, nan := true }
  else if k = 2 then { g with seen := true, plus := g.plus || !x.n, minus := g.minus || x.n }
  else if k = 1 then { g with seen := true, sum := g.sum.plus x, some_ := true, other := true }
  else { g with seen := true, some_ := g.some_ || !x.n, other := g.other || x.n }
end Go.Proofs.YtbhokdhkfodpfaaGreatDoor
/- Values that stand for an iterator over rows, and for a pointer to cells; a range over rows. No condition. -/
namespace Go.Proofs.YtbhokdhkfodpfaaGreatDoor
set_option linter.unusedVariables false
set_option linter.unusedSimpArgs false
open Go.RowKit
set_option linter.unusedVariables false
set_option linter.unusedSimpArgs false
attribute [local go_sem] Oper.semAt_some
theorem enA_le {W W' : World} {ok ok' : Nat → Prop} (h1 : ∀ b, ok b → ok' b) (h2 : ∀ b, ok b → W'.heap[b]? = W.heap[b]?) : EnLe (fun _ => True) (enA W ok) (enA W' ok') :=
  ⟨h1, h2, Nat.le_refl _, fun j _ o ho => by cases ho⟩
/-- A pointer to cells. -/
def PtrSx (cs : List Ce) : Sx where
  p ok W v := ∃ ad : Addr, v = .pointer (some ad) ∧ ok ad.block ∧ ∃ vs, RCs (enA W ok) cs vs ∧ At W ad vs
  one ok W v h := by obtain ⟨ad, rfl, _⟩ := h; rfl
  mono ok ok' W W' v h1 h2 h := by
    obtain ⟨ad, rfl, g1, vs, g2, g3⟩ := h
    exact ⟨ad, rfl, h1 _ g1, vs, g2.mono (enA_le h1 h2), g3.mono (h2 _ g1)⟩
theorem RCs.same {E E' : En} (hE : ∀ b, E.ok b → E'.ok b) (hW : E'.W = E.W) {cs : List Ce} {vs : List Value} (h : RCs E cs vs) : RCs E' cs vs :=
  ⟨h.1, h.2.mono' fun c hc v hv => by
    have hcp := h.1 c hc
    have hce : c.ext = c := by cases c <;> first | rfl | (simp [Ce.pure] at hcp; subst hcp; rfl)
    rw [← hce]; exact RC.ext_mono hE hW (by rw [Ce.labs_of_pure hcp]; intro j hj; cases hj) (by rw [hce]; exact hv)⟩
section
variable {P : Program} {G : Gl} {nt : Nat} {st : St} {QE : Exit → St → Prop}
theorem lk_le_put {t : Nat} {x : TV} (s : Nat) (y : TV) (tm : List (Nat × TV)) : lk s (put t x tm) = some y → (s = t ∧ y = x) ∨ (s ≠ t ∧ lk s tm = some y) := fun h => by
  rw [lk_put] at h
  split at h
  · rename_i e; injection h with h; exact .inl ⟨e, h.symm⟩
  · rename_i e; exact .inr ⟨e, h⟩
/-- A pointer to cells, taken as one. -/
theorem Do.turn {c : Code} (t : Nat) {cs : List Ce} (ht : lk t st.tm = some (.v (.c (.x (PtrSx cs))))) (h : Do P G nt c ⟨put t (.e cs) st.tm, st.ob⟩ QE) : Do P G nt c st QE := by
  intro cx a W hn ⟨m, hr⟩
  refine h cx a W hn ⟨m, { hr with tm := fun s x hx => ?_ }⟩
  rcases lk_le_put s x st.tm hx with ⟨rfl, rfl⟩ | ⟨_, hx⟩
  · obtain ⟨v, hv, ad, h1, h2, vs, h3, h4⟩ := hr.tm _ _ ht
    exact ⟨v, hv, ad, h1, h2, vs, RCs.same (E := enA W (okOf cx m st.ob W)) (E' := en cx m st.ob W) (fun _ h => h) rfl h3, h4⟩
  · exact hr.tm s x hx
theorem Does.toCalls {f : FuncId} {fn : Func} {c : Code} {args : List PV} {ret : TV} (h : Does P G f args ret) (hf : P.funcs[f]? = some fn) (hname : (fn.name == "runtime.NumGoroutine") = false) (hb : fn.body = some c) {W : World} {ok : Nat → Prop} {vals : List Value} (h1 : ∀ b, ok b → b < W.heap.size) (h2 : GlOk G W) (h3 : All2 (RP (enA W ok)) args vals) :
    Calls P f vals.toArray W (fun e W' => ∃ v, e = .returned v ∧ RowKit.Below W.heap.size W W' ∧ RT (enR W W' ok) ret v) := by
  rcases h W ok vals h1 h2 h3 with ⟨_, h⟩ | ⟨v, h, _⟩
  · exact h
  · exfalso
    have hn' : fn.name ≠ "runtime.NumGoroutine" := by simpa using hname
    simp [callFunc, hf, hn', hb] at h
end
/-- Two blocks of book-keeping lie as they lay. -/
def Books (B : Nat) (W W' : World) : Prop := W'.heap[B]? = W.heap[B]? ∧ W'.heap[B + 1]? = W.heap[B + 1]?
theorem Books.trans {B : Nat} {X Y Z : World} (h : Books B X Y) (k : Books B Y Z) : Books B X Z := ⟨k.1.trans h.1, k.2.trans h.2⟩
theorem Books.below {B n : Nat} {X Y : World} (h : Below n X Y) (hn : B + 1 < n) : Books B X Y := ⟨h.block _ (by omega), h.block _ hn⟩
end Go.Proofs.YtbhokdhkfodpfaaGreatDoor
/- What slices.Values and sum.gather compute. No condition. -/
namespace Go.Proofs.YtbhokdhkfodpfaaGreatDoor
set_option linter.unusedVariables false
set_option linter.unusedSimpArgs false
open Go.RowKit
set_option linter.unusedVariables false
set_option linter.unusedSimpArgs false
attribute [local go_sem] Oper.semAt_some
def okk (ok : Nat → Prop) (B : Nat) (W : World) (c : Nat) : Prop := (ok c ∨ B + 4 ≤ c) ∧ c < W.heap.size
/-- What holds at a round's head. -/
structure GRound (ok : Nat → Prop) (w : World) (g : Ga) (W : World) : Prop where
  below : Below w.heap.size w W
  held : ∃ vs ty, W.heap[w.heap.size]? = some (.cells vs ty (0, 0)) ∧ All2 (RC (enA W (okk ok w.heap.size W))) g.cs vs.toList
  var : ∃ ty, W.heap[w.heap.size + 1]? = some (.cells #[.pointer (some ⟨w.heap.size, 0, none⟩)] ty (0, 0))
section
variable {ok : Nat → Prop} {w X Y : World} {g : Ga}
theorem GRound.later (hok : ∀ b, ok b → b < w.heap.size) (h : GRound ok w g X) (hb : Below X.heap.size X Y) : GRound ok w g Y := by
  obtain ⟨h1, ⟨vs, ty, h2, h3⟩, ty', h4⟩ := h
  refine ⟨h1.trans (hb.mono h1.size), ⟨vs, ty, (hb.block _ (lt_of_heap h2)).trans h2, h3.mono fun c v hv => RC.mono (enA_le (fun b hb' => ⟨hb'.1, Nat.lt_of_lt_of_le hb'.2 hb.size⟩) fun b hb' => hb.block b hb'.2) (fun _ _ => trivial) hv⟩, ty', (hb.block _ (lt_of_heap h4)).trans h4⟩
theorem GRound.other (hok : ∀ b, ok b → b < w.heap.size) {b : Nat} (o : Obj) (hb : b = w.heap.size + 2 ∨ b = w.heap.size + 3) (h : GRound ok w g X) : GRound ok w g (X.putObj b o) := by
  obtain ⟨h1, ⟨vs, ty, h2, h3⟩, ty', h4⟩ := h
  refine ⟨⟨h1.os, h1.tape, h1.output, by simpa using h1.size, fun k hk => (World.putObj_heap_other (by omega)).trans (h1.block k hk)⟩, ⟨vs, ty, (World.putObj_heap_other (by omega)).trans h2, h3.mono fun c v hv => RC.mono (enA_le (fun c hc => ⟨hc.1, by simpa using hc.2⟩) fun c hc => World.putObj_heap_other ?_) (fun _ _ => trivial) hv⟩, ty', (World.putObj_heap_other (by omega)).trans h4⟩
  rcases hc.1 with h | h
  · have := hok c h; omega
  · omega
end
theorem GlOk.below {G : Gl} {X Y : World} (h : GlOk G X) (hb : Below X.heap.size X Y) : GlOk G Y := fun b off x hx => by
  obtain ⟨h1, v, h2, h3⟩ := h b off x hx
  exact ⟨h1, v, (cell_of_heap (hb.block b (World.block_lt_of_cell? X _ h2))).trans h2, h3⟩
end Go.Proofs.YtbhokdhkfodpfaaGreatDoor
/- Sums, rounded. No condition. -/
namespace Go.Proofs.YtbhokdhkfodpfaaGreatDoor
set_option linter.unusedVariables false
set_option linter.unusedSimpArgs false
set_option maxHeartbeats 2000000
/-- The sum, rounded. -/
def Ga.float (g : Ga) (f p r : Int) : Flt × Int :=
  if g.nan then (⟨3, false, 0, 0⟩, 0) else if g.inv || (g.plus && g.minus) then (⟨3, false, 0, 0⟩, 16) else if g.plus || g.minus then (⟨2, g.minus, 0, 0⟩, 0)
  else g.sum.round f p r (g.seen && g.other && (!g.some_ || r == 4))
end Go.Proofs.YtbhokdhkfodpfaaGreatDoor
/- Total, Add and Sub. No condition. -/
namespace Go.Proofs.YtbhokdhkfodpfaaGreatDoor
set_option linter.unusedVariables false
set_option linter.unusedSimpArgs false
set_option maxHeartbeats 2000000
/-- The float with the other sign. -/
def Flt.neg (x : Flt) : Flt := ⟨x.k, x.k != 3 && !x.n, x.e, x.v⟩
end Go.Proofs.YtbhokdhkfodpfaaGreatDoor
/- Digits of 32 bits, words of 64 bits. No condition. -/
namespace Go.Proofs.YtbhokdhkfodpfaaGreatDoor
set_option linter.unusedVariables false
set_option linter.unusedSimpArgs false
/-- The lowest k digits of n, of 32 bits each. -/
def dg : Nat → Nat → List Nat
  | _, 0 => []
  | n, k + 1 => n % 4294967296 :: dg (n / 4294967296) k
/-- The lowest k words of n. -/
def wds : Nat → Nat → List Nat
  | _, 0 => []
  | n, k + 1 => n % 18446744073709551616 :: wds (n / 18446744073709551616) k
theorem dg_len : ∀ (k n : Nat), (dg n k).length = k
  | 0, _ => rfl
  | k + 1, n => by simp [dg, dg_len k]
theorem wds_len : ∀ (k n : Nat), (wds n k).length = k
  | 0, _ => rfl
  | k + 1, n => by simp [wds, wds_len k]
theorem dg_get : ∀ {k n i : Nat}, i < k → (dg n k)[i]? = some (n / 4294967296 ^ i % 4294967296)
  | k + 1, n, 0, _ => by simp [dg]
  | k + 1, n, i + 1, h => by
    simp only [dg, List.getElem?_cons_succ]
    rw [dg_get (by omega), Nat.div_div_eq_div_mul, Nat.pow_succ, Nat.mul_comm]
theorem wds_get : ∀ {k n i : Nat}, i < k → (wds n k)[i]? = some (n / 18446744073709551616 ^ i % 18446744073709551616)
  | k + 1, n, 0, _ => by simp [wds]
  | k + 1, n, i + 1, h => by
    simp only [wds, List.getElem?_cons_succ]
    rw [wds_get (by omega), Nat.div_div_eq_div_mul, Nat.pow_succ, Nat.mul_comm]
theorem dg_snoc : ∀ (k n : Nat), dg n (k + 1) = dg n k ++ [n / 4294967296 ^ k % 4294967296]
  | 0, n => by simp [dg]
  | k + 1, n => by
    rw [dg, dg_snoc k, dg, Nat.div_div_eq_div_mul, Nat.pow_succ, Nat.mul_comm (4294967296 ^ k)]; rfl
theorem wds_snoc : ∀ (k n : Nat), wds n (k + 1) = wds n k ++ [n / 18446744073709551616 ^ k % 18446744073709551616]
  | 0, n => by simp [wds]
  | k + 1, n => by
    rw [wds, wds_snoc k, wds, Nat.div_div_eq_div_mul, Nat.pow_succ, Nat.mul_comm (18446744073709551616 ^ k)]; rfl
theorem dg_take {j : Nat} : ∀ {k n : Nat}, j ≤ k → (dg n k).take j = dg n j := by
  induction j with
  | zero => intro k n _; simp [dg]
  | succ j ih =>
    intro k n h
    obtain ⟨k, rfl⟩ : ∃ m, k = m + 1 := ⟨k - 1, by omega⟩
    simp only [dg, List.take_succ_cons, ih (show j ≤ k by omega)]
theorem wds_ws : ∀ (k n : Nat), Ws (wds n k)
  | 0, _ => by simp [wds, Ws]
  | k + 1, n => by rw [wds, Ws.cons]; exact ⟨Nat.mod_lt _ (by decide), wds_ws k _⟩
theorem val_wds : ∀ (k n : Nat), val (wds n k) = n % 18446744073709551616 ^ k
  | 0, n => by simp [wds, val, Nat.mod_one]
  | k + 1, n => by
    rw [wds, val, val_wds k, Nat.pow_succ, Nat.mul_comm (18446744073709551616 ^ k), Nat.mod_mul]
theorem wds_of {x : List Nat} (h : Ws x) : wds (val x) x.length = x := by
  induction x with
  | nil => rfl
  | cons w l ih =>
    rw [Ws.cons] at h
    simp only [val, List.length_cons, wds]
    rw [show (w + 18446744073709551616 * val l) % 18446744073709551616 = w by omega, show (w + 18446744073709551616 * val l) / 18446744073709551616 = val l by omega, ih h.2]
theorem ws_get {x : List Nat} (h : Ws x) {i : Nat} (hi : i < x.length) : x[i]? = some (val x / 18446744073709551616 ^ i % 18446744073709551616) := by
  have := wds_get (n := val x) hi
  rwa [wds_of h] at this
theorem HB (i : Nat) : (18446744073709551616 : Nat) ^ i = 4294967296 ^ (2 * i) := by
  rw [Nat.pow_mul]
theorem dg_two (n i : Nat) : dg n (2 * (i + 1)) = dg n (2 * i) ++ [n / 18446744073709551616 ^ i % 18446744073709551616 % 4294967296, n / 18446744073709551616 ^ i % 18446744073709551616 / 4294967296] := by
  rw [show 2 * (i + 1) = 2 * i + 1 + 1 by omega, dg_snoc, dg_snoc, HB, Nat.pow_succ, ← Nat.div_div_eq_div_mul]
  generalize n / 4294967296 ^ (2 * i) = m
  rw [show m % 18446744073709551616 % 4294967296 = m % 4294967296 by omega, show m % 18446744073709551616 / 4294967296 = m / 4294967296 % 4294967296 by omega]
  simp
theorem word_two (n i : Nat) : n / 4294967296 ^ (2 * i) % 4294967296 + n / 4294967296 ^ (2 * i + 1) % 4294967296 * 4294967296 = n / 18446744073709551616 ^ i % 18446744073709551616 := by
  rw [HB, Nat.pow_succ, ← Nat.div_div_eq_div_mul]
  generalize n / 4294967296 ^ (2 * i) = m
  omega
theorem dg_lt {n k i : Nat} (h : n < 4294967296 ^ k) (hi : k ≤ i) : n / 4294967296 ^ i % 4294967296 = 0 := by
  rw [Nat.div_eq_of_lt (Nat.lt_of_lt_of_le h (Nat.pow_le_pow_right (by decide) hi))]
theorem nat_wds : ∀ {k n : Nat}, n < 18446744073709551616 ^ k → (0 < k → 18446744073709551616 ^ (k - 1) ≤ n) → wds n k = nat n
  | 0, n, h, _ => by
    have : n = 0 := by simpa using h
    subst this; simp [wds, nat]
  | k + 1, n, h, h2 => by
    have hn : n ≠ 0 := by have := h2 (by omega); have := Nat.pow_pos (n := k + 1 - 1) (show 0 < 18446744073709551616 by decide); omega
    unfold nat
    rw [dif_neg hn, wds, nat_wds (by rw [Nat.pow_succ] at h; rw [Nat.div_lt_iff_lt_mul (by decide)]; exact h) (fun hk => ?_)]
    have h3 := h2 (by omega)
    obtain ⟨j, rfl⟩ : ∃ j, k = j + 1 := ⟨k - 1, by omega⟩
    simp only [Nat.add_sub_cancel] at h3 ⊢
    rw [Nat.le_div_iff_mul_le (by decide), ← Nat.pow_succ]; exact h3
/-- How many digits n has. -/
def dl (n : Nat) : Nat := (bl n + 31) / 32
theorem dl_lt {n k : Nat} : dl n ≤ k ↔ n < 4294967296 ^ k := by
  have : (4294967296 : Nat) ^ k = 2 ^ (32 * k) := by rw [Nat.pow_mul]
  rw [this, ← bl_lt, dl]; omega
theorem dl_top {n : Nat} (h : 0 < dl n) : n / 4294967296 ^ (dl n - 1) % 4294967296 ≠ 0 := by
  intro h0
  have h1 := (dl_lt (n := n) (k := dl n)).1 (Nat.le_refl _)
  have h2 : ¬ n < 4294967296 ^ (dl n - 1) := fun h => by have := dl_lt.2 h; omega
  obtain ⟨k, hk⟩ : ∃ k, dl n = k + 1 := ⟨dl n - 1, by omega⟩
  rw [hk] at h0 h1 h2
  simp only [Nat.add_sub_cancel] at h0 h2
  have h3 : n / 4294967296 ^ k < 4294967296 := by rw [Nat.div_lt_iff_lt_mul (Nat.pow_pos (by decide))]; rw [Nat.pow_succ, Nat.mul_comm] at h1; exact h1
  rw [Nat.mod_eq_of_lt h3, Nat.div_eq_zero_iff] at h0
  rcases h0 with h0 | h0
  · have := Nat.pow_pos (n := k) (show 0 < 4294967296 by decide); omega
  · exact h2 h0
theorem dg_eq_zero {n k : Nat} (h : n < 4294967296 ^ k) (hz : n / 4294967296 ^ (k - 1) % 4294967296 = 0) (hk : 0 < k) : n < 4294967296 ^ (k - 1) := by
  apply Classical.byContradiction
  intro hn
  have h1 : dl n ≤ k := dl_lt.2 h
  have h2 : ¬ dl n ≤ k - 1 := fun h => hn (dl_lt.1 h)
  have h3 : dl n = k := by omega
  subst h3
  exact dl_top hk hz
theorem nat_dl (n : Nat) : wds n ((dl n + 1) / 2) = nat n := by
  refine nat_wds ?_ fun h => ?_
  · rw [B64_pow, ← bl_lt, dl]; omega
  · rw [B64_pow, ← bl_le, dl]
    rw [dl] at h; omega
theorem natlen (n : Nat) : (nat n).length = (bl n + 63) / 64 := by
  rw [← nat_dl, wds_len, dl]; omega
theorem dg_pair {n k i : Nat} (h : 2 * i + 1 < k) : ∃ a b, (dg n k)[2 * i]? = some a ∧ (dg n k)[2 * i + 1]? = some b ∧ a < 4294967296 ∧ b < 4294967296 ∧ a + b * 4294967296 = n / 18446744073709551616 ^ i % 18446744073709551616 :=
  ⟨_, _, dg_get (by omega), dg_get h, Nat.mod_lt _ (by decide), Nat.mod_lt _ (by decide), word_two n i⟩
end Go.Proofs.YtbhokdhkfodpfaaGreatDoor
/- The digits of the reference. No condition. -/
namespace Go.Proofs.YtbhokdhkfodpfaaGreatDoor
set_option linter.unusedVariables false
set_option linter.unusedSimpArgs false
variable {G : Gl}
set_option maxHeartbeats 2000000
attribute [go_sem] dg_len wds_len
theorem Digits_does {x : List Nat} (hx : x.length ≤ 1073741824) (hw : Ws x) : Does Tryz.prog G 78 [Wd x] (.v (Wn (dg (val x) (2 * x.length)))) := by
  refine Does.of (nt := 25) Tryz.func78 rfl rfl rfl (by simp) ?_
  simp only [argTm, PV.ext, Ce.ext]
  refine Do.seqk fun _ k1_ => ?_
  refine Do.region [0] true ?_
  simp [go_sem]
  apply k1_; clear k1_
  refine Do.seqk fun _ k2_ => ?_
  refine Do.region [0,3] true ?_
  simp [go_sem]
  apply k2_; clear k2_
  refine Do.seqk fun _ k3_ => ?_
  refine Do.seqk fun _ k4_ => ?_
  refine Do.region [0,3,4] true ?_
  simp [go_sem]
  apply k4_; clear k4_
  refine Do.block ?_
  refine Do.ownW 3 900 rfl rfl (by decide) ?_
  simp [go_sem]
  refine Do.loopF [0,3,4] (fun (i : Nat) => [(3, .v (.c (.r 900 (2 * i)))), (4, .int .i64 i)]) (fun (i : Nat) => [(900, .wr (dg (val x) (2 * i)))]) (fun (i : Nat) => i ≤ x.length) (fun (i : Nat) => x.length - i) (0) (fun _ => by first | (simp [go_sem, mixS]; done) | (simp [go_sem, mixS]; rfl)) (St.le_of (by first | rfl | simp [keep]) (by first | rfl | simp [keep])) (Nat.zero_le _) ?_
  intro i hi
  refine Do.seqk fun _ k5_ => ?_
  refine Do.seqk fun _ k6_ => ?_
  refine Do.region [0,3,4,8] true ?_
  simp [go_sem]
  repeat (refine And.intro (by first | omega | (intros; omega) | grind) ?_)
  apply k6_; clear k6_
  refine Do.cond [0,3,4] rfl (fun h => ?_) (fun h => ?_) <;> simp [go_sem] at h ⊢
  · have hg := ws_get hw h
    refine Do.skip ?_
    simp [go_sem]
    apply k5_; clear k5_
    refine Do.seqk fun _ k7_ => ?_
    refine Do.block ?_
    refine Do.draw [0,3,4] true (by kernel_rfl) ?_
    simp [go_sem, hg]
    repeat (refine And.intro (by first | omega | (intros; omega) | kernel_rfl | grind) ?_)
    try (refine And.intro (by kernel_rfl) ?_)
    apply k7_; clear k7_
    refine Do.region [0,3,4] true ?_
    simp [go_sem, hg]
    repeat (refine And.intro (by first | omega | (intros; omega) | grind) ?_)
    refine ⟨i + 1, St.le_of rfl (by simp [keep, dg_two]), by omega, by simp; omega⟩
  · refine Do.exit ?_
    simp [go_sem]
    apply k3_; clear k3_
    refine Do.seqk fun _ k8_ => ?_
    refine Do.region [2] true ?_
    simp [go_sem]
    apply k8_; clear k8_
    refine Do.ret ?_
    simp [endQ, rets, ret1, go_sem]
    repeat (refine And.intro (by first | omega | (intros; omega) | grind) ?_)
    have e : i = x.length := by omega
    subst e
    exact TLe.refl _
theorem Short_does {n k : Nat} (hk : k ≤ 4294967296) (h : n < 4294967296 ^ k) : Does Tryz.prog G 114 [Wd (dg n k)] (.v (Wd (dg n (dl n)))) := by
  refine Does.of (nt := 21) Tryz.func114 rfl rfl rfl (by simp) ?_
  simp only [argTm, PV.ext, Ce.ext]
  refine Do.seqk fun _ k1_ => ?_
  refine Do.region [0] true ?_
  simp [go_sem]
  apply k1_; clear k1_
  refine Do.seqk fun _ k2_ => ?_
  refine Do.region [0,3] true ?_
  simp [go_sem]
  repeat (refine And.intro (by first | omega | (intros; omega) | grind) ?_)
  apply k2_; clear k2_
  refine Do.seqk fun _ k3_ => ?_
  refine Do.block ?_
  refine Do.loopF [0,3] (fun (i : Nat) => [(3, .int .i64 i)]) (fun (i : Nat) => []) (fun (i : Nat) => i ≤ k ∧ n < 4294967296 ^ i) (fun (i : Nat) => i) (k) (fun _ => by first | (simp [go_sem, mixS]; done) | (simp [go_sem, mixS]; rfl)) (St.le_of (by first | rfl | simp [keep]) (by first | rfl | simp [keep])) (⟨Nat.le_refl _, h⟩) ?_
  rintro i ⟨hi, hn⟩
  refine Do.seqk fun _ k4_ => ?_
  refine Do.seqk fun _ k5_ => ?_
  refine Do.region [0,3,15] true ?_
  simp [go_sem]
  repeat (refine And.intro (by first | omega | (intros; omega) | grind) ?_)
  apply k5_; clear k5_
  refine Do.cond [0,3] rfl (fun h2 => ?_) (fun h2 => ?_) <;> simp [go_sem] at h2 ⊢
  · rw [dg_get (by omega)] at h2
    refine Do.skip ?_
    simp [go_sem]
    apply k4_; clear k4_
    refine Do.block ?_
    refine Do.region [0,3] true ?_
    simp [go_sem]
    repeat (refine And.intro (by first | omega | (intros; omega) | grind) ?_)
    refine ⟨i - 1, St.le_of (by simp [keep]; omega) rfl, ⟨by omega, dg_eq_zero hn (by simpa using h2.2) h2.1⟩, by simp; omega⟩
  · refine Do.exit ?_
    simp [go_sem]
    apply k3_; clear k3_
    refine Do.seqk fun _ k6_ => ?_
    refine Do.region [2] true ?_
    simp [go_sem]
    repeat (refine And.intro (by first | omega | (intros; omega) | grind) ?_)
    apply k6_; clear k6_
    refine Do.ret ?_
    simp [endQ, rets, ret1, go_sem]
    repeat (refine And.intro (by first | omega | (intros; omega) | grind) ?_)
    have e : dl n = i := by
      have h3 := dl_lt.2 hn
      apply Classical.byContradiction
      intro h4
      have h5 := h2 (by omega)
      rw [dg_get (by omega), dg_lt (dl_lt.1 (Nat.le_refl _)) (by omega)] at h5
      exact h5 rfl
    rw [dg_take hi, e]
    exact TLe.refl _
theorem Row_does {n k : Nat} (hk : k ≤ 4294967296) : Does Tryz.prog G 148 [Wd (dg n k)] (.v (Wn (wds n (k / 2)))) := by
  refine Does.of (nt := 27) Tryz.func148 rfl rfl rfl (by simp) ?_
  simp only [argTm, PV.ext, Ce.ext]
  refine Do.seqk fun _ k1_ => ?_
  refine Do.region [0] true ?_
  simp [go_sem]
  apply k1_; clear k1_
  refine Do.seqk fun _ k2_ => ?_
  refine Do.region [0,3] true ?_
  simp [go_sem]
  apply k2_; clear k2_
  refine Do.seqk fun _ k3_ => ?_
  refine Do.seqk fun _ k4_ => ?_
  refine Do.region [0,3,4] true ?_
  simp [go_sem]
  apply k4_; clear k4_
  refine Do.block ?_
  refine Do.ownW 3 900 rfl rfl (by decide) ?_
  simp [go_sem]
  refine Do.loopF [0,3,4] (fun (i : Nat) => [(3, .v (.c (.r 900 i))), (4, .int .i64 (2 * i))]) (fun (i : Nat) => [(900, .wr (wds n i))]) (fun (i : Nat) => 2 * i ≤ k) (fun (i : Nat) => k - i) (0) (fun _ => by first | (simp [go_sem, mixS]; done) | (simp [go_sem, mixS]; rfl)) (St.le_of (by first | rfl | simp [keep]) (by first | rfl | simp [keep])) (Nat.zero_le _) ?_
  intro i hi
  refine Do.seqk fun _ k5_ => ?_
  refine Do.seqk fun _ k6_ => ?_
  refine Do.region [0,3,4,9] true ?_
  simp [go_sem]
  repeat (refine And.intro (by first | omega | (intros; omega) | grind) ?_)
  apply k6_; clear k6_
  refine Do.cond [0,3,4] rfl (fun h => ?_) (fun h => ?_) <;> simp [go_sem] at h ⊢
  · obtain ⟨a, b, hg1, hg2, ha, hb, hab⟩ := dg_pair (n := n) (k := k) (i := i) (by omega)
    refine Do.skip ?_
    simp [go_sem]
    apply k5_; clear k5_
    refine Do.seqk fun _ k7_ => ?_
    refine Do.block ?_
    refine Do.draw [0,3,4] true (by kernel_rfl) ?_
    simp [go_sem, hg1, hg2, show ((2 : Int) * i).toNat = 2 * i by omega, show ((2 : Int) * i + 1).toNat = 2 * i + 1 by omega]
    repeat (refine And.intro (by first | omega | (intros; omega) | kernel_rfl | grind) ?_)
    try (refine And.intro (by kernel_rfl) ?_)
    apply k7_; clear k7_
    refine Do.region [0,3,4] true ?_
    simp [go_sem, hg1, hg2, show ((2 : Int) * i).toNat = 2 * i by omega, show ((2 : Int) * i + 1).toNat = 2 * i + 1 by omega]
    repeat (refine And.intro (by first | omega | (intros; omega) | grind) ?_)
    refine ⟨i + 1, St.le_of (by simp [keep]; omega) (by simp [keep, wds_snoc, hab]), by omega, by simp; omega⟩
  · refine Do.exit ?_
    simp [go_sem]
    apply k3_; clear k3_
    refine Do.seqk fun _ k8_ => ?_
    refine Do.region [2] true ?_
    simp [go_sem]
    apply k8_; clear k8_
    refine Do.ret ?_
    simp [endQ, rets, ret1, go_sem]
    repeat (refine And.intro (by first | omega | (intros; omega) | grind) ?_)
    rw [show k / 2 = i by omega]
    exact TLe.refl _
end Go.Proofs.YtbhokdhkfodpfaaGreatDoor
/- The natural numbers of the reference: canonical words, lengths. No condition. -/
namespace Go.Proofs.YtbhokdhkfodpfaaGreatDoor
set_option linter.unusedVariables false
set_option linter.unusedSimpArgs false
variable {G : Gl}
set_option maxHeartbeats 2000000
theorem Cut_does {n k m : Nat} (hk : k ≤ 2147483648) (hm : m ≤ 1073741824) (h : n < 4294967296 ^ k) : Does Tryz.prog G 115 [Wd (dg n k), .c (.i .i64 m)] (.t [Wn (wds n m), .c (.n (n / 18446744073709551616 ^ m % 18446744073709551616))]) := by
  have hz : ∀ j, k ≤ j → n / 4294967296 ^ j % 4294967296 = 0 := fun j hj => dg_lt h hj
  clear h
  refine Does.of (nt := 37) Tryz.func115 rfl rfl rfl (by simp) ?_
  simp only [argTm, PV.ext, Ce.ext]
  refine Do.seqk fun _ k1_ => ?_
  refine Do.region [0,1] true ?_
  simp [go_sem]
  apply k1_; clear k1_
  refine Do.seqk fun _ k2_ => ?_
  refine Do.region [0,1,6] true ?_
  simp [go_sem]
  apply k2_; clear k2_
  refine Do.seqk fun _ k3_ => ?_
  refine Do.ownW 6 900 rfl rfl (by decide) ?_
  refine Do.region [1,6] true ?_
  simp [go_sem]
  repeat (refine And.intro (by first | omega | (intros; omega) | grind) ?_)
  apply k3_; clear k3_
  refine Do.seqk fun _ k4_ => ?_
  refine Do.block ?_
  refine Do.loopF [1,6] (fun (j : Nat) => [(6, .v (.c (.r 900 j)))]) (fun (j : Nat) => [(900, .wr (dg n j))]) (fun (j : Nat) => k ≤ j ∧ (j ≤ k ∨ j ≤ 2 * m + 2)) (fun (j : Nat) => 2 * m + 2 - j) (k) (fun _ => by first | (simp [go_sem, mixS]; done) | (simp [go_sem, mixS]; rfl)) (St.le_of (by first | rfl | simp [keep]) (by first | rfl | simp [keep])) (⟨Nat.le_refl _, .inl (Nat.le_refl _)⟩) ?_
  rintro j ⟨hj, hj2⟩
  refine Do.seqk fun _ k5_ => ?_
  refine Do.seqk fun _ k6_ => ?_
  refine Do.region [1,6,15] true ?_
  simp [go_sem]
  repeat (refine And.intro (by first | omega | (intros; omega) | grind) ?_)
  apply k6_; clear k6_
  refine Do.cond [1,6] rfl (fun h2 => ?_) (fun h2 => ?_) <;> simp [go_sem] at h2 ⊢
  · refine Do.skip ?_
    simp [go_sem]
    apply k5_; clear k5_
    refine Do.block ?_
    refine Do.region [1,6] true ?_
    simp [go_sem]
    repeat (refine And.intro (by first | omega | (intros; omega) | grind) ?_)
    refine ⟨j + 1, St.le_of rfl (by simp [keep, dg_snoc, hz j hj]), by omega, by simp; omega⟩
  · obtain ⟨a, b, hg1, hg2, ha, hb, hab⟩ := dg_pair (n := n) (k := j) (i := m) (by omega)
    have htk : List.take (2 * m) (dg n j) = dg n (2 * m) := dg_take (by omega)
    refine Do.exit ?_
    simp [go_sem]
    apply k4_; clear k4_
    refine Do.seqk fun _ k7_ => ?_
    refine Do.frz 900 rfl ?_
    refine Do.draw [4,5] true (by kernel_rfl) ?_
    simp [go_sem, hg1, hg2, htk, show ((2 : Int) * m).toNat = 2 * m by omega, show ((2 : Int) * m + 1).toNat = 2 * m + 1 by omega]
    repeat (refine And.intro (by first | omega | (intros; omega) | kernel_rfl | grind) ?_)
    refine DoLD.call true 505 rfl rfl rfl rfl (by first | exact trivial | omega | (simp; done) | (simp; omega)) (Row_does (n := n) (k := 2 * m) (by omega)) rfl (by first | exact .inl rfl | exact .inr rfl) rfl ?_
    simp [go_sem, hg1, hg2, htk, show ((2 : Int) * m).toNat = 2 * m by omega, show ((2 : Int) * m + 1).toNat = 2 * m + 1 by omega]
    repeat (refine And.intro (by first | omega | (intros; omega) | kernel_rfl | grind) ?_)
    try (refine And.intro (by kernel_rfl) ?_)
    apply k7_; clear k7_
    refine Do.ret ?_
    simp [endQ, rets, ret1, go_sem, hg1, hg2, htk, show ((2 : Int) * m).toNat = 2 * m by omega, show ((2 : Int) * m + 1).toNat = 2 * m + 1 by omega]
    repeat (refine And.intro (by first | omega | (intros; omega) | grind) ?_)
    rw [hab]
    exact TLe.refl _
theorem rnat_does {n k : Nat} (hk : k ≤ 2147483648) (h : n < 4294967296 ^ k) : Does Tryz.prog G 76 [Wd (dg n k)] (.v (Wn (nat n))) := by
  have hl := dl_lt.2 h
  have hc := @Cut_does G n (dl n) ((dl n + 1) / 2) (by omega) (by omega) (dl_lt.1 (Nat.le_refl _))
  have hs := @Short_does G n k (by omega) h
  rw [nat_dl] at hc
  generalize n / 18446744073709551616 ^ ((dl n + 1) / 2) % 18446744073709551616 = z at hc
  refine Does.of (nt := 19) Tryz.func76 rfl rfl rfl (by simp) ?_
  simp only [argTm, PV.ext, Ce.ext]
  refine Do.seqk fun _ k1_ => ?_
  refine Do.region [0] true ?_
  simp [go_sem]
  apply k1_; clear k1_
  refine Do.seqk fun _ k2_ => ?_
  refine Do.region [0] true ?_
  simp [go_sem]
  refine DoL.call true 102 rfl rfl rfl rfl (by first | exact trivial | omega | (simp; done) | (simp; omega)) (hs) rfl (by first | exact .inl rfl | exact .inr rfl) rfl ?_
  simp [go_sem]
  apply k2_; clear k2_
  refine Do.seqk fun _ k3_ => ?_
  refine Do.region [0,3] true ?_
  simp [go_sem]
  repeat (refine And.intro (by first | omega | (intros; omega) | grind) ?_)
  rw [show ((dl n : Int) + 1) / 2 = (((dl n + 1) / 2 : Nat) : Int) by omega]
  apply k3_; clear k3_
  refine Do.seqk fun _ k4_ => ?_
  refine Do.region [4] true ?_
  simp [go_sem]
  refine DoL.call true 303 rfl rfl rfl rfl (by first | exact trivial | omega | (simp; done) | (simp; omega)) (hc) rfl (by first | exact .inl rfl | exact .inr rfl) rfl ?_
  simp [go_sem]
  apply k4_; clear k4_
  refine Do.seqk fun _ k5_ => ?_
  refine Do.region [2] true ?_
  simp [go_sem]
  apply k5_; clear k5_
  refine Do.ret ?_
  simp [endQ, rets, ret1, go_sem]
  repeat (refine And.intro (by first | omega | (intros; omega) | grind) ?_)
  exact TLe.refl _
theorem RTrim_does {x : List Nat} (hx : x.length ≤ 1073741824) (hw : Ws x) : Does Tryz.prog G 82 [Wd x] (.v (Wn (nat (val x)))) := by
  have hn := @rnat_does G (val x) (2 * x.length) (by omega) (by have := val_lt hw; rwa [HB] at this)
  refine Does.of (nt := 6) Tryz.func82 rfl rfl rfl (by simp) ?_
  simp only [argTm, PV.ext, Ce.ext]
  refine Do.seqk fun _ k1_ => ?_
  refine Do.region [0] true ?_
  simp [go_sem]
  apply k1_; clear k1_
  refine Do.seqk fun _ k2_ => ?_
  refine Do.region [2] true ?_
  simp [go_sem]
  refine DoL.call true 102 rfl rfl rfl rfl (by first | exact trivial | omega | (simp; done) | (simp; omega)) (Digits_does hx hw) rfl (by first | exact .inl rfl | exact .inr rfl) rfl ?_
  simp [go_sem]
  refine DoL.call true 103 rfl rfl rfl rfl (by first | exact trivial | omega | (simp; done) | (simp; omega)) (hn) rfl (by first | exact .inl rfl | exact .inr rfl) rfl ?_
  simp [go_sem]
  apply k2_; clear k2_
  refine Do.ret ?_
  simp [endQ, rets, ret1, go_sem]
  repeat (refine And.intro (by first | omega | (intros; omega) | grind) ?_)
  exact TLe.refl _
/-- The lowest bit 1 among i bits; how many are 1. -/
def trl (w : Nat) : Nat → Int
  | 0 => 64
  | i + 1 => if w / 2 ^ i % 2 = 1 then (if (i : Int) < trl w i then i else trl w i) else trl w i
def ones (w : Nat) : Nat → Int
  | 0 => 0
  | i + 1 => if w / 2 ^ i % 2 = 1 then ones w i + 1 else ones w i
theorem ones_le (w : Nat) : ∀ i, 0 ≤ ones w i ∧ ones w i ≤ i
  | 0 => by simp [ones]
  | i + 1 => by have := ones_le w i; simp only [ones]; split <;> omega
theorem bl_bit (w i : Nat) : bl (w % 2 ^ (i + 1)) = if w / 2 ^ i % 2 = 1 then i + 1 else bl (w % 2 ^ i) := by
  rw [Nat.pow_succ, Nat.mod_mul]
  have h1 : w % 2 ^ i < 2 ^ i := Nat.mod_lt _ (Nat.pow_pos (by decide))
  split
  · rename_i h; rw [h]
    exact bl_add h1 (by decide)
  · rename_i h; rw [show w / 2 ^ i % 2 = 0 by omega]; simp
theorem bl_le_i (w i : Nat) : bl (w % 2 ^ i) ≤ i := (bl_lt _ _).2 (Nat.mod_lt _ (Nat.pow_pos (by decide)))
theorem Count_does {w : Nat} (hw : w < 18446744073709551616) : Does Tryz.prog G 85 [.c (.n w)] (.t [.c (.i .i64 (64 - bl w)), .c (.i .i64 (trl w 64)), .c (.i .i64 (ones w 64))]) := by
  refine Does.of (nt := 28) Tryz.func85 rfl rfl rfl (by simp) ?_
  simp only [argTm, PV.ext, Ce.ext]
  refine Do.seqk fun _ k1_ => ?_
  refine Do.region [0] true ?_
  simp [go_sem]
  apply k1_; clear k1_
  refine Do.seqk fun _ k2_ => ?_
  refine Do.region [0,5,6,7] true ?_
  simp [go_sem]
  apply k2_; clear k2_
  refine Do.seqk fun _ k3_ => ?_
  refine Do.seqk fun _ k4_ => ?_
  refine Do.region [0,5,6,7,8] true ?_
  simp [go_sem]
  apply k4_; clear k4_
  refine Do.block ?_
  refine Do.loopF [0,5,6,7,8] (fun (i : Nat) => [(5, .int .i64 (64 - bl (w % 2 ^ i))), (6, .int .i64 (trl w i)), (7, .int .i64 (ones w i)), (8, .int .i64 i)]) (fun (i : Nat) => []) (fun (i : Nat) => i ≤ 64) (fun (i : Nat) => 64 - i) (0) (fun _ => by first | (simp [go_sem, mixS]; done) | (simp [go_sem, mixS]; rfl)) (St.le_of (by simp [keep, Nat.mod_one, bl_zero, trl, ones]) rfl) (Nat.zero_le _) ?_
  intro i hi
  have hb := bl_bit w i
  have ho := ones_le w i
  have hbl := bl_le_i w i
  refine Do.seqk fun _ k5_ => ?_
  refine Do.seqk fun _ k6_ => ?_
  refine Do.region [0,5,6,7,8,10] true ?_
  simp [go_sem]
  apply k6_; clear k6_
  refine Do.cond [0,5,6,7,8] rfl (fun h => ?_) (fun h => ?_) <;> simp [go_sem] at h ⊢
  · refine Do.skip ?_
    simp [go_sem]
    apply k5_; clear k5_
    refine Do.seqk fun _ k7_ => ?_
    refine Do.block ?_
    refine Do.seqk fun _ k8_ => ?_
    refine Do.region [0,5,6,7,8,17] true ?_
    simp [go_sem]
    repeat (refine And.intro (by first | omega | (intros; omega) | grind) ?_)
    have hd : w / 2 ^ i < 18446744073709551616 := Nat.lt_of_le_of_lt (Nat.div_le_self _ _) hw
    apply k8_; clear k8_
    refine Do.cond [0,5,6,7,8] rfl (fun h2 => ?_) (fun h2 => ?_) <;> simp [go_sem] at h2 ⊢
    · rw [if_pos h2] at hb
      refine Do.seqk fun _ k9_ => ?_
      refine Do.region [0,5,6,7,8] true ?_
      simp [go_sem]
      repeat (refine And.intro (by first | omega | (intros; omega) | grind) ?_)
      apply k9_; clear k9_
      refine Do.seqk fun _ k10_ => ?_
      refine Do.region [0,5,6,7,8] true ?_
      simp [go_sem]
      repeat (refine And.intro (by first | omega | (intros; omega) | grind) ?_)
      apply k10_; clear k10_
      refine Do.region [0,5,6,7,8] true ?_
      simp [go_sem]
      repeat (refine And.intro (by first | omega | (intros; omega) | grind) ?_)
      apply k7_; clear k7_
      refine Do.region [0,5,6,7,8] true ?_
      simp [go_sem]
      repeat (refine And.intro (by first | omega | (intros; omega) | grind) ?_)
      refine ⟨i + 1, St.le_of ?_ rfl, by omega, by simp; omega⟩
      simp [keep, hb, trl, ones, h2]
      omega
    · rw [if_neg (by omega)] at hb
      refine Do.skip ?_
      simp [go_sem]
      apply k7_; clear k7_
      refine Do.region [0,5,6,7,8] true ?_
      simp [go_sem]
      repeat (refine And.intro (by first | omega | (intros; omega) | grind) ?_)
      refine ⟨i + 1, St.le_of (by simp [keep, hb, trl, ones, h2]) rfl, by omega, by simp; omega⟩
  · refine Do.exit ?_
    simp [go_sem]
    apply k3_; clear k3_
    refine Do.seqk fun _ k11_ => ?_
    refine Do.region [2,3,4] true ?_
    simp [go_sem]
    apply k11_; clear k11_
    refine Do.ret ?_
    simp [endQ, rets, ret1, go_sem]
    repeat (refine And.intro (by first | omega | (intros; omega) | grind) ?_)
    have e : i = 64 := by omega
    subst e
    rw [Nat.mod_eq_of_lt (show w < 2 ^ 64 from hw)]
    exact TLe.refl _
theorem bl_top {n k : Nat} (h : n < 18446744073709551616 ^ (k + 1)) (h0 : n / 18446744073709551616 ^ k % 18446744073709551616 ≠ 0) : bl n = 64 * k + bl (n / 18446744073709551616 ^ k % 18446744073709551616) := by
  have h1 : n / 18446744073709551616 ^ k < 18446744073709551616 := by rw [Nat.div_lt_iff_lt_mul (Nat.pow_pos (by decide))]; rw [Nat.pow_succ, Nat.mul_comm] at h; exact h
  rw [Nat.mod_eq_of_lt h1] at h0 ⊢
  rw [B64_pow] at h0 h1 ⊢
  have := bl_add (lo := n % 2 ^ (64 * k)) (hi := n / 2 ^ (64 * k)) (m := 64 * k) (Nat.mod_lt _ (Nat.pow_pos (by decide))) (Nat.pos_of_ne_zero h0)
  rwa [Nat.mod_add_div] at this
theorem lt_down {n k : Nat} (h : n < 18446744073709551616 ^ (k + 1)) (h0 : n / 18446744073709551616 ^ k % 18446744073709551616 = 0) : n < 18446744073709551616 ^ k := by
  have h1 : n / 18446744073709551616 ^ k < 18446744073709551616 := by rw [Nat.div_lt_iff_lt_mul (Nat.pow_pos (by decide))]; rw [Nat.pow_succ, Nat.mul_comm] at h; exact h
  rw [Nat.mod_eq_of_lt h1, Nat.div_eq_zero_iff] at h0
  rcases h0 with h0 | h0
  · have := Nat.pow_pos (n := k) (show 0 < 18446744073709551616 by decide); omega
  · exact h0
theorem RLen_does {x : List Nat} (hx : x.length ≤ 1073741824) (hw : Ws x) : Does Tryz.prog G 50 [Wd x] (.int .i64 (bl (val x))) := by
  refine Does.of (nt := 33) Tryz.func50 rfl rfl rfl (by simp) ?_
  simp only [argTm, PV.ext, Ce.ext]
  refine Do.seqk fun _ k1_ => ?_
  refine Do.region [0] true ?_
  simp [go_sem]
  apply k1_; clear k1_
  refine Do.seqk fun _ k2_ => ?_
  refine Do.seqk fun _ k3_ => ?_
  refine Do.region [0,3] true ?_
  simp [go_sem]
  repeat (refine And.intro (by first | omega | (intros; omega) | grind) ?_)
  apply k3_; clear k3_
  refine Do.block ?_
  refine Do.loopF [0,3] (fun (i : Nat) => [(3, .int .i64 ((i : Int) - 1))]) (fun (i : Nat) => []) (fun (i : Nat) => i ≤ x.length ∧ val x < 18446744073709551616 ^ i) (fun (i : Nat) => i) (x.length) (fun _ => by first | (simp [go_sem, mixS]; done) | (simp [go_sem, mixS]; rfl)) (St.le_of (by first | rfl | simp [keep]) (by first | rfl | simp [keep])) (⟨Nat.le_refl _, val_lt hw⟩) ?_
  rintro i ⟨hi, hv⟩
  refine Do.seqk fun _ k4_ => ?_
  refine Do.seqk fun _ k5_ => ?_
  refine Do.region [0,3,11] true ?_
  simp [go_sem]
  apply k5_; clear k5_
  refine Do.cond [0,3] rfl (fun h => ?_) (fun h => ?_) <;> simp [go_sem] at h ⊢
  · obtain ⟨k, rfl⟩ : ∃ k, i = k + 1 := ⟨i - 1, by omega⟩
    have hg := ws_get hw (i := k) (by omega)
    obtain ⟨w, hwd⟩ : ∃ w, val x / 18446744073709551616 ^ k % 18446744073709551616 = w := ⟨_, rfl⟩
    have hlt : w < 18446744073709551616 := hwd ▸ Nat.mod_lt _ (by decide)
    rw [hwd] at hg
    have hbl := bl_word hlt
    refine Do.skip ?_
    simp [go_sem]
    apply k4_; clear k4_
    refine Do.seqk fun _ k6_ => ?_
    refine Do.block ?_
    refine Do.seqk fun _ k7_ => ?_
    refine Do.region [0,3,18] true ?_
    simp [go_sem, hg, show (((k + 1 : Nat) : Int) - 1).toNat = k by omega]
    repeat (refine And.intro (by first | omega | (intros; omega) | grind) ?_)
    apply k7_; clear k7_
    refine Do.cond [0,3] rfl (fun h2 => ?_) (fun h2 => ?_) <;> simp [go_sem, hg, show (((k + 1 : Nat) : Int) - 1).toNat = k by omega] at h2 ⊢
    · refine Do.seqk fun _ k8_ => ?_
      refine Do.region [3,4] true ?_
      simp [go_sem, hg, show (((k + 1 : Nat) : Int) - 1).toNat = k by omega]
      repeat (refine And.intro (by first | omega | (intros; omega) | grind) ?_)
      refine DoL.call true 505 rfl rfl rfl rfl (by first | exact trivial | omega | (simp; done) | (simp; omega)) (Count_does hlt) rfl (by first | exact .inl rfl | exact .inr rfl) rfl ?_
      simp [go_sem, hg, show (((k + 1 : Nat) : Int) - 1).toNat = k by omega]
      apply k8_; clear k8_
      refine Do.seqk fun _ k9_ => ?_
      refine Do.region [2] true ?_
      simp [go_sem, hg, show (((k + 1 : Nat) : Int) - 1).toNat = k by omega]
      repeat (refine And.intro (by first | omega | (intros; omega) | grind) ?_)
      apply k9_; clear k9_
      refine Do.ret ?_
      simp [endQ, rets, ret1, go_sem, hg, show (((k + 1 : Nat) : Int) - 1).toNat = k by omega]
      repeat (refine And.intro (by first | omega | (intros; omega) | grind) ?_)
      refine ret_i ?_
      have := bl_top hv (by rw [hwd]; exact h2)
      rw [hwd] at this
      omega
    · refine Do.skip ?_
      simp [go_sem]
      apply k6_; clear k6_
      refine Do.region [0,3] true ?_
      simp [go_sem, hg, show (((k + 1 : Nat) : Int) - 1).toNat = k by omega]
      repeat (refine And.intro (by first | omega | (intros; omega) | grind) ?_)
      refine ⟨k, St.le_of (by first | rfl | simp [keep]) (by first | rfl | simp [keep]), ⟨by omega, lt_down hv (by rw [hwd]; exact h2)⟩, by first | (simp; done) | (simp; omega)⟩
  · refine Do.exit ?_
    simp [go_sem]
    apply k2_; clear k2_
    refine Do.seqk fun _ k10_ => ?_
    refine Do.region [2] true ?_
    simp [go_sem]
    apply k10_; clear k10_
    refine Do.ret ?_
    simp [endQ, rets, ret1, go_sem]
    repeat (refine And.intro (by first | omega | (intros; omega) | grind) ?_)
    refine ret_i ?_
    have e : i = 0 := by omega
    subst e
    have : val x = 0 := by simpa using hv
    rw [this]; rfl
theorem IsZero_does {x : List Nat} (hx : x.length ≤ 1073741824) (hw : Ws x) : Does Tryz.prog G 55 [Wd x] (.v (.c (.b (decide (val x = 0))))) := by
  refine Does.of (nt := 6) Tryz.func55 rfl rfl rfl (by simp) ?_
  simp only [argTm, PV.ext, Ce.ext]
  refine Do.seqk fun _ k1_ => ?_
  refine Do.region [0] true ?_
  simp [go_sem]
  apply k1_; clear k1_
  refine Do.seqk fun _ k2_ => ?_
  refine Do.region [2] true ?_
  simp [go_sem]
  refine DoL.call true 102 rfl rfl rfl rfl (by first | exact trivial | omega | (simp; done) | (simp; omega)) (RLen_does hx hw) rfl (by first | exact .inl rfl | exact .inr rfl) rfl ?_
  simp [go_sem]
  apply k2_; clear k2_
  refine Do.ret ?_
  simp [endQ, rets, ret1, go_sem]
  repeat (refine And.intro (by first | omega | (intros; omega) | grind) ?_)
  refine ret_b ?_
  by_cases h : val x = 0
  · simp [h, bl_zero]
  · have := bl_pos (Nat.pos_of_ne_zero h)
    simp [h]; omega
end Go.Proofs.YtbhokdhkfodpfaaGreatDoor
/- Bits and shifts of the reference. No condition. -/
namespace Go.Proofs.YtbhokdhkfodpfaaGreatDoor
set_option linter.unusedVariables false
set_option linter.unusedSimpArgs false
variable {G : Gl}
set_option maxHeartbeats 2000000
theorem bit_eq {x : List Nat} (hw : Ws x) (i : Int) : (decide (0 ≤ i) && decide (i / 64 < ↑x.length) && x[(i / 64).toNat]?.getD 0 / 2 ^ (i % 64).toNat % 2 == 1) = (decide (0 ≤ i) && decide (val x / 2 ^ i.toNat % 2 = 1)) := by
  rw [Bool.eq_iff_iff, val_bit hw]
  simp
  constructor
  · rintro ⟨⟨a, b⟩, c⟩
    refine ⟨a, ?_⟩
    rwa [show i.toNat / 64 = (i / 64).toNat by omega, show i.toNat % 64 = (i % 64).toNat by omega]
  · rintro ⟨a, c⟩
    rw [show i.toNat / 64 = (i / 64).toNat by omega, show i.toNat % 64 = (i % 64).toNat by omega] at c
    refine ⟨⟨a, ?_⟩, c⟩
    apply Classical.byContradiction
    intro hn
    rw [List.getElem?_eq_none (by omega)] at c
    simp at c
theorem RBit_does {x : List Nat} (hx : x.length ≤ 1073741824) (hw : Ws x) {i : Int} (hi : I64 i) : Does Tryz.prog G 74 [Wd x, .c (.i .i64 i)] (.v (.c (.b (decide (0 ≤ i) && decide (val x / 2 ^ i.toNat % 2 = 1))))) := by
  have hb := hw.get (i / 64).toNat
  obtain ⟨h0, h1⟩ := hi
  refine Does.of (nt := 26) Tryz.func74 rfl rfl rfl (by simp) ?_
  simp only [argTm, PV.ext, Ce.ext]
  refine Do.seqk fun _ k1_ => ?_
  refine Do.region [0,1] true ?_
  simp [go_sem]
  apply k1_; clear k1_
  refine Do.seqk fun _ k2_ => ?_
  refine Do.region [4] true ?_
  simp [go_sem]
  repeat (refine And.intro (by first | omega | (intros; omega) | grind) ?_)
  apply k2_; clear k2_
  refine Do.ret ?_
  simp [endQ, rets, ret1, go_sem]
  repeat (refine And.intro (by first | omega | (intros; omega) | grind) ?_)
  rw [bit_eq hw]
  exact TLe.refl _
/-- How many bits are 1. -/
def pc (n : Nat) : Nat := if h : n = 0 then 0 else n % 2 + pc (n / 2)
termination_by n
decreasing_by omega
theorem pc_zero : pc 0 = 0 := by unfold pc; simp
theorem pc_step (n i : Nat) : pc (n / 2 ^ i) = n / 2 ^ i % 2 + pc (n / 2 ^ (i + 1)) := by
  rw [Nat.pow_succ, ← Nat.div_div_eq_div_mul]
  generalize n / 2 ^ i = m
  by_cases h : m = 0
  · subst h; simp [pc_zero]
  · conv => lhs; unfold pc
    rw [dif_neg h]
theorem tz_odd1 {m : Nat} (h : m % 2 = 1) : tz m = 0 := by unfold tz; rw [dif_neg (by omega), if_pos h]
theorem tz_even {m : Nat} (h : m % 2 = 0) (h0 : m ≠ 0) : tz m = 1 + tz (m / 2) := by conv => lhs; unfold tz
                                                                                     rw [dif_neg h0, if_neg (by omega)]
theorem pc_le (n : Nat) : pc n ≤ bl n := by
  induction n using Nat.strongRecOn with
  | _ n ih =>
    by_cases h : n = 0
    · subst h; simp [pc_zero]
    · unfold pc; rw [dif_neg h]
      have h1 := ih (n / 2) (by omega)
      have h2 : bl n = 1 + bl (n / 2) ∨ n = 1 := by
        by_cases h1 : n = 1
        · exact .inr h1
        · have := bl_add (lo := n % 2) (hi := n / 2) (m := 1) (by omega) (by omega)
          rw [show n % 2 + 2 ^ 1 * (n / 2) = n by omega] at this
          exact .inl this
      rcases h2 with h2 | h2
      · omega
      · subst h2; have : pc 0 = 0 := pc_zero; simp [this]; decide
/-- The lowest bit 1 of those from i on. -/
def tzAt (n i : Nat) : Nat := if n / 2 ^ i = 0 then 0 else i + tz (n / 2 ^ i)
theorem tzAt_zero (n : Nat) : tzAt n 0 = tz n := by
  unfold tzAt
  simp only [Nat.pow_zero, Nat.div_one]
  split
  · rename_i h; rw [h, tz_zero]
  · simp
theorem tzAt_top (n : Nat) : tzAt n (bl n) = 0 := by unfold tzAt; rw [Nat.div_eq_of_lt (bl_self n)]; rfl
theorem tzAt_one {n k : Nat} (h : n / 2 ^ k % 2 = 1) : tzAt n k = k := by unfold tzAt; rw [if_neg (by omega), tz_odd1 h]; rfl
theorem tzAt_none {n k : Nat} (h : n / 2 ^ k % 2 = 0) : tzAt n k = tzAt n (k + 1) := by
  unfold tzAt
  rw [Nat.pow_succ, ← Nat.div_div_eq_div_mul]
  generalize n / 2 ^ k = m at *
  by_cases h0 : m = 0
  · subst h0; rfl
  · rw [if_neg h0, if_neg (by omega), tz_even h h0]; omega
/-- How many bits from i on are 1. -/
def pcAt (n i : Nat) : Nat := pc (n / 2 ^ i)
theorem pcAt_step (n k : Nat) : pcAt n k = n / 2 ^ k % 2 + pcAt n (k + 1) := pc_step n k
theorem pcAt_le (n k : Nat) : pcAt n k ≤ bl n := Nat.le_trans (pc_le _) (bl_mono (Nat.div_le_self _ _))
theorem Bits_does {x : List Nat} (hx : x.length ≤ 1073741824) (hw : Ws x) : Does Tryz.prog G 40 [Wd x] (.t [.c (.i .i64 (tz (val x))), .c (.i .i64 (pc (val x)))]) := by
  have hbl := bl_le_len hw (Nat.le_refl (val x))
  refine Does.of (nt := 22) Tryz.func40 rfl rfl rfl (by simp) ?_
  simp only [argTm, PV.ext, Ce.ext]
  refine Do.seqk fun _ k1_ => ?_
  refine Do.region [0] true ?_
  simp [go_sem]
  apply k1_; clear k1_
  refine Do.seqk fun _ k2_ => ?_
  refine Do.region [0,4,5] true ?_
  simp [go_sem]
  apply k2_; clear k2_
  refine Do.seqk fun _ k3_ => ?_
  refine Do.seqk fun _ k4_ => ?_
  refine Do.region [0,4,5,6] true ?_
  simp [go_sem]
  refine DoL.call true 202 rfl rfl rfl rfl (by first | exact trivial | omega | (simp; done) | (simp; omega)) (RLen_does hx hw) rfl (by first | exact .inl rfl | exact .inr rfl) rfl ?_
  simp [go_sem]
  repeat (refine And.intro (by first | omega | (intros; omega) | grind) ?_)
  apply k4_; clear k4_
  refine Do.block ?_
  refine Do.loopF [0,4,5,6] (fun (i : Nat) => [(4, .int .i64 (tzAt (val x) i)), (5, .int .i64 (pcAt (val x) i)), (6, .int .i64 ((i : Int) - 1))]) (fun (i : Nat) => []) (fun (i : Nat) => i ≤ bl (val x)) (fun (i : Nat) => i) (bl (val x)) (fun _ => by first | (simp [go_sem, mixS]; done) | (simp [go_sem, mixS]; rfl)) (St.le_of (by simp [keep, tzAt_top, show pcAt (val x) (bl (val x)) = 0 by rw [pcAt, Nat.div_eq_of_lt (bl_self _), pc_zero]]) rfl) (Nat.le_refl _) ?_
  intro i hi
  refine Do.seqk fun _ k5_ => ?_
  refine Do.seqk fun _ k6_ => ?_
  refine Do.region [0,4,5,6,11] true ?_
  simp [go_sem]
  apply k6_; clear k6_
  refine Do.cond [0,4,5,6] rfl (fun h => ?_) (fun h => ?_) <;> simp [go_sem] at h ⊢
  · obtain ⟨k, rfl⟩ : ∃ k, i = k + 1 := ⟨i - 1, by omega⟩
    have hbit := @RBit_does G x hx hw (k : Int) (by constructor <;> omega)
    rw [Int.toNat_natCast, show decide (0 ≤ (k : Int)) = true by simp, Bool.true_and] at hbit
    have hp := pcAt_step (val x) k
    have hpl := pcAt_le (val x) (k + 1)
    have hpl2 := pcAt_le (val x) k
    refine Do.skip ?_
    simp [go_sem]
    apply k5_; clear k5_
    refine Do.seqk fun _ k7_ => ?_
    refine Do.block ?_
    refine Do.seqk fun _ k8_ => ?_
    refine Do.region [0,4,5,6,16] true ?_
    simp [go_sem]
    refine DoL.call true 503 rfl rfl rfl rfl (by first | exact trivial | omega | (simp; done) | (simp; omega)) (hbit) rfl (by first | exact .inl rfl | exact .inr rfl) rfl ?_
    simp [go_sem]
    apply k8_; clear k8_
    refine Do.cond [0,4,5,6] rfl (fun h2 => ?_) (fun h2 => ?_) <;> simp [go_sem] at h2 ⊢
    · rw [h2] at hp
      refine Do.seqk fun _ k9_ => ?_
      refine Do.region [0,4,5,6] true ?_
      simp [go_sem]
      apply k9_; clear k9_
      refine Do.region [0,4,5,6] true ?_
      simp [go_sem]
      repeat (refine And.intro (by first | omega | (intros; omega) | grind) ?_)
      apply k7_; clear k7_
      refine Do.region [0,4,5,6] true ?_
      simp [go_sem]
      repeat (refine And.intro (by first | omega | (intros; omega) | grind) ?_)
      refine ⟨k, St.le_of (by simp [keep, hp, tzAt_one h2]; omega) rfl, by omega, by simp⟩
    · rw [h2] at hp
      refine Do.skip ?_
      simp [go_sem]
      apply k7_; clear k7_
      refine Do.region [0,4,5,6] true ?_
      simp [go_sem]
      repeat (refine And.intro (by first | omega | (intros; omega) | grind) ?_)
      refine ⟨k, St.le_of (by simp [keep, hp, tzAt_none h2]) rfl, by omega, by simp⟩
  · refine Do.exit ?_
    simp [go_sem]
    apply k3_; clear k3_
    refine Do.seqk fun _ k10_ => ?_
    refine Do.region [2,3] true ?_
    simp [go_sem]
    apply k10_; clear k10_
    refine Do.ret ?_
    simp [endQ, rets, ret1, go_sem]
    repeat (refine And.intro (by first | omega | (intros; omega) | grind) ?_)
    have e : i = 0 := by omega
    subst e
    rw [tzAt_zero, pcAt, Nat.pow_zero, Nat.div_one]
    exact TLe.refl _
theorem rshr_word (m : Nat) {s : Nat} (hs : s < 64) : m / 18446744073709551616 % 2 ^ s * 2 ^ (64 - s) + m % 18446744073709551616 / 2 ^ s = m / 2 ^ s % 18446744073709551616 := by
  have hB : (18446744073709551616 : Nat) = 2 ^ s * 2 ^ (64 - s) := by rw [← Nat.pow_add, show s + (64 - s) = 64 by omega]
  have hB2 : (18446744073709551616 : Nat) = 2 ^ (64 - s) * 2 ^ s := by rw [hB, Nat.mul_comm]
  have e1 : m % 18446744073709551616 / 2 ^ s = m / 2 ^ s % 2 ^ (64 - s) := by rw [hB, Nat.mod_mul_right_div_self]
  have e2 : m / 2 ^ s % 18446744073709551616 = m / 2 ^ s % 2 ^ (64 - s) + 2 ^ (64 - s) * (m / 2 ^ s / 2 ^ (64 - s) % 2 ^ s) := by rw [hB2, Nat.mod_mul]
  rw [e1, e2, Nat.div_div_eq_div_mul, ← hB, Nat.mul_comm (2 ^ (64 - s)), Nat.add_comm]
theorem shl_word (w : Nat) {s : Nat} (hs : s < 64) : w * 2 ^ (64 - s) % 18446744073709551616 = w % 2 ^ s * 2 ^ (64 - s) := by
  have hB : (18446744073709551616 : Nat) = 2 ^ s * 2 ^ (64 - s) := by rw [← Nat.pow_add, show s + (64 - s) = 64 by omega]
  rw [hB, Nat.mul_mod_mul_right]
theorem set_low {L : List Nat} {i w : Nat} (h : L[i]? = some w) : (List.replicate (i + 1) 0 ++ L.drop (i + 1)).set i w = List.replicate i 0 ++ L.drop i := by
  have hi : i < L.length := (List.getElem?_eq_some_iff.1 h).1
  have hw : L[i] = w := (List.getElem?_eq_some_iff.1 h).2
  rw [List.replicate_succ', List.append_assoc, List.set_append_right _ _ (by simp), List.drop_eq_getElem_cons hi, hw]
  simp
theorem set_low2 {L : List Nat} {i w : Nat} (h : L[i]? = some w) : (List.replicate (i + 1) 0).set i w ++ L.drop (i + 1) = List.replicate i 0 ++ L.drop i := by
  rw [← set_low h, List.set_append_left _ _ (by simp)]
theorem right_step {n k s : Nat} (hs : s < 64) : n / 18446744073709551616 ^ (k + 1) % 2 ^ s * 2 ^ (64 - s) + n / 18446744073709551616 ^ k % 18446744073709551616 / 2 ^ s = n / 2 ^ s / 18446744073709551616 ^ k % 18446744073709551616 := by
  rw [Nat.pow_succ, ← Nat.div_div_eq_div_mul, rshr_word _ hs, Nat.div_div_eq_div_mul, Nat.div_div_eq_div_mul, Nat.mul_comm]
theorem right_fall {n k s : Nat} (hs : s < 64) : n / 18446744073709551616 ^ k % 18446744073709551616 * 2 ^ (64 - s) % 18446744073709551616 = n / 18446744073709551616 ^ k % 2 ^ s * 2 ^ (64 - s) := by
  rw [shl_word _ hs, Nat.mod_mod_of_dvd]
  rw [B64]; exact Nat.pow_dvd_pow 2 (by omega)
theorem Right1_does {x : List Nat} {s : Nat} (hx : x.length ≤ 1073741824) (hw : Ws x) (hs : s < 64) : Does Tryz.prog G 116 [Wd x, .c (.i .i64 s)] (.t [Wn (wds (val x / 2 ^ s) x.length), .c (.n (val x % 2 ^ s * 2 ^ (64 - s)))]) := by
  refine Does.of (nt := 41) Tryz.func116 rfl rfl rfl (by simp) ?_
  simp only [argTm, PV.ext, Ce.ext]
  refine Do.seqk fun _ k1_ => ?_
  refine Do.region [0,1] true ?_
  simp [go_sem]
  apply k1_; clear k1_
  refine Do.seqk fun _ k2_ => ?_
  refine Do.region [0,1,6] true ?_
  simp [go_sem]
  repeat (refine And.intro (by first | omega | (intros; omega) | grind) ?_)
  apply k2_; clear k2_
  refine Do.seqk fun _ k3_ => ?_
  refine Do.region [0,1,6,7] true ?_
  simp [go_sem]
  apply k3_; clear k3_
  refine Do.seqk fun _ k4_ => ?_
  refine Do.seqk fun _ k5_ => ?_
  refine Do.region [0,1,6,7,8] true ?_
  simp [go_sem]
  repeat (refine And.intro (by first | omega | (intros; omega) | grind) ?_)
  apply k5_; clear k5_
  refine Do.block ?_
  refine Do.loopF [0,1,6,7,8] (fun (i : Nat) => [(7, .nat (val x / 18446744073709551616 ^ i % 2 ^ s * 2 ^ (64 - s))), (8, .int .i64 ((i : Int) - 1))]) (fun (i : Nat) => [(102, .wr (List.replicate i 0 ++ (wds (val x / 2 ^ s) x.length).drop i))]) (fun (i : Nat) => i ≤ x.length) (fun (i : Nat) => i) (x.length) (fun _ => by first | (simp [go_sem, mixS]; done) | (simp [go_sem, mixS]; rfl)) (St.le_of (by simp [keep, Nat.div_eq_of_lt (val_lt hw)]) (by simp [keep, List.drop_of_length_le, wds_len])) (Nat.le_refl _) ?_
  intro i hi
  refine Do.seqk fun _ k6_ => ?_
  refine Do.seqk fun _ k7_ => ?_
  refine Do.region [0,1,6,7,8,16] true ?_
  simp [go_sem]
  apply k7_; clear k7_
  refine Do.cond [0,1,6,7,8] rfl (fun h => ?_) (fun h => ?_) <;> simp [go_sem] at h ⊢
  · obtain ⟨k, rfl⟩ : ∃ k, i = k + 1 := ⟨i - 1, by omega⟩
    have hg := ws_get hw (i := k) (by omega)
    have hL := wds_get (n := val x / 2 ^ s) (k := x.length) (i := k) (by omega)
    have hst := right_step (n := val x) (k := k) hs
    have hfa := right_fall (n := val x) (k := k) hs
    obtain ⟨w, hwd⟩ : ∃ w, val x / 18446744073709551616 ^ k % 18446744073709551616 = w := ⟨_, rfl⟩
    have hlt : w < 18446744073709551616 := hwd ▸ Nat.mod_lt _ (by decide)
    have hvlt := Nat.mod_lt (val x / 2 ^ s / 18446744073709551616 ^ k) (show 0 < 18446744073709551616 by decide)
    rw [hwd] at hg hst hfa
    rw [← hst] at hL hvlt
    have hset := set_low2 hL
    refine Do.skip ?_
    simp [go_sem]
    apply k6_; clear k6_
    refine Do.seqk fun _ k8_ => ?_
    refine Do.block ?_
    refine Do.seqk fun _ k9_ => ?_
    refine Do.region [0,1,6,8] true ?_
    simp [go_sem, hg, M64]
    repeat (refine And.intro (by first | omega | (intros; omega) | grind) ?_)
    apply k9_; clear k9_
    refine Do.seqk fun _ k10_ => ?_
    refine Do.region [0,1,6,7,8] true ?_
    simp [go_sem, hg, M64]
    apply k10_; clear k10_
    refine Do.seqk fun _ k11_ => ?_
    refine Do.region [0,1,6,7,8,31] true ?_
    simp [go_sem, hg, M64]
    apply k11_; clear k11_
    refine Do.cond [0,1,6,7,8] rfl (fun h2 => ?_) (fun h2 => ?_) <;> simp [go_sem, hg, M64] at h2 ⊢
    · refine Do.region [0,1,6,7,8] true ?_
      simp [go_sem, hg, M64]
      repeat (refine And.intro (by first | omega | (intros; omega) | grind) ?_)
      rw [hfa]
      apply k8_; clear k8_
      refine Do.region [0,1,6,7,8] true ?_
      simp [go_sem, hg, M64]
      repeat (refine And.intro (by first | omega | (intros; omega) | grind) ?_)
      refine ⟨k, St.le_of rfl (by simp [keep, hset]), by omega, by simp⟩
    · refine Do.skip ?_
      simp [go_sem]
      apply k8_; clear k8_
      refine Do.region [0,1,6,7,8] true ?_
      simp [go_sem, hg, M64]
      repeat (refine And.intro (by first | omega | (intros; omega) | grind) ?_)
      refine ⟨k, St.le_of (by simp [keep, h2, Nat.mod_one]) (by simp [keep, hset]), by omega, by simp⟩
  · refine Do.exit ?_
    simp [go_sem]
    apply k4_; clear k4_
    refine Do.seqk fun _ k12_ => ?_
    refine Do.region [4,5] true ?_
    simp [go_sem]
    apply k12_; clear k12_
    refine Do.ret ?_
    simp [endQ, rets, ret1, go_sem]
    repeat (refine And.intro (by first | omega | (intros; omega) | grind) ?_)
    have e : i = 0 := by omega
    subst e
    refine TLe.t (.cons ?_ (.cons ?_ .nil))
    · simp; exact PLe.refl _
    · simp; exact PLe.refl _
theorem val_drop_div {x : List Nat} (hw : Ws x) (q : Nat) : val (x.drop q) = val x / 18446744073709551616 ^ q := by
  by_cases h : q ≤ x.length
  · have h1 := val_take x q
    have h2 := val_take_lt hw h
    rw [List.length_take, Nat.min_eq_left h] at h1
    rw [← B64_pow] at h2
    rw [h1, Nat.add_comm, Nat.mul_add_div (Nat.pow_pos (by decide)), Nat.div_eq_of_lt h2, Nat.add_zero]
  · rw [List.drop_eq_nil_of_le (by omega), Nat.div_eq_of_lt (Nat.lt_of_lt_of_le (val_lt hw) (Nat.pow_le_pow_right (by decide) (by omega)))]
    rfl
theorem RRight_does {x : List Nat} {s : Nat} (hx : x.length ≤ 1073741824) (hw : Ws x) (hs : s < 9223372036854775808) : Does Tryz.prog G 79 [Wd x, .c (.i .i64 s)] (.v (Wn (nat (val x / 2 ^ s)))) := by
  have hdiv : val x / 2 ^ s = val x / 18446744073709551616 ^ (s / 64) / 2 ^ (s % 64) := by
    rw [B64_pow, Nat.div_div_eq_div_mul, ← Nat.pow_add, show 64 * (s / 64) + s % 64 = s by omega]
  have h1 := @Right1_does G (x.drop (s / 64)) (s % 64) (by simp; omega) (hw.drop _) (by omega)
  rw [val_drop_div hw, ← hdiv, show ((s % 64 : Nat) : Int) = (s : Int) % 64 by omega] at h1
  have h2 := @RTrim_does G (wds (val x / 2 ^ s) (x.drop (s / 64)).length) (by rw [wds_len]; simp; omega) (wds_ws _ _)
  have hlt : val x / 2 ^ s < 18446744073709551616 ^ (x.drop (s / 64)).length := by
    rw [hdiv, ← val_drop_div hw]
    exact Nat.lt_of_le_of_lt (Nat.div_le_self _ _) (val_lt (hw.drop _))
  rw [val_wds, Nat.mod_eq_of_lt hlt] at h2
  have htk : List.take (x.length - s / 64) (x.drop (s / 64)) = x.drop (s / 64) := List.take_of_length_le (by simp)
  have htn : ((s : Int) / 64).toNat = s / 64 := by omega
  generalize wds (val x / 2 ^ s) (x.drop (s / 64)).length = y at *
  generalize val (x.drop (s / 64)) % 2 ^ (s % 64) * 2 ^ (64 - s % 64) = z at *
  refine Does.of (nt := 24) Tryz.func79 rfl rfl rfl (by simp) ?_
  simp only [argTm, PV.ext, Ce.ext]
  refine Do.seqk fun _ k1_ => ?_
  refine Do.region [0,1] true ?_
  simp [go_sem]
  apply k1_; clear k1_
  refine Do.seqk fun _ k2_ => ?_
  refine Do.seqk fun _ k3_ => ?_
  refine Do.region [0,1,11] true ?_
  simp [go_sem]
  repeat (refine And.intro (by first | omega | (intros; omega) | grind) ?_)
  apply k3_; clear k3_
  refine Do.cond [0,1] rfl (fun h => ?_) (fun h => ?_) <;> simp [go_sem] at h ⊢
  · refine Do.seqk fun _ k4_ => ?_
    refine Do.region [4] true ?_
    simp [go_sem]
    apply k4_; clear k4_
    refine Do.ret ?_
    simp [endQ, rets, ret1, go_sem]
    repeat (refine And.intro (by first | omega | (intros; omega) | grind) ?_)
    rw [hdiv, Nat.div_eq_of_lt (Nat.lt_of_lt_of_le (val_lt hw) (Nat.pow_le_pow_right (by decide) (show x.length ≤ s / 64 by omega))), Nat.zero_div, nat_zero]
    exact TLe.v (PLe.z true)
  · refine Do.skip ?_
    simp [go_sem]
    apply k2_; clear k2_
    refine Do.seqk fun _ k5_ => ?_
    refine Do.region [5] true ?_
    simp [go_sem, htk, htn]
    repeat (refine And.intro (by first | omega | (intros; omega) | grind) ?_)
    refine DoL.call true 307 rfl rfl rfl rfl (by first | exact trivial | omega | (simp; done) | (simp; omega)) (h1) rfl (by first | exact .inl rfl | exact .inr rfl) rfl ?_
    simp [go_sem, htk, htn]
    apply k5_; clear k5_
    refine Do.seqk fun _ k6_ => ?_
    refine Do.region [4] true ?_
    simp [go_sem, htk, htn]
    refine DoL.call true 402 rfl rfl rfl rfl (by first | exact trivial | omega | (simp; done) | (simp; omega)) (h2) rfl (by first | exact .inl rfl | exact .inr rfl) rfl ?_
    simp [go_sem, htk, htn]
    apply k6_; clear k6_
    refine Do.ret ?_
    simp [endQ, rets, ret1, go_sem, htk, htn]
    repeat (refine And.intro (by first | omega | (intros; omega) | grind) ?_)
    exact TLe.refl _
end Go.Proofs.YtbhokdhkfodpfaaGreatDoor
/- The floats of the reference. No condition. -/
namespace Go.Proofs.YtbhokdhkfodpfaaGreatDoor
set_option linter.unusedVariables false
set_option linter.unusedSimpArgs false
variable {G : Gl}
set_option maxHeartbeats 2000000
abbrev Md (e : Int) : Prop := -4611686018427387904 ≤ e ∧ e ≤ 4611686018427387904
theorem odd_does {k e : Int} {n : Bool} {m : List Nat} (hm : m.length ≤ 1073741824) (wm : Ws m) (he : Md e) : Does Tryz.prog G 45 [Fl k n e m] (.t [Wn (nat (val m / 2 ^ tz (val m))), .c (.i .i64 (e + tz (val m)))]) := by
  have ht : tz (val m) < 64 * m.length + 1 := by
    by_cases h : val m = 0
    · rw [h, tz_zero]; omega
    · have := tz_bound wm h; omega
  refine Does.of (nt := 20) Tryz.func45 rfl rfl rfl (by simp) ?_
  simp only [argTm, PV.ext, Ce.ext]
  refine Do.seqk fun _ k1_ => ?_
  refine Do.region [1] true ?_
  simp [go_sem]
  apply k1_; clear k1_
  refine Do.seqk fun _ k2_ => ?_
  refine Do.region [1,4] true ?_
  simp [go_sem]
  repeat (refine And.intro (by first | omega | (intros; omega) | grind) ?_)
  refine DoL.call true 103 rfl rfl rfl rfl (by first | exact trivial | omega | (simp; done) | (simp; omega)) (Bits_does hm wm) rfl (by first | exact .inl rfl | exact .inr rfl) rfl ?_
  simp [go_sem]
  apply k2_; clear k2_
  refine Do.seqk fun _ k3_ => ?_
  refine Do.draw [2,3] true (by kernel_rfl) ?_
  simp [go_sem]
  repeat (refine And.intro (by first | omega | (intros; omega) | kernel_rfl | grind) ?_)
  refine DoLD.call true 204 rfl rfl rfl rfl (by first | exact trivial | omega | (simp; done) | (simp; omega)) (RRight_does hm wm (s := tz (val m)) (by omega)) rfl (by first | exact .inl rfl | exact .inr rfl) rfl ?_
  simp [go_sem]
  repeat (refine And.intro (by first | omega | (intros; omega) | kernel_rfl | grind) ?_)
  try (refine And.intro (by kernel_rfl) ?_)
  apply k3_; clear k3_
  refine Do.ret ?_
  simp [endQ, rets, ret1, go_sem]
  repeat (refine And.intro (by first | omega | (intros; omega) | grind) ?_)
  exact TLe.refl _
theorem Good_does {k e : Int} {n : Bool} {m : List Nat} (hm : m.length ≤ 1073741824) (wm : Ws m) : Does Tryz.prog G 19 [Fl k n e m] (.v (.c (.b (canon ⟨k, n, e, val m⟩).2))) := by
  have hz := @IsZero_does G m hm wm
  rcases (show k = 0 ∨ k = 2 ∨ k = 3 ∨ k = 1 ∨ (k ≠ 0 ∧ k ≠ 2 ∧ k ≠ 3 ∧ k ≠ 1) by omega) with hk | hk | hk | hk | hk
  · subst hk
    refine Does.of (nt := 55) Tryz.func19 rfl rfl rfl (by simp) ?_
    simp only [argTm, PV.ext, Ce.ext]
    refine Do.seqk fun _ k1_ => ?_
    refine Do.region [1] true ?_
    simp [go_sem]
    apply k1_; clear k1_
    refine Do.seqk fun _ k2_ => ?_
    refine Do.seqk fun _ k3_ => ?_
    refine Do.region [1,6] true ?_
    simp [go_sem]
    repeat (refine And.intro (by first | omega | (intros; omega) | grind) ?_)
    apply k3_; clear k3_
    refine Do.block ?_
    refine Do.seqk fun _ k4_ => ?_
    refine Do.seqk fun _ k5_ => ?_
    refine Do.region [1,6,7] true ?_
    simp [go_sem]
    apply k5_; clear k5_
    refine Do.cond [1,6,7] rfl (fun h => ?_) (fun h => ?_) <;> simp [go_sem] at h ⊢
    refine Do.skip ?_
    simp [go_sem]
    apply k4_; clear k4_
    refine Do.cond [1,6] rfl (fun h => ?_) (fun h => ?_) <;> simp [go_sem] at h ⊢
    refine Do.seqk fun _ k6_ => ?_
    refine Do.region [2] true ?_
    simp [go_sem]
    repeat (refine And.intro (by first | omega | (intros; omega) | grind) ?_)
    refine DoL.callg true 407 rfl rfl rfl rfl rfl (by simp [go_sem] <;> omega) (fun _ => hz) rfl (by first | exact .inl rfl | exact .inr rfl) rfl ?_
    simp [go_sem]
    apply k6_; clear k6_
    refine Do.ret ?_
    simp [endQ, rets, ret1, go_sem]
    repeat (refine And.intro (by first | omega | (intros; omega) | grind) ?_)
    exact ret_b (by simp [canon])
  · subst hk
    refine Does.of (nt := 55) Tryz.func19 rfl rfl rfl (by simp) ?_
    simp only [argTm, PV.ext, Ce.ext]
    refine Do.seqk fun _ k1_ => ?_
    refine Do.region [1] true ?_
    simp [go_sem]
    apply k1_; clear k1_
    refine Do.seqk fun _ k2_ => ?_
    refine Do.seqk fun _ k3_ => ?_
    refine Do.region [1,6] true ?_
    simp [go_sem]
    repeat (refine And.intro (by first | omega | (intros; omega) | grind) ?_)
    apply k3_; clear k3_
    refine Do.block ?_
    refine Do.seqk fun _ k4_ => ?_
    refine Do.seqk fun _ k5_ => ?_
    refine Do.region [1,6,7] true ?_
    simp [go_sem]
    apply k5_; clear k5_
    refine Do.cond [1,6,7] rfl (fun h => ?_) (fun h => ?_) <;> simp [go_sem] at h ⊢
    refine Do.region [1,6,7] true ?_
    simp [go_sem]
    apply k4_; clear k4_
    refine Do.cond [1,6] rfl (fun h => ?_) (fun h => ?_) <;> simp [go_sem] at h ⊢
    refine Do.seqk fun _ k6_ => ?_
    refine Do.region [2] true ?_
    simp [go_sem]
    repeat (refine And.intro (by first | omega | (intros; omega) | grind) ?_)
    refine DoL.callg true 407 rfl rfl rfl rfl rfl (by simp [go_sem] <;> omega) (fun _ => hz) rfl (by first | exact .inl rfl | exact .inr rfl) rfl ?_
    simp [go_sem]
    apply k6_; clear k6_
    refine Do.ret ?_
    simp [endQ, rets, ret1, go_sem]
    repeat (refine And.intro (by first | omega | (intros; omega) | grind) ?_)
    exact ret_b (by simp [canon])
  · subst hk
    refine Does.of (nt := 55) Tryz.func19 rfl rfl rfl (by simp) ?_
    simp only [argTm, PV.ext, Ce.ext]
    refine Do.seqk fun _ k1_ => ?_
    refine Do.region [1] true ?_
    simp [go_sem]
    apply k1_; clear k1_
    refine Do.seqk fun _ k2_ => ?_
    refine Do.seqk fun _ k3_ => ?_
    refine Do.region [1,6] true ?_
    simp [go_sem]
    repeat (refine And.intro (by first | omega | (intros; omega) | grind) ?_)
    apply k3_; clear k3_
    refine Do.block ?_
    refine Do.seqk fun _ k4_ => ?_
    refine Do.seqk fun _ k5_ => ?_
    refine Do.region [1,6,7] true ?_
    simp [go_sem]
    apply k5_; clear k5_
    refine Do.cond [1,6,7] rfl (fun h => ?_) (fun h => ?_) <;> simp [go_sem] at h ⊢
    refine Do.region [1,6,7] true ?_
    simp [go_sem]
    apply k4_; clear k4_
    refine Do.cond [1,6] rfl (fun h => ?_) (fun h => ?_) <;> simp [go_sem] at h ⊢
    refine Do.seqk fun _ k6_ => ?_
    refine Do.region [1,6,18] true ?_
    simp [go_sem]
    apply k6_; clear k6_
    refine Do.cond [1,6] rfl (fun h => ?_) (fun h => ?_) <;> simp [go_sem] at h ⊢
    refine Do.seqk fun _ k7_ => ?_
    refine Do.region [2] true ?_
    simp [go_sem]
    repeat (refine And.intro (by first | omega | (intros; omega) | grind) ?_)
    refine DoL.callg true 612 rfl rfl rfl rfl rfl (by simp [go_sem] <;> omega) (fun _ => hz) rfl (by first | exact .inl rfl | exact .inr rfl) rfl ?_
    simp [go_sem]
    apply k7_; clear k7_
    refine Do.ret ?_
    simp [endQ, rets, ret1, go_sem]
    repeat (refine And.intro (by first | omega | (intros; omega) | grind) ?_)
    exact ret_b (by simp [canon, Bool.and_assoc])
  · subst hk
    refine Does.of (nt := 55) Tryz.func19 rfl rfl rfl (by simp) ?_
    simp only [argTm, PV.ext, Ce.ext]
    refine Do.seqk fun _ k1_ => ?_
    refine Do.region [1] true ?_
    simp [go_sem]
    apply k1_; clear k1_
    refine Do.seqk fun _ k2_ => ?_
    refine Do.seqk fun _ k3_ => ?_
    refine Do.region [1,6] true ?_
    simp [go_sem]
    repeat (refine And.intro (by first | omega | (intros; omega) | grind) ?_)
    apply k3_; clear k3_
    refine Do.block ?_
    refine Do.seqk fun _ k4_ => ?_
    refine Do.seqk fun _ k5_ => ?_
    refine Do.region [1,6,7] true ?_
    simp [go_sem]
    apply k5_; clear k5_
    refine Do.cond [1,6,7] rfl (fun h => ?_) (fun h => ?_) <;> simp [go_sem] at h ⊢
    refine Do.region [1,6,7] true ?_
    simp [go_sem]
    apply k4_; clear k4_
    refine Do.cond [1,6] rfl (fun h => ?_) (fun h => ?_) <;> simp [go_sem] at h ⊢
    refine Do.seqk fun _ k6_ => ?_
    refine Do.region [1,6,18] true ?_
    simp [go_sem]
    apply k6_; clear k6_
    refine Do.cond [1,6] rfl (fun h => ?_) (fun h => ?_) <;> simp [go_sem] at h ⊢
    refine Do.seqk fun _ k7_ => ?_
    refine Do.region [1,33] true ?_
    simp [go_sem]
    apply k7_; clear k7_
    refine Do.cond [1] rfl (fun h => ?_) (fun h => ?_) <;> simp [go_sem] at h ⊢
    refine Do.seqk fun _ k8_ => ?_
    refine Do.seqk fun _ k9_ => ?_
    refine Do.region [1,47] true ?_
    simp [go_sem]
    repeat (refine And.intro (by first | omega | (intros; omega) | grind) ?_)
    refine DoL.call true 803 rfl rfl rfl rfl (by first | exact trivial | omega | (simp; done) | (simp; omega)) (hz) rfl (by first | exact .inl rfl | exact .inr rfl) rfl ?_
    simp [go_sem]
    repeat (refine And.intro (by first | omega | (intros; omega) | grind) ?_)
    apply k9_; clear k9_
    refine Do.cond [1] rfl (fun h => ?_) (fun h => ?_) <;> simp [go_sem] at h ⊢
    · refine Do.seqk fun _ k10_ => ?_
      refine Do.region [2] true ?_
      simp [go_sem]
      apply k10_; clear k10_
      refine Do.ret ?_
      simp [endQ, rets, ret1, go_sem]
      repeat (refine And.intro (by first | omega | (intros; omega) | grind) ?_)
      refine ret_b ?_
      unfold canon
      rw [if_neg (by simp), if_neg (by simp), if_pos rfl, if_pos (by simp; omega)]
    · refine Do.skip ?_
      simp [go_sem]
      apply k8_; clear k8_
      refine Do.seqk fun _ k11_ => ?_
      refine Do.region [4] true ?_
      simp [go_sem]
      repeat (refine And.intro (by first | omega | (intros; omega) | grind) ?_)
      refine DoL.call true 1002 rfl rfl rfl rfl (by first | exact trivial | omega | (simp; done) | (simp; omega)) (odd_does hm wm ⟨by omega, by omega⟩) rfl (by first | exact .inl rfl | exact .inr rfl) rfl ?_
      simp [go_sem]
      apply k11_; clear k11_
      refine Do.seqk fun _ k12_ => ?_
      refine Do.region [2] true ?_
      simp [go_sem]
      apply k12_; clear k12_
      refine Do.ret ?_
      simp [endQ, rets, ret1, go_sem]
      repeat (refine And.intro (by first | omega | (intros; omega) | grind) ?_)
      refine ret_b ?_
      unfold canon
      rw [if_neg (by simp), if_neg (by simp), if_pos rfl, if_neg (by simp; omega)]
  ·
    refine Does.of (nt := 55) Tryz.func19 rfl rfl rfl (by simp) ?_
    simp only [argTm, PV.ext, Ce.ext]
    refine Do.seqk fun _ k1_ => ?_
    refine Do.region [1] true ?_
    simp [go_sem]
    apply k1_; clear k1_
    refine Do.seqk fun _ k2_ => ?_
    refine Do.seqk fun _ k3_ => ?_
    refine Do.region [1,6] true ?_
    simp [go_sem]
    repeat (refine And.intro (by first | omega | (intros; omega) | grind) ?_)
    apply k3_; clear k3_
    refine Do.block ?_
    refine Do.seqk fun _ k4_ => ?_
    refine Do.seqk fun _ k5_ => ?_
    refine Do.region [1,6,7] true ?_
    simp [go_sem]
    apply k5_; clear k5_
    refine Do.cond [1,6,7] rfl (fun h => ?_) (fun h => ?_) <;> simp [go_sem] at h ⊢
    · exact absurd h hk.1
    · refine Do.region [1,6,7] true ?_
      simp [go_sem]
      apply k4_; clear k4_
      refine Do.cond [1,6] rfl (fun h => ?_) (fun h => ?_) <;> simp [go_sem] at h ⊢
      · exact absurd h hk.2.1
      · refine Do.seqk fun _ k6_ => ?_
        refine Do.region [1,6,18] true ?_
        simp [go_sem]
        apply k6_; clear k6_
        refine Do.cond [1,6] rfl (fun h => ?_) (fun h => ?_) <;> simp [go_sem] at h ⊢
        · exact absurd h hk.2.2.1
        · refine Do.seqk fun _ k7_ => ?_
          refine Do.region [1,33] true ?_
          simp [go_sem]
          apply k7_; clear k7_
          refine Do.cond [1] rfl (fun h => ?_) (fun h => ?_) <;> simp [go_sem] at h ⊢
          · exact absurd h hk.2.2.2
          · refine Do.skip ?_
            simp [go_sem]
            apply k2_; clear k2_
            refine Do.seqk fun _ k8_ => ?_
            refine Do.region [2] true ?_
            simp [go_sem]
            apply k8_; clear k8_
            refine Do.ret ?_
            simp [endQ, rets, ret1, go_sem]
            repeat (refine And.intro (by first | omega | (intros; omega) | grind) ?_)
            exact ret_b (by simp [canon, hk])
/-- The float that the reference takes as canonical. -/
def rcanon (x : Flt) : Flt := if x.k = 1 then ⟨1, x.n, x.e + tz x.v, x.v / 2 ^ tz x.v⟩ else ⟨x.k, x.n, 0, 0⟩
theorem rcanon_good {x : Flt} (h : (canon x).2 = true) : rcanon x = (canon x).1 := by
  unfold rcanon
  unfold canon at h ⊢
  split
  · rename_i hk
    rw [if_neg (by omega), if_neg (by omega), if_pos hk] at h
    rw [if_neg (by omega), if_neg (by omega)]
    split at h
    · cases h
    · rename_i h1; rw [if_neg h1]
  · rename_i hk
    split
    · rfl
    · split
      · rename_i h1 h2
        rw [if_neg h1, if_pos h2] at h
        simp at h
        simp [h, h2]
      · rename_i h1 h2
        rw [if_neg h1, if_neg h2, if_neg hk] at h
        cases h
theorem RGreatest_does {f p : Int} (hf : fmOk f p = true) : Does Tryz.prog G 52 [Fm f p] (.int .i64 (gOfE f)) := by
  obtain ⟨b1, b2, b3, b4⟩ := fmOk_spec hf
  obtain ⟨b5, b6⟩ := gOfE_le b1 b2
  have hg : (2 : Int) ^ (f.toNat - 1) = gOfE f + 1 := by unfold gOfE; omega
  refine Does.of (nt := 8) Tryz.func52 rfl rfl rfl (by simp) ?_
  simp only [argTm, PV.ext, Ce.ext]
  refine Do.seqk fun _ k1_ => ?_
  refine Do.region [1] true ?_
  simp [go_sem]
  apply k1_; clear k1_
  refine Do.seqk fun _ k2_ => ?_
  refine Do.region [2] true ?_
  simp [go_sem]
  repeat (refine And.intro (by first | omega | (intros; omega) | grind) ?_)
  rw [hg]
  repeat (refine And.intro (by omega) ?_)
  apply k2_; clear k2_
  refine Do.ret ?_
  simp [endQ, rets, ret1, go_sem]
  repeat (refine And.intro (by first | omega | (intros; omega) | grind) ?_)
  exact ret_i (by omega)
end Go.Proofs.YtbhokdhkfodpfaaGreatDoor

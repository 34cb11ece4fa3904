/- Walks on pure values: calls and functions. No condition. How walks are computed. No condition. What the types of the code are. No condition. Numbers as words. No condition. The functions of math/bits, as the kit's walks have them. No condition. Regions whose order is open, on pure values. No condition. Regions whose order is open, on pure values: in whatever order they come to one state. No condition. Regions whose order is open: they come to the state of the text's order. No condition. -/
import Derived.Test.YtbhokdhkfodpfaaGreatDoorMb
import Derived.Laws.Externs
import Derived.Test.YtbhokdhkfodpfaaGreatDoorProg
import Derived.KernelRfl
import Derived.Test.YtbhokdhkfodpfaaGreatDoorMa
import Derived.WalkKit
import Derived.Lib.TrailingZeros
import Derived.Lib.BitFns
import Derived.Laws.BitsLemmas
import Derived.Laws.Bits64b
/- Walks on pure values: calls and functions. No condition. -/
namespace Go.Proofs.YtbhokdhkfodpfaaGreatDoor
set_option linter.unusedVariables false
set_option linter.unusedSimpArgs false
/-- The arguments of a call: what is asked, how they read, and whether an object is among them. -/
def argsOf (st : St) : List Operand → Option (Prop × List PV × Bool)
  | [] => some (True, [], false)
  | x :: xs => match opv st.tm x, argsOf st xs with
    | some (.v (.c (.r j n))), some (p, l, b) => match lk j st.ob with
      | some (.wr w) => some (w.length = n ∧ p, .c (.w false w) :: l, true)
      | some (.sr _ w) => some (w.length = n ∧ p, .s false w :: l, true)
      | _ => none
    | some (.v y), some (p, l, b) => some (p, y.ext :: l, b)
    | _, _ => none
def Ce.fr : Ce → Bool
  | .w fr _ => fr
  | .x _ => false
  | _ => true
def csFr : List Ce → Bool
  | [] => true
  | c :: cs => c.fr && csFr cs
def PV.fr : PV → Bool
  | .c x => x.fr
  | .a cs => csFr cs
  | .s .. => false
def psFr : List PV → Bool
  | [] => true
  | c :: cs => c.fr && psFr cs
def TV.fr : TV → Bool
  | .v x => x.fr
  | .t l => psFr l
  | _ => false
def argTm : Nat → List PV → List (Nat × TV)
  | _, [] => []
  | i, x :: xs => (i, .v x.ext) :: argTm (i + 1) xs
/-- A result. -/
def ret1 (P : Program) (st : St) : ResultVar → Option (Prop × PV)
  | .tmp t => match lk t st.tm with
    | some (.v (.c (.r j n))) => match lk j st.ob with
      | some (.wr w) => some (w.length = n, .c (.w true w))
      | some (.sr _ w) => some (w.length = n, .s true w)
      | _ => none
    | some (.v y) => some (True, y)
    | _ => none
  | .cell t ty => match lk t st.tm, tiOf P ty with
    | some (.v (.c (.p j off))), some ti => match lk j st.ob with
      | some (.box cs) => match partOf ti (cs.drop off) with
        | some (.v y) => some (True, y)
        | _ => none
      | _ => none
    | _, _ => none
def rets (P : Program) (st : St) : List ResultVar → Option (Prop × List PV)
  | [] => some (True, [])
  | r :: rs => match ret1 P st r, rets P st rs with
    | some (p, x), some (q, l) => some (p ∧ q, x :: l)
    | _, _ => none
def tvOf : List PV → TV
  | [x] => .v x
  | l => .t l
/-- A value that says no more than another. -/
def PLe (x y : PV) : Prop := ∀ E v, RP E x v → RP E y v
def TLe (x y : TV) : Prop := ∀ E v, RT E x v → RT E y v
def resOf (tmps : Array Value) : ResultVar → Sem Value
  | .tmp t => pure (tmps.getD t undef)
  | .cell a t => do loadVar t (← asAddr (tmps.getD a undef))
/-- What stands at the end of a function. -/
def endQ (P : Program) (rs : List ResultVar) (ret : TV) (e : Exit) (s : St) : Prop :=
  (e = .ret ∨ e = .normal) ∧ match rets P s rs with
    | some (p, l) => p ∧ TLe (tvOf l) ret
    | none => False
theorem PLe.refl (x : PV) : PLe x x := fun _ _ h => h
theorem TLe.refl (x : TV) : TLe x x := fun _ _ h => h
theorem TLe.v {x y : PV} (h : PLe x y) : TLe (.v x) (.v y) := h
theorem TLe.t {l l' : List PV} (h : All2 PLe l l') : TLe (.t l) (.t l') := by
  rintro E v ⟨vs, h1, h2⟩
  refine ⟨vs, h1, ?_⟩
  clear h1
  generalize vs.toList = us at h2
  induction h generalizing us with
  | nil => exact h2
  | cons h _ ih => obtain ⟨u, us', rfl, g1, g2⟩ := h2.cons_iff; exact .cons (h _ _ g1) (ih us' g2)
theorem PLe.z (fr : Bool) : PLe (.c .z) (.c (.w fr [])) := fun E v h => by
  have h' : v = .slice none 0 0 := h
  subst h'
  exact ⟨none, 0, rfl, Nat.le_refl _, fun i x hi => by simp at hi⟩
theorem PLe.zs (fr : Bool) : PLe (.c .z) (.s fr []) := fun E v h => by
  have h' : v = .slice none 0 0 := h
  subst h'
  exact ⟨none, 0, 0, rfl, Nat.le_refl _, fun i x hi => by simp at hi⟩
theorem PLe.ext (x : PV) : PLe x x.ext := by
  intro E v h
  cases x with
  | c x => exact RC.ext h
  | a cs => obtain ⟨vs, h1, h2⟩ := h; exact ⟨vs, h1, exts_RC h2⟩
  | s fr l =>
    obtain ⟨a, c, sz, h1, h2, h3⟩ := h
    exact ⟨a, c, sz, h1, h2, fun i cs hi => let ⟨g1, ad, g2, g3, g4, g5⟩ := h3 i cs hi; ⟨g1, ad, g2, g3, fun e => (by cases e), g5⟩⟩
section
variable {P : Program} {G : Gl} {nt : Nat} {ops l : List Oper} {st : St} {Q : St → Prop} {QE : Exit → St → Prop} {cx : Cx} {a : Act} {W W' : World} {m : Nat → Option Nat} {E : En}
/-- Cells that were made in a call. -/
theorem RC.fresh {E E' : En} (hB : E'.B ≤ E.B) (hok : ∀ b, E.ok b → E.B ≤ b → E'.ok b) (hW : E'.W = E.W) {c : Ce} {v : Value} (hl : c.labs = []) (hf : c.fr = true) (h : RC E c v) : RC E' c v := by
  cases c with
  | w fr l =>
    have hf' : fr = true := hf
    subst hf'
    obtain ⟨a, k, h1, h2, h3⟩ := h
    exact ⟨a, k, h1, h2, fun i x hi => let ⟨ad, g1, g2, g3, g4⟩ := h3 i x hi; ⟨ad, g1, hok _ g2 (g3 rfl), fun e => Nat.le_trans hB (g3 e), by rw [hW]; exact g4⟩⟩
  | p j o => simp [Ce.labs] at hl
  | q j n i o => simp [Ce.labs] at hl
  | r j n => simp [Ce.labs] at hl
  | x s => cases hf
  | _ => exact h
theorem RP.fresh {E E' : En} (hB : E'.B ≤ E.B) (hok : ∀ b, E.ok b → E.B ≤ b → E'.ok b) (hW : E'.W = E.W) {c : PV} {v : Value} (hl : c.labs = []) (hf : c.fr = true) (h : RP E c v) : RP E' c v := by
  cases c with
  | c x => exact RC.fresh hB hok hW hl hf h
  | a cs =>
    obtain ⟨vs, h1, h2⟩ := h
    refine ⟨vs, h1, ?_⟩
    have hf' : csFr cs = true := hf
    have hl' : cs.flatMap Ce.labs = [] := hl
    clear h1
    generalize vs.toList = us at h2
    induction h2 with
    | nil => exact .nil
    | cons g _ ih =>
      simp only [csFr, Bool.and_eq_true] at hf'
      simp only [List.flatMap_cons, List.append_eq_nil_iff] at hl'
      exact .cons (RC.fresh hB hok hW hl'.1 hf'.1 g) (ih hl'.2 hf'.2 hf'.2 hl'.2)
  | s fr l => cases hf
theorem RT.fresh {E E' : En} (hB : E'.B ≤ E.B) (hok : ∀ b, E.ok b → E.B ≤ b → E'.ok b) (hW : E'.W = E.W) {c : TV} {v : Value} (hl : c.labs = []) (hf : c.fr = true) (h : RT E c v) : RT E' c v := by
  cases c with
  | v x => exact RP.fresh hB hok hW hl hf h
  | t l =>
    obtain ⟨vs, h1, h2⟩ := h
    refine ⟨vs, h1, ?_⟩
    have hf' : psFr l = true := hf
    have hl' : l.flatMap PV.labs = [] := hl
    clear h1 hl hf
    generalize vs.toList = us at h2
    induction h2 with
    | nil => exact .nil
    | cons g _ ih =>
      simp only [psFr, Bool.and_eq_true] at hf'
      simp only [List.flatMap_cons, List.append_eq_nil_iff] at hl'
      exact .cons (RP.fresh hB hok hW hl'.1 hf'.1 g) (ih hf'.2 hl'.2)
  | _ => cases hf
/-- The blocks that a callee may read. -/
def okC (cx : Cx) (m : Nat → Option Nat) (st : St) (W : World) (pur : Bool) (b : Nat) : Prop := okOf cx m st.ob W b ∨ (pur = true ∧ ∃ j o, lk j st.ob = some o ∧ m j = some b)
theorem okC_le (cx : Cx) (m : Nat → Option Nat) (st : St) (W : World) (pur : Bool) : EnLe (fun _ => True) (en cx m st.ob W) (enA W (okC cx m st W pur)) :=
  ⟨fun b h => .inl h, fun _ _ => rfl, Nat.zero_le _, fun j _ o ho => by cases ho⟩
theorem row_words (h : RelM G cx m st a W) {j n : Nat} {w : List Nat} (hj : lk j st.ob = some (.wr w)) (hn : w.length = n) {v : Value} (hv : RT (en cx m st.ob W) (.v (.c (.r j n))) v) {E : En} (hW : E.W = W) (fr : Bool) (hok : ∀ b, m j = some b → E.ok b ∧ (fr = true → E.B ≤ b)) : RP E (.c (.w fr w)) v := by
  obtain ⟨q1, q2⟩ := hv.2 _ hj (by simp only [Ob.len]; omega)
  rcases q2 with ⟨z1, z2, z3⟩ | ⟨b, cap, e1, z1, z2, z3, z4⟩
  · have hl : w = [] := by apply List.length_eq_zero_iff.1; omega
    subst hl; subst z2
    exact ⟨none, 0, rfl, Nat.le_refl _, fun i x hi => by simp at hi⟩
  · refine ⟨_, cap, by rw [hn]; exact z2, by omega, fun i x hi => ⟨_, rfl, (hok b z1).1, (hok b z1).2, ?_⟩⟩
    rcases h.ob j _ hj with ⟨y1, y2⟩ | ⟨b', vs, e2, r1, r2, r3⟩
    · subst y1; simp at hi
    obtain rfl := some_unique (show m j = some b from z1) r1
    rw [addr_add0, hW]
    simp only [World.cell?]
    rw [show W.heap[b']? = _ from r2]
    simpa using r3 i x hi
theorem row_structs (h : RelM G cx m st a W) {j n sz : Nat} {w : List (List Ce)} (hj : lk j st.ob = some (.sr sz w)) (hn : w.length = n) {v : Value} (hv : RT (en cx m st.ob W) (.v (.c (.r j n))) v) {E : En} {L : Nat → Prop} (he : EnLe L (en cx m st.ob W) E) (hW : E.W = W) (fr : Bool) (hok : ∀ b, m j = some b → E.ok b ∧ (fr = true → E.B ≤ b)) : RP E (.s fr w) v := by
  obtain ⟨q1, q2⟩ := hv.2 _ hj (by simp only [Ob.len]; omega)
  rcases q2 with ⟨z1, z2, z3⟩ | ⟨b, cap, e1, z1, z2, z3, z4⟩
  · have hl : w = [] := by apply List.length_eq_zero_iff.1; omega
    subst hl; subst z2
    exact ⟨none, 0, 0, rfl, Nat.le_refl _, fun i x hi => by simp at hi⟩
  · refine ⟨_, cap, sz, by rw [hn]; exact z2, by omega, fun i cs hi => ?_⟩
    rcases h.ob j _ hj with ⟨y1, y2⟩ | ⟨b', vs, e2, r1, r2, r3⟩
    · subst y1; simp at hi
    obtain rfl := some_unique (show m j = some b from z1) r1
    obtain ⟨g1, us, g2, g3⟩ := r3 i cs hi
    refine ⟨g1, _, rfl, (hok b' z1).1, (hok b' z1).2, us, g2.mono he, fun q u hq => ?_⟩
    rw [addr_add0, addr_add0, hW]
    simp only [World.cell?]
    rw [show W.heap[b']? = _ from r2]
    simpa using g3 q u hq
theorem argsOf_run (h : RelM G cx m st a W) : ∀ {xs : List Operand} {p : Prop} {l : List PV} {pur : Bool}, argsOf st xs = some (p, l, pur) → p → ∀ pur', (pur = true → pur' = true) → All2 (RP (enA W (okC cx m st W pur'))) l (xs.map a.eval)
  | [], p, l, pur, ha, hp, pur', _ => by simp only [argsOf, Option.some.injEq, Prod.mk.injEq] at ha; obtain ⟨_, rfl, _⟩ := ha; exact .nil
  | x :: xs, p, l, pur, ha, hp, pur', hpp => by
    simp only [argsOf] at ha
    split at ha
    · rename_i j n p' l' b hx hxs
      split at ha
      · rename_i w hj
        simp only [Option.some.injEq, Prod.mk.injEq] at ha; obtain ⟨rfl, rfl, rfl⟩ := ha
        have hpt := hpp rfl
        refine .cons (row_words h hj hp.1 (h.opv hx) rfl false fun b hb => ⟨.inr ⟨hpt, j, _, hj, hb⟩, fun e => (by cases e)⟩) (argsOf_run h hxs hp.2 pur' fun _ => hpt)
      · rename_i sz w hj
        simp only [Option.some.injEq, Prod.mk.injEq] at ha; obtain ⟨rfl, rfl, rfl⟩ := ha
        have hpt := hpp rfl
        refine .cons (row_structs h hj hp.1 (h.opv hx) (okC_le cx m st W pur') rfl false fun b hb => ⟨.inr ⟨hpt, j, _, hj, hb⟩, fun e => (by cases e)⟩) (argsOf_run h hxs hp.2 pur' fun _ => hpt)
      · cases ha
    · rename_i y p' l' b hne hx hxs
      simp only [Option.some.injEq, Prod.mk.injEq] at ha; obtain ⟨rfl, rfl, rfl⟩ := ha
      exact .cons (PLe.ext _ _ _ (RP.mono (okC_le cx m st W pur') (fun _ _ => trivial) (h.opv hx))) (argsOf_run h hxs hp pur' hpp)
    · cases ha
/-- The world behind a call. -/
theorem RelM.below (h : RelM G cx m st a W) (hb : RowKit.Below W.heap.size W W') : RelM G cx m st a W' := by
  have he : EnLe (fun _ => True) (en cx m st.ob W) (en cx m st.ob W') :=
    ⟨fun b ⟨g1, g2, g3⟩ => ⟨g1, Nat.lt_of_lt_of_le g2 hb.size, g3⟩, fun b ⟨g1, g2, g3⟩ => hb.block b g2, Nat.le_refl _, fun j _ o ho => ⟨o, ho, rfl, rfl, Nat.le_refl _, fun _ => ⟨rfl, fun b hmb => shape_of_heap (hb.block b (h.own j o b ho hmb).1)⟩⟩⟩
  exact h.move he (fun _ _ _ _ _ => trivial) hb.size hb.os hb.tape hb.output (fun b hlt _ => hb.block b (Nat.lt_of_lt_of_le hlt h.size)) (fun j o ho => RO.mono he (fun _ _ => trivial) rfl (fun b hmb => hb.block b (h.own j o b ho hmb).1) (h.ob j o ho)) h.inj
    (fun j o b ho hmb => let ⟨g1, g2⟩ := h.own j o b ho hmb; ⟨Nat.lt_of_lt_of_le g1 hb.size, g2⟩) (fun o ho => let ⟨g1, b, g2, g3, g4⟩ := h.pin o ho; ⟨g1, b, g2, g3, (shape_of_heap (hb.block b (h.own _ o b ho g2).1)).trans g4⟩)
theorem RelM.glOk (h : RelM G cx m st a W) : GlOk G W := fun b off x hx => by
  obtain ⟨k1, k2, k3, v, k4, k5⟩ := h.gl b off x hx
  exact ⟨k3, v, by rw [← k4]; exact cell_of_heap (h.keep b k1 k2), k5⟩
theorem call_res (h : RelM G cx m st a W) (hb : RowKit.Below W.heap.size W W') {pur : Bool} {ret : TV} {v : Value} (hl : ret.labs = []) (hf : pur = false ∨ ret.fr = true) (hr : RT (enR W W' (okC cx m st W pur)) ret v) : RT (en cx m st.ob W') ret v := by
  have hown : ∀ b, W.heap.size ≤ b → ∀ j o, lk j st.ob = some o → m j ≠ some b := fun b hlt j o ho e => by have := (h.own j o b ho e).1; omega
  rcases hf with rfl | hf
  · refine RT.mono (L := fun _ => False) (E := enR W W' (okC cx m st W false)) (E' := en cx m st.ob W') ⟨fun b ⟨g1, g2⟩ => ?_, fun _ _ => rfl, h.size, fun _ hF => hF.elim⟩ (fun j hj => by rw [hl] at hj; cases hj) hr
    rcases g1 with (g1 | ⟨e, _⟩) | g1
    · exact ⟨g1.1, g2, g1.2.2⟩
    · cases e
    · exact ⟨.inr (Nat.le_trans h.size g1), g2, hown b g1⟩
  · exact RT.fresh (E := enR W W' (okC cx m st W pur)) (E' := en cx m st.ob W') h.size (fun b ⟨g1, g2⟩ g3 => ⟨.inr (Nat.le_trans h.size g3), g2, hown b g3⟩) rfl hl hf hr
/-- A call. -/
theorem DoL.call {o : Oper} {f : FuncId} {x : Operand} {az : Array Operand} {ts : Array TypeId} {p : Prop} {args : List PV} {pur : Bool} {ret : TV} (md : Bool) (lab : Nat) (hg : o.guard = none) (hop : o.op = .call { callee := .value x, args := az, argTypes := ts })
    (hx : opv st.tm x = some (.v (.c (.f f)))) (ha : argsOf st az.toList = some (p, args, pur)) (hp : p) (hD : Does P G f args ret) (hl : ret.labs = []) (hf : pur = false ∨ ret.fr = true) (hd : dstOk nt o.dst = true)
    (next : runs P G nt md ops Q lab l ⟨setv o.dst (some ret) st.tm, st.ob⟩) : DoL P G nt ops (o :: l) st Q := by
  intro cx a W hn ⟨m, hr⟩ Q' hQ
  refine wpList_plain hg fun K hK => ?_
  unfold Oper.wp
  have hxv : a.eval x = .func (.func f) #[] #[] := hr.opv hx
  have hargs := argsOf_run hr ha hp pur id
  have hok : ∀ b, okC cx m st W pur b → b < W.heap.size := by
    rintro b (h | ⟨_, j, o, h1, h2⟩)
    · exact h.2.1
    · exact (hr.own j o b h1 h2).1
  have hexec : execOp a.eval o = callFunc f (az.toList.map a.eval).toArray := by
    have e1 : (az.toList.map a.eval).toArray = az.map a.eval := by apply Array.ext'; simp
    unfold execOp
    simp [hop, resolve, hxv, Deferred.ofValue, invoke, e1]
  rcases hD W (okC cx m st W pur) _ hok hr.glOk hargs with ⟨h1, h2⟩ | ⟨v, h1, h2⟩
  · rw [hexec, h1]
    refine h2.mono fun e W' ⟨v, he, hb, hrt⟩ => ?_
    subst he
    exact hK _ _ (DoL.run next cx _ _ hn (Rel.put (hr.below hb) hn hd (call_res hr hb hl hf hrt)) Q' hQ)
  · rw [hexec, h1]
    have hb := RowKit.Below.refl W.heap.size W
    exact hK _ _ (DoL.run next cx _ _ hn (Rel.put hr hn hd (call_res hr hb hl hf h2)) Q' hQ)
theorem ret1_run (h : RelM G cx m st a W) (hbo : ∀ b, ¬ cx.bo b) {ok : Nat → Prop} (hok : ∀ b, ok b ↔ cx.okIn b) {r : ResultVar} {p : Prop} {x : PV} (hr : ret1 P st r = some (p, x)) (hp : p) (W0 : World) (hB : W0.heap.size = cx.B) :
    ∃ v, (resOf a.tmps r).run P W = .ok v W ∧ RP (enR W0 W ok) x v := by
  have hle : EnLe (fun _ => True) (en cx m st.ob W) (enR W0 W ok) :=
    ⟨fun b ⟨g1, g2, g3⟩ => ⟨by rw [hB]; exact g1.imp (hok b).2 id, g2⟩, fun _ _ => rfl, by show W0.heap.size ≤ cx.B; omega, fun j _ o ho => by cases ho⟩
  have hown : ∀ j o b, lk j st.ob = some o → m j = some b → (enR W0 W ok).ok b ∧ (true = true → (enR W0 W ok).B ≤ b) := fun j o b h1 h2 => by
    obtain ⟨g1, g2⟩ := h.own j o b h1 h2
    rcases g2 with g2 | g2
    · exact ⟨⟨.inr (by rw [hB]; exact g2), g1⟩, fun _ => by show W0.heap.size ≤ b; omega⟩
    · exact absurd g2.1 (hbo b)
  cases r with
  | tmp t =>
    simp only [ret1] at hr
    split at hr
    · rename_i j n ht
      obtain ⟨v, hv, hrt⟩ := h.tm t _ ht
      have hg : a.tmps.getD t undef = v := by simp [hv]
      split at hr
      · rename_i w hj
        simp only [Option.some.injEq, Prod.mk.injEq] at hr; obtain ⟨rfl, rfl⟩ := hr
        exact ⟨v, by simp [resOf, hg], row_words h hj hp hrt rfl true fun b hb => hown j _ b hj hb⟩
      · rename_i sz w hj
        simp only [Option.some.injEq, Prod.mk.injEq] at hr; obtain ⟨rfl, rfl⟩ := hr
        exact ⟨v, by simp [resOf, hg], row_structs h hj hp hrt hle rfl true fun b hb => hown j _ b hj hb⟩
      · cases hr
    · rename_i y hne ht
      simp only [Option.some.injEq, Prod.mk.injEq] at hr; obtain ⟨rfl, rfl⟩ := hr
      obtain ⟨v, hv, hrt⟩ := h.tm t _ ht
      have hg : a.tmps.getD t undef = v := by simp [hv]
      exact ⟨v, by simp [resOf, hg], RP.mono hle (fun _ _ => trivial) hrt⟩
    · cases hr
  | cell t ty =>
    simp only [ret1] at hr
    split at hr
    · rename_i j off ti ht hty
      obtain ⟨v, hv, hrt⟩ := h.tm t _ ht
      have hg : a.tmps.getD t undef = v := by simp [hv]
      split at hr
      · rename_i cs hj
        split at hr
        · rename_i y hpart
          simp only [Option.some.injEq, Prod.mk.injEq] at hr; obtain ⟨rfl, rfl⟩ := hr
          obtain ⟨b, h1, h2⟩ := hrt.2 cs hj
          subst h2
          obtain ⟨b', vs, e, g1, g2, g3⟩ := h.ob j _ hj
          obtain rfl := some_unique (show m j = some b from h1) g1
          obtain ⟨u, h7, h8⟩ := part_run (P := P) (W := W) hty (At_heap g2 off) (g3.drop off) hpart
          refine ⟨u, ?_, RP.mono hle (fun _ _ => trivial) h8⟩
          simp only [resOf, hg]
          simp only [Instr.loadAt, Instr.sureAddr, pure_bind] at h7
          simpa [asAddr] using h7
        · cases hr
      · cases hr
    · cases hr
theorem rets_run (h : RelM G cx m st a W) (hbo : ∀ b, ¬ cx.bo b) {ok : Nat → Prop} (hok : ∀ b, ok b ↔ cx.okIn b) (W0 : World) (hB : W0.heap.size = cx.B) : ∀ (rs : List ResultVar) {p : Prop} {l : List PV}, rets P st rs = some (p, l) → p →
    ∃ vs : List Value, (rs.mapM (resOf a.tmps)).run P W = .ok vs W ∧ All2 (RP (enR W0 W ok)) l vs
  | [], p, l, hr, hp => by simp only [rets, Option.some.injEq, Prod.mk.injEq] at hr; obtain ⟨_, rfl⟩ := hr; exact ⟨[], by simp, .nil⟩
  | r :: rs, p, l, hr, hp => by
    simp only [rets] at hr
    split at hr
    · rename_i p1 x p2 l' h1 h2
      simp only [Option.some.injEq, Prod.mk.injEq] at hr; obtain ⟨rfl, rfl⟩ := hr
      obtain ⟨v, g1, g2⟩ := ret1_run h hbo hok h1 hp.1 W0 hB
      obtain ⟨vs, g3, g4⟩ := rets_run h hbo hok W0 hB rs h2 hp.2
      refine ⟨v :: vs, ?_, .cons g2 g4⟩
      simp [List.mapM_cons, g1, g3]
    · cases hr
theorem argTm_lk : ∀ (xs : List PV) (i t : Nat) (x : TV), lk t (argTm i xs) = some x → i ≤ t ∧ ∃ y, xs[t - i]? = some y ∧ x = .v y.ext
  | [], i, t, x, h => by simp [argTm, lk] at h
  | y :: ys, i, t, x, h => by
    simp only [argTm, lk] at h
    split at h
    · rename_i hit
      injection h with h
      subst hit h
      exact ⟨Nat.le_refl _, y, by simp, rfl⟩
    · obtain ⟨h1, z, h2, h3⟩ := argTm_lk ys (i + 1) t x h
      refine ⟨by omega, z, ?_, h3⟩
      rw [show t - i = (t - (i + 1)) + 1 by omega]
      simpa using h2
/-- A function. -/
theorem Does.of {f : FuncId} {fn : Func} {c : Code} {args : List PV} {ret : TV} (hf : P.funcs[f]? = some fn) (hname : (fn.name == "runtime.NumGoroutine") = false) (hb : fn.body = some c) (hnt : fn.ntmps = nt) (hal : args.length ≤ nt)
    (h : Do P G nt c ⟨argTm 0 args, []⟩ (endQ P fn.results.toList ret)) : Does P G f args ret := by
  intro W ok vals hok hgl hargs
  refine .inl ⟨?_, ?_⟩
  · have hn' : fn.name ≠ "runtime.NumGoroutine" := by simpa using hname
    simp [callFunc, hf, hn', hb]
  · refine calls_of_wp hf hb ?_
    have hlen := hargs.length
    let cx : Cx := ⟨W.heap.size, W, ok, fun _ => False, nt⟩
    have hR : RelM G cx (fun _ => none) ⟨argTm 0 args, []⟩ { tmps := vals.toArray ++ Array.replicate (fn.ntmps - vals.toArray.size) undef, defers := [] } W := by
      refine ⟨Nat.le_refl _, rfl, rfl, rfl, fun _ _ _ => rfl, rfl, by simp [hnt]; show _ = nt; omega, fun t x hx => ?_, fun j o ho => by simp [lk] at ho, fun j j' o o' b ho => by simp [lk] at ho, fun j o b ho => by simp [lk] at ho, fun b off x hx => ?_, fun b hb => ⟨hok b hb, id⟩, fun o ho => by simp [lk] at ho⟩
      · obtain ⟨_, y, h1, h2⟩ := argTm_lk args 0 t x hx
        simp only [Nat.sub_zero] at h1
        obtain ⟨v, h3, h4⟩ := hargs.get h1
        refine ⟨v, ?_, ?_⟩
        · have : t < vals.length := (List.getElem?_eq_some_iff.1 h3).1
          rw [Array.getElem?_append, if_pos (by simpa using this)]
          simpa using h3
        · subst h2
          have h5 := PLe.ext y _ _ h4
          have hE : ∀ b, (enA W ok).ok b → (en cx (fun _ => none) [] W).ok b := fun b hb => ⟨.inl hb, hok b hb, fun j o ho => by simp [lk] at ho⟩
          show RP _ y.ext v
          have rc : ∀ {c : Ce} {v : Value}, RC (enA W ok) c.ext v → RC (en cx (fun _ => none) [] W) c.ext v := fun {c v} h => by
            cases c with
            | w fr l => obtain ⟨a, k, g1, g2, g3⟩ := h; exact ⟨a, k, g1, g2, fun i x hi => let ⟨ad, q1, q2, q3, q4⟩ := g3 i x hi; ⟨ad, q1, hE _ q2, fun e => (by cases e), q4⟩⟩
            | p j o => exact ⟨h.1, fun cs hcs => by simp [en, lk] at hcs⟩
            | q j n i o => exact ⟨h.1, fun cs hcs => by simp [en, lk] at hcs⟩
            | r j n => exact ⟨h.1, fun cs hcs => by simp [en, lk] at hcs⟩
            | x s => exact s.mono _ _ _ _ _ hE (fun _ _ => rfl) h
            | _ => exact h
          have rcs : ∀ {cs : List Ce} {vs : List Value}, All2 (RC (enA W ok)) (exts cs) vs → All2 (RC (en cx (fun _ => none) [] W)) (exts cs) vs := fun {cs} => by
            induction cs with
            | nil => intro vs h; exact (h.nil_iff) ▸ .nil
            | cons c cs ih => intro vs h; obtain ⟨u, us, rfl, g1, g2⟩ := h.cons_iff; exact .cons (rc g1) (ih g2)
          cases y with
          | c c => exact rc h5
          | a cs => obtain ⟨vs, g1, g2⟩ := h5; exact ⟨vs, g1, rcs g2⟩
          | s fr l =>
            obtain ⟨a, k, sz, g1, g2, g3⟩ := h5
            refine ⟨a, k, sz, g1, g2, fun i cs hi => ?_⟩
            obtain ⟨q1, ad, q2, q3, q4, vs, q5, q6⟩ := g3 i cs hi
            refine ⟨q1, ad, q2, hE _ q3, fun e => (by cases e), vs, ⟨q5.1, q5.2.mono' fun c hc v hv => ?_⟩, q6⟩
            have hcp := q5.1 c hc
            have hce : c.ext = c := by cases c <;> first | rfl | (simp [Ce.pure] at hcp; subst hcp; rfl)
            rw [← hce]; exact rc (by rw [hce]; exact hv)
      · obtain ⟨h1, v, h2, h3⟩ := hgl b off x hx
        have hlt : b < W.heap.size := by
          have := World.block_lt_of_cell? W _ h2; exact this
        exact ⟨hlt, id, h1, v, h2, h3⟩
    refine Code.wp_mono (fun e a' W' ⟨s, hq, m', hs⟩ => ?_) (h cx _ W rfl ⟨_, hR⟩)
    obtain ⟨he, hret⟩ := hq
    split at hret
    · rename_i p l hrets
      obtain ⟨hp, htle⟩ := hret
      obtain ⟨vs, g1, g2⟩ := rets_run hs (fun b hb => hb) (ok := ok) (fun b => Iff.rfl) W rfl fn.results.toList hrets hp
      have hres : ∃ v, (results fn a'.tmps).run P W' = .ok v W' ∧ RT (enR W W' ok) (tvOf l) v := by
        have hfun : results fn a'.tmps = (do let vs ← fn.results.mapM (resOf a'.tmps); pure (if h : vs.size = 1 then vs[0] else .tuple vs)) := by
          unfold results
          congr 1
        rw [hfun]
        simp only [Sem.run_bind, Array.mapM_eq_mapM_toList, Sem.run_map, g1, Result.andThen_ok]
        cases g2 with
        | nil => exact ⟨.tuple #[], by simp, #[], rfl, .nil⟩
        | cons hx hxs =>
          cases hxs with
          | nil => exact ⟨_, by simp, hx⟩
          | @cons y2 v2 ys2 vs2 hy hys => exact ⟨.tuple (_ :: v2 :: vs2).toArray, by simp, _, rfl, .cons hx (.cons hy hys)⟩
      obtain ⟨v, r1, r2⟩ := hres
      have hbelow : RowKit.Below W.heap.size W W' := ⟨hs.os, hs.tape, hs.output, hs.size, fun k hk => hs.keep k hk id⟩
      rcases he with rfl | rfl
      · exact ⟨hs.df, v, r1, v, rfl, hbelow, htle _ _ r2⟩
      · exact ⟨hs.df, v, r1, v, rfl, hbelow, htle _ _ r2⟩
    · exact hret.elim
end
end Go.Proofs.YtbhokdhkfodpfaaGreatDoor
/- How walks are computed. No condition. -/
namespace Go.Proofs.YtbhokdhkfodpfaaGreatDoor
set_option linter.unusedVariables false
set_option linter.unusedSimpArgs false
attribute [go_sem] stepO stepV stepM stepB setv dstOk isPick gOf unw tests tmpsOf opTmps opv cval cellOf cellsOf mkI bin binI binN binS un conv build over PV.cells TV.cells TV.gbool ints minL maxL
attribute [go_sem] loadM storeM indexM sliceM fieldM appendM wsrc ssrc wordsOf rowsOf partOf isWord bnd lenTV TK.agg Eff.isNew Eff.app Eff.fresh St.free tmHas obHas TV.has PV.has psHas csHas Ce.has exts Ce.ext allPure Ce.pure
attribute [go_sem] lk put del keep runs thenQ blockQ St.only argTm PV.ext Ob.len Ob.sz Ob.isBox
end Go.Proofs.YtbhokdhkfodpfaaGreatDoor
/- What the types of the code are. No condition. -/
namespace Go.Proofs.YtbhokdhkfodpfaaGreatDoor
set_option linter.unusedVariables false
set_option linter.unusedSimpArgs false
@[go_sem] theorem ti2 : tiOf Tryz.prog 2 = some ⟨1, 8, [.i .i64 0], .int .i64⟩ := by kernel_rfl
@[go_sem] theorem ti3 : tiOf Tryz.prog 3 = some ⟨1, 8, [.i .i64 0], .int .i64⟩ := by kernel_rfl
@[go_sem] theorem ti4 : tiOf Tryz.prog 4 = some ⟨1, 1, [.b false], .bool⟩ := by kernel_rfl
@[go_sem] theorem ti5 : tiOf Tryz.prog 5 = some ⟨1, 1, [.i .u8 0], .int .u8⟩ := by kernel_rfl
@[go_sem] theorem ti8 : tiOf Tryz.prog 8 = some ⟨4, 24, [.i .i64 0, .i .i64 0, .b false, .i .u8 0], .struct [(0, 1), (1, 1), (2, 1), (3, 1)]⟩ := by kernel_rfl
@[go_sem] theorem ti15 : tiOf Tryz.prog 15 = some ⟨1, 8, [.o], .other⟩ := by kernel_rfl
@[go_sem] theorem ti16 : tiOf Tryz.prog 16 = some ⟨1, 8, [.o], .other⟩ := by kernel_rfl
@[go_sem] theorem ti17 : tiOf Tryz.prog 17 = some ⟨1, 8, [.o], .other⟩ := by kernel_rfl
@[go_sem] theorem ti19 : tiOf Tryz.prog 19 = some ⟨1, 8, [.o], .struct [(0, 1)]⟩ := by kernel_rfl
@[go_sem] theorem ti23 : tiOf Tryz.prog 23 = some ⟨2, 16, [.i .i64 0, .i .i64 0], .struct [(0, 1), (1, 1)]⟩ := by kernel_rfl
@[go_sem] theorem ti24 : tiOf Tryz.prog 24 = some ⟨1, 8, [.i .i64 0], .int .i64⟩ := by kernel_rfl
@[go_sem] theorem ti25 : tiOf Tryz.prog 25 = some ⟨1, 8, [.i .i64 0], .int .i64⟩ := by kernel_rfl
@[go_sem] theorem ti26 : tiOf Tryz.prog 26 = some ⟨1, 24, [.z], .slice 76⟩ := by kernel_rfl
@[go_sem] theorem ti27 : tiOf Tryz.prog 27 = some ⟨1, 24, [.z], .slice 76⟩ := by kernel_rfl
@[go_sem] theorem ti29 : tiOf Tryz.prog 29 = some ⟨4, 48, [.i .i64 0, .b false, .i .i64 0, .z], .struct [(0, 1), (1, 1), (2, 1), (3, 1)]⟩ := by kernel_rfl
@[go_sem] theorem ti34 : tiOf Tryz.prog 34 = some ⟨4, 48, [.i .i64 0, .b false, .i .i64 0, .z], .struct [(0, 1), (1, 1), (2, 1), (3, 1)]⟩ := by kernel_rfl
@[go_sem] theorem ti38 : tiOf Tryz.prog 38 = some ⟨2, 32, [.b false, .z], .struct [(0, 1), (1, 1)]⟩ := by kernel_rfl
@[go_sem] theorem ti40 : tiOf Tryz.prog 40 = some ⟨3, 56, [.b false, .z, .z], .struct [(0, 2), (2, 1)]⟩ := by kernel_rfl
@[go_sem] theorem ti45 : tiOf Tryz.prog 45 = some ⟨2, 16, [.i .i64 0, .i .i64 0], .struct [(0, 1), (1, 1)]⟩ := by kernel_rfl
@[go_sem] theorem ti47 : tiOf Tryz.prog 47 = some ⟨1, 8, [.i .i64 0], .int .i64⟩ := by kernel_rfl
@[go_sem] theorem ti48 : tiOf Tryz.prog 48 = some ⟨1, 8, [.i .i64 0], .int .i64⟩ := by kernel_rfl
@[go_sem] theorem ti58 : tiOf Tryz.prog 58 = some ⟨1, 24, [.z], .slice 34⟩ := by kernel_rfl
@[go_sem] theorem ti72 : tiOf Tryz.prog 72 = some ⟨1, 24, [.z], .slice 29⟩ := by kernel_rfl
@[go_sem] theorem ti76 : tiOf Tryz.prog 76 = some ⟨1, 8, [.n 0], .int .u64⟩ := by kernel_rfl
@[go_sem] theorem ti119 : tiOf Tryz.prog 119 = some ⟨3, 40, [.b false, .z, .i .i64 0], .struct [(0, 1), (1, 1), (2, 1)]⟩ := by kernel_rfl
@[go_sem] theorem ti134 : tiOf Tryz.prog 134 = some ⟨3, 32, [.z, .b false, .b false], .struct [(0, 1), (1, 1), (2, 1)]⟩ := by kernel_rfl
@[go_sem] theorem ti146 : tiOf Tryz.prog 146 = some ⟨1, 8, [.i .i64 0], .int .i64⟩ := by kernel_rfl
@[go_sem] theorem ti166 : tiOf Tryz.prog 166 = some ⟨1, 8, [.x nilSx], .other⟩ := by kernel_rfl
@[go_sem] theorem ti167 : tiOf Tryz.prog 167 = some ⟨5, 40, [.x nilSx, .x nilSx, .x nilSx, .x nilSx, .x nilSx], .array 5 166⟩ := by kernel_rfl
@[go_sem] theorem ti168 : tiOf Tryz.prog 168 = some ⟨1, 8, [.n 0], .int .u64⟩ := by kernel_rfl
@[go_sem] theorem ti178 : tiOf Tryz.prog 178 = some ⟨1, 8, [.o], .other⟩ := by kernel_rfl
@[go_sem] theorem ti188 : tiOf Tryz.prog 188 = some ⟨1, 1, [.i .u8 0], .int .u8⟩ := by kernel_rfl
@[go_sem] theorem ib4 : isBool Tryz.prog 4 = true := by kernel_rfl
end Go.Proofs.YtbhokdhkfodpfaaGreatDoor
/- Numbers as words. No condition. -/
namespace Go.Proofs.YtbhokdhkfodpfaaGreatDoor
set_option linter.unusedVariables false
set_option linter.unusedSimpArgs false
/-- The number of words. -/
def val : List Nat → Nat
  | [] => 0
  | w :: l => w + 18446744073709551616 * val l
/-- Words. -/
def Ws (l : List Nat) : Prop := ∀ w ∈ l, w < 18446744073709551616
/-- The words without those that are 0 at the end. -/
def norm : List Nat → List Nat
  | [] => []
  | w :: l => match norm l with
    | [] => if w = 0 then [] else [w]
    | l' => w :: l'
theorem Ws.cons {w : Nat} {l : List Nat} : Ws (w :: l) ↔ w < 18446744073709551616 ∧ Ws l := by simp [Ws]
theorem Ws.get {l : List Nat} (h : Ws l) (i : Nat) : l[i]?.getD 0 < 18446744073709551616 := by
  cases hi : l[i]? with
  | none => simp
  | some w => exact h w (List.mem_of_getElem? hi)
theorem norm_cons (w : Nat) (l : List Nat) : norm (w :: l) = if norm l = [] ∧ w = 0 then [] else w :: norm l := by
  simp only [norm]
  split
  · rename_i h; rw [h]; by_cases hw : w = 0 <;> simp [hw]
  · rename_i h; rw [if_neg (fun hc => h hc.1)]
theorem norm_nil_iff : ∀ {x : List Nat}, norm x = [] ↔ ∀ i : Nat, x[i]?.getD 0 = 0
  | [] => by simp [norm]
  | w :: l => by
    rw [norm_cons]
    constructor
    · intro h i
      split at h
      · rename_i hc
        cases i with
        | zero => simpa using hc.2
        | succ i => simpa using (norm_nil_iff.1 hc.1) i
      · cases h
    · intro h
      rw [if_pos ⟨norm_nil_iff.2 fun i => by simpa using h (i + 1), by simpa using h 0⟩]
theorem norm_of : ∀ {x : List Nat} {n : Nat}, n ≤ x.length → (∀ j, n ≤ j → x[j]?.getD 0 = 0) → (0 < n → x[n - 1]?.getD 0 ≠ 0) → norm x = x.take n
  | [], n, _, _, _ => by simp [norm]
  | w :: l, 0, _, h, _ => by
    rw [norm_nil_iff.2 fun i => h i (Nat.zero_le _)]; rfl
  | w :: l, n + 1, hn, h, h2 => by
    have ih := norm_of (x := l) (n := n) (by simpa using hn) (fun j hj => by simpa using h (j + 1) (by omega))
    rw [norm_cons]
    by_cases hn0 : n = 0
    · subst hn0
      have hw : w ≠ 0 := by simpa using h2 (by omega)
      rw [ih (by omega)]; simp [hw]
    · have h3 : l[n - 1]?.getD 0 ≠ 0 := by
        have := h2 (by omega)
        rw [show n + 1 - 1 = (n - 1) + 1 by omega] at this
        simpa using this
      rw [ih fun _ => h3, if_neg]
      · rfl
      · rintro ⟨h4, _⟩
        have : l.take n = [] := h4
        rw [← ih fun _ => h3] at this
        exact h3 (norm_nil_iff.1 this (n - 1))
theorem val_norm : ∀ x : List Nat, val (norm x) = val x
  | [] => rfl
  | w :: l => by
    rw [norm_cons]
    split
    · rename_i h
      have := val_norm l
      rw [h.1] at this
      simp only [val] at this ⊢
      omega
    · simp only [val, val_norm l]
theorem norm_ws {x : List Nat} (h : Ws x) : Ws (norm x) := by
  induction x with
  | nil => exact h
  | cons w l ih =>
    rw [Ws.cons] at h
    rw [norm_cons]
    split
    · simp [Ws]
    · exact Ws.cons.2 ⟨h.1, ih h.2⟩
theorem norm_norm (x : List Nat) : norm (norm x) = norm x := by
  induction x with
  | nil => rfl
  | cons w l ih =>
    rw [norm_cons]
    split
    · rfl
    · rename_i h; rw [norm_cons, ih, if_neg h]
theorem norm_length (x : List Nat) : (norm x).length ≤ x.length := by
  induction x with
  | nil => exact Nat.le_refl _
  | cons w l ih =>
    rw [norm_cons]
    split
    · simp
    · simpa using ih
/-- Canonical words. -/
def Cn (x : List Nat) : Prop := norm x = x
theorem val_inj : ∀ {x y : List Nat}, Ws x → Ws y → Cn x → Cn y → val x = val y → x = y
  | [], [], _, _, _, _, _ => rfl
  | [], w :: l, _, hy, _, cy, h => by
    exfalso
    rw [Ws.cons] at hy
    simp only [val] at h
    have hw : w = 0 := by omega
    have hv : val l = 0 := by omega
    unfold Cn at cy
    rw [norm_cons] at cy
    split at cy
    · cases cy
    · rename_i hc
      injection cy with _ cl
      have := val_inj (x := []) (y := l) (by simp [Ws]) hy.2 rfl cl (by simpa [val] using hv.symm)
      subst this
      exact hc ⟨rfl, hw⟩
  | w :: l, [], hx, _, cx, _, h => by
    exfalso
    rw [Ws.cons] at hx
    simp only [val] at h
    have hw : w = 0 := by omega
    have hv : val l = 0 := by omega
    unfold Cn at cx
    rw [norm_cons] at cx
    split at cx
    · cases cx
    · rename_i hc
      injection cx with _ cl
      have := val_inj (x := l) (y := []) hx.2 (by simp [Ws]) cl rfl (by simpa [val] using hv)
      subst this
      exact hc ⟨rfl, hw⟩
  | v :: k, w :: l, hx, hy, cx, cy, h => by
    rw [Ws.cons] at hx hy
    simp only [val] at h
    have hvw : v = w := by omega
    have hkl : val k = val l := by omega
    unfold Cn at cx cy
    rw [norm_cons] at cx cy
    split at cx
    · cases cx
    split at cy
    · cases cy
    injection cx with _ cx
    injection cy with _ cy
    rw [hvw, val_inj hx.2 hy.2 cx cy hkl]
/-- The canonical words of a number. -/
def nat (n : Nat) : List Nat := if h : n = 0 then [] else n % 18446744073709551616 :: nat (n / 18446744073709551616)
termination_by n
decreasing_by omega
theorem val_nat (n : Nat) : val (nat n) = n := by
  induction n using Nat.strongRecOn with
  | _ n ih =>
    unfold nat
    split
    · rename_i h; simp [val, h]
    · simp only [val]
      rw [ih _ (by omega)]; omega
theorem nat_ws (n : Nat) : Ws (nat n) := by
  induction n using Nat.strongRecOn with
  | _ n ih =>
    unfold nat
    split
    · simp [Ws]
    · exact Ws.cons.2 ⟨Nat.mod_lt _ (by omega), ih _ (by omega)⟩
theorem nat_cn (n : Nat) : Cn (nat n) := by
  induction n using Nat.strongRecOn with
  | _ n ih =>
    unfold nat
    split
    · rfl
    · rename_i h
      unfold Cn
      rw [norm_cons, ih _ (by omega), if_neg]
      rintro ⟨h1, h2⟩
      have := val_nat (n / 18446744073709551616)
      rw [h1] at this
      simp only [val] at this
      omega
/-- Words are the canonical ones of their number, behind a trim. -/
theorem norm_nat {x : List Nat} (h : Ws x) : norm x = nat (val x) :=
  val_inj (norm_ws h) (nat_ws _) (norm_norm x) (nat_cn _) (by rw [val_norm, val_nat])
theorem val_append (x y : List Nat) : val (x ++ y) = val x + 18446744073709551616 ^ x.length * val y := by
  induction x with
  | nil => simp [val]
  | cons w l ih => simp only [List.cons_append, val, ih, List.length_cons, Nat.pow_succ]; rw [Nat.mul_add, Nat.add_assoc, ← Nat.mul_assoc, Nat.mul_comm (18446744073709551616 ^ l.length)]
theorem val_lt {x : List Nat} (h : Ws x) : val x < 18446744073709551616 ^ x.length := by
  induction x with
  | nil => simp [val]
  | cons w l ih =>
    rw [Ws.cons] at h
    have := ih h.2
    simp only [val, List.length_cons, Nat.pow_succ]
    omega
end Go.Proofs.YtbhokdhkfodpfaaGreatDoor
/- The functions of math/bits, as the kit's walks have them. No condition. -/
namespace Go.Proofs.YtbhokdhkfodpfaaGreatDoor
set_option linter.unusedVariables false
set_option linter.unusedSimpArgs false
open Go.RowKit
theorem bits_Len64.get (y : Int) (h : y.toNat < Lib.len8tab.size) : ((Lib.len8tab[y.toNat]'h).toNat : Int) = Lib.len8 y := by
  unfold Lib.len8
  rw [getElem?_pos Lib.len8tab y.toNat h]
  rfl
theorem bits_Len64.fin (k : Nat) (y : Int) (x : Nat) (h0 : 0 ≤ y) (h1 : y ≤ 255) (hk : k ≤ 56) (h : Lib.bitLen x = k + Lib.bitLen y.toNat) : wrap64 ((k : Int) + wrap64 (Lib.len8 y)) = (Lib.bitLen x : Int) := by
  have l := Lib.bitLen_le8' y h0 h1
  rw [Lib.len8_of y h0 h1, h]
  unfold wrap64
  omega
theorem bits_Len64.fin0 (x : Int) (h0 : 0 ≤ x) (h1 : x ≤ 255) : wrap64 (wrap64 (Lib.len8 x)) = (Lib.bitLen x.toNat : Int) := by
  have l := Lib.bitLen_le8' x h0 h1
  rw [Lib.len8_of x h0 h1]
  unfold wrap64
  omega
theorem bits_Len64.at56 (x : Int) (h0 : 0 ≤ x) (h1 : x ≤ 18446744073709551615) (hd : 72057594037927936 ≤ x) (h2 : x / 4294967296 / 65536 / 256 ≤ 255) : wrap64 (56 + wrap64 (Lib.len8 (x / 4294967296 / 65536 / 256))) = (Lib.bitLen x.toNat : Int) := by
  refine bits_Len64.fin 56 (x / 4294967296 / 65536 / 256) x.toNat (by omega) h2 (by omega) ?_
  have e : (x / 4294967296 / 65536 / 256).toNat = x.toNat / 72057594037927936 := by omega
  rw [e]
  exact Lib.bitLen_shift56 x.toNat (by omega) (by omega)
theorem bits_Len64.at48 (x : Int) (h0 : 0 ≤ x) (h1 : x ≤ 18446744073709551615) (hd : 281474976710656 ≤ x) (h2 : x / 4294967296 / 65536 ≤ 255) : wrap64 (48 + wrap64 (Lib.len8 (x / 4294967296 / 65536))) = (Lib.bitLen x.toNat : Int) := by
  refine bits_Len64.fin 48 (x / 4294967296 / 65536) x.toNat (by omega) h2 (by omega) ?_
  have e : (x / 4294967296 / 65536).toNat = x.toNat / 281474976710656 := by omega
  rw [e]
  exact Lib.bitLen_shift48 x.toNat (by omega) (by omega)
theorem bits_Len64.at40 (x : Int) (h0 : 0 ≤ x) (h1 : x ≤ 18446744073709551615) (hd : 1099511627776 ≤ x) (h2 : x / 4294967296 / 256 ≤ 255) : wrap64 (40 + wrap64 (Lib.len8 (x / 4294967296 / 256))) = (Lib.bitLen x.toNat : Int) := by
  refine bits_Len64.fin 40 (x / 4294967296 / 256) x.toNat (by omega) h2 (by omega) ?_
  have e : (x / 4294967296 / 256).toNat = x.toNat / 1099511627776 := by omega
  rw [e]
  exact Lib.bitLen_shift40 x.toNat (by omega) (by omega)
theorem bits_Len64.at32 (x : Int) (h0 : 0 ≤ x) (h1 : x ≤ 18446744073709551615) (hd : 4294967296 ≤ x) (h2 : x / 4294967296 ≤ 255) : wrap64 (32 + wrap64 (Lib.len8 (x / 4294967296))) = (Lib.bitLen x.toNat : Int) := by
  refine bits_Len64.fin 32 (x / 4294967296) x.toNat (by omega) h2 (by omega) ?_
  have e : (x / 4294967296).toNat = x.toNat / 4294967296 := by omega
  rw [e]
  exact Lib.bitLen_shift32 x.toNat (by omega) (by omega)
theorem bits_Len64.at24 (x : Int) (h0 : 0 ≤ x) (h1 : x ≤ 18446744073709551615) (hd : 16777216 ≤ x) (h2 : x / 65536 / 256 ≤ 255) : wrap64 (24 + wrap64 (Lib.len8 (x / 65536 / 256))) = (Lib.bitLen x.toNat : Int) := by
  refine bits_Len64.fin 24 (x / 65536 / 256) x.toNat (by omega) h2 (by omega) ?_
  have e : (x / 65536 / 256).toNat = x.toNat / 16777216 := by omega
  rw [e]
  exact Lib.bitLen_shift24 x.toNat (by omega) (by omega)
theorem bits_Len64.at16 (x : Int) (h0 : 0 ≤ x) (h1 : x ≤ 18446744073709551615) (hd : 65536 ≤ x) (h2 : x / 65536 ≤ 255) : wrap64 (16 + wrap64 (Lib.len8 (x / 65536))) = (Lib.bitLen x.toNat : Int) := by
  refine bits_Len64.fin 16 (x / 65536) x.toNat (by omega) h2 (by omega) ?_
  have e : (x / 65536).toNat = x.toNat / 65536 := by omega
  rw [e]
  exact Lib.bitLen_shift16 x.toNat (by omega) (by omega)
theorem bits_Len64.at8 (x : Int) (h0 : 0 ≤ x) (h1 : x ≤ 18446744073709551615) (hd : 256 ≤ x) (h2 : x / 256 ≤ 255) : wrap64 (8 + wrap64 (Lib.len8 (x / 256))) = (Lib.bitLen x.toNat : Int) := by
  refine bits_Len64.fin 8 (x / 256) x.toNat (by omega) h2 (by omega) ?_
  have e : (x / 256).toNat = x.toNat / 256 := by omega
  rw [e]
  exact Lib.bitLen_shift8 x.toNat (by omega) (by omega)
theorem bits_Len64.fold : ({ data := (([0, 1, 2, 2, 3, 3, 3, 3, 4, 4, 4, 4, 4, 4, 4, 4, 5, 5, 5, 5, 5, 5, 5, 5, 5, 5, 5, 5, 5, 5, 5, 5, 6, 6, 6, 6, 6, 6, 6, 6, 6, 6, 6, 6, 6, 6, 6, 6, 6, 6, 6, 6, 6, 6, 6, 6, 6, 6, 6, 6, 6, 6, 6, 6].append [7, 7, 7, 7, 7, 7, 7, 7, 7, 7, 7, 7, 7, 7, 7, 7, 7, 7, 7, 7, 7, 7, 7, 7, 7, 7, 7, 7, 7, 7, 7, 7, 7, 7, 7, 7, 7, 7, 7, 7, 7, 7, 7, 7, 7, 7, 7, 7, 7, 7, 7, 7, 7, 7, 7, 7, 7, 7, 7, 7, 7, 7, 7, 7]).append ([8, 8, 8, 8, 8, 8, 8, 8, 8, 8, 8, 8, 8, 8, 8, 8, 8, 8, 8, 8, 8, 8, 8, 8, 8, 8, 8, 8, 8, 8, 8, 8, 8, 8, 8, 8, 8, 8, 8, 8, 8, 8, 8, 8, 8, 8, 8, 8, 8, 8, 8, 8, 8, 8, 8, 8, 8, 8, 8, 8, 8, 8, 8, 8].append [8, 8, 8, 8, 8, 8, 8, 8, 8, 8, 8, 8, 8, 8, 8, 8, 8, 8, 8, 8, 8, 8, 8, 8, 8, 8, 8, 8, 8, 8, 8, 8, 8, 8, 8, 8, 8, 8, 8, 8, 8, 8, 8, 8, 8, 8, 8, 8, 8, 8, 8, 8, 8, 8, 8, 8, 8, 8, 8, 8, 8, 8, 8, 8])).toArray } : ByteArray) = Lib.len8tab := by kernel_rfl
attribute [local go_sem ↓] bits_Len64.fold
set_option maxHeartbeats 4000000 in
set_option maxRecDepth 100000 in
theorem bits_Len64.core (x : Int) (w : World) (h0 : 0 ≤ x) (h1 : x ≤ 18446744073709551615) :
    Calls Tryz.prog 135 #[.int .u64 x] w fun e w' => e = .returned (.int .i64 (Lib.bitLen x.toNat)) ∧ w' = w := by
  go_enter Tryz.func135, Tryz.ntmps135
  go_wp2
  all_goals first
    | (go_ret; refine ⟨congrArg Ending.returned (congrArg (Value.int IntKind.i64) ?_), rfl⟩)
    | (exfalso
       have hs : (Lib.len8tab.size : Int) = 256 := by rw [Lib.len8tab_size]; rfl
       omega)
  all_goals first
    | (rw [bits_Len64.get (x / 4294967296 / 65536 / 256) _]; exact bits_Len64.at56 x h0 h1 (by omega) (by omega))
    | (rw [bits_Len64.get (x / 4294967296 / 65536) _]; exact bits_Len64.at48 x h0 h1 (by omega) (by omega))
    | (rw [bits_Len64.get (x / 4294967296 / 256) _]; exact bits_Len64.at40 x h0 h1 (by omega) (by omega))
    | (rw [bits_Len64.get (x / 4294967296) _]; exact bits_Len64.at32 x h0 h1 (by omega) (by omega))
    | (rw [bits_Len64.get (x / 65536 / 256) _]; exact bits_Len64.at24 x h0 h1 (by omega) (by omega))
    | (rw [bits_Len64.get (x / 65536) _]; exact bits_Len64.at16 x h0 h1 (by omega) (by omega))
    | (rw [bits_Len64.get (x / 256) _]; exact bits_Len64.at8 x h0 h1 (by omega) (by omega))
    | (rw [bits_Len64.get x _]; exact bits_Len64.fin0 x (by omega) (by omega))
theorem bits_TrailingZeros64.core (x k idx : Nat) (w : World) (hx0 : ((x : Int) == 0) = false)
    (key : IntKind.u64.wrap (bits BinOp.and IntKind.u64 (x : Int) (IntKind.u64.wrap (-(x : Int))) * 285870213051353865) / 288230376151711744 = (idx : Int))
    (hi : idx < 64) (hk : k < 64) (hcell : w.cell? ⟨5, idx, none⟩ = some (.int .u8 k)) :
    Calls Tryz.prog 163 #[.int .u64 x] w fun e w' => e = .returned (.int .i64 k) ∧ w' = w := by
  go_enter Tryz.func163, Tryz.ntmps163
  go_wp2_with (simp only [key])
  go_ret
  exact ⟨rfl, rfl⟩
theorem bits_TrailingZeros64.zero (w : World) : Calls Tryz.prog 163 #[.int .u64 0] w fun e w' => e = .returned (.int .i64 64) ∧ w' = w := by
  go_enter Tryz.func163, Tryz.ntmps163
  go_wp2
  go_ret
  exact ⟨rfl, rfl⟩
theorem bits_TrailingZeros64.key (x a : Nat) (hx : x < 18446744073709551616) (hx0 : x ≠ 0) (hlow : x &&& (18446744073709551616 - x) = a) :
    IntKind.u64.wrap (bits BinOp.and IntKind.u64 (x : Int) (IntKind.u64.wrap (-(x : Int))) * 285870213051353865) / 288230376151711744 = ((a * 285870213051353865 % 18446744073709551616 / 288230376151711744 : Nat) : Int) := by
  have e1 : IntKind.u64.wrap (-(x : Int)) = ((18446744073709551616 - x : Nat) : Int) := by rw [IntKind.wrap_u64]; omega
  rw [e1, bits_and_u64_nat x _ hx (by omega), hlow, IntKind.wrap_u64]
  omega
def bits_Add64.entry : Array Value → Sem Value := fun args => do
  let (x, y, c) ← Extern.MathBitsCarry.three "Add64" args
  pure (Extern.MathBitsCarry.pair ((x + y + c) % Extern.MathBitsCarry.m64) ((x + y + c) / Extern.MathBitsCarry.m64))
def bits_Sub64.entry : Array Value → Sem Value := fun args => do
  let (x, y, b) ← Extern.MathBitsCarry.three "Sub64" args
  pure (Extern.MathBitsCarry.pair ((x + Extern.MathBitsCarry.m64 - y - b) % Extern.MathBitsCarry.m64) (if x < y + b then 1 else 0))

/-- A walk of the kit's as a call on pure values. -/
theorem Does.calls {P : Program} {G : Gl} {f : FuncId} {fn : Func} {args : List PV} {ret : TV} (hf : P.funcs[f]? = some fn) (hname : (fn.name == "runtime.NumGoroutine") = false) (hb : fn.body.isSome = true)
    (h : ∀ (W : World) (vals : List Value), GlOk G W → (∀ ok, All2 (RP (enA W ok)) args vals → ∃ v, Calls P f vals.toArray W (fun e W' => e = .returned v ∧ W' = W) ∧ ∀ E, RT E ret v)) : Does P G f args ret := by
  intro W ok vals hok hg ha
  obtain ⟨v, h1, h2⟩ := h W vals hg ok ha
  obtain ⟨c, hc⟩ := Option.isSome_iff_exists.1 hb
  have hn' : fn.name ≠ "runtime.NumGoroutine" := by simpa using hname
  exact .inl ⟨by simp [callFunc, hf, hn', hc], h1.mono fun e W' ⟨e1, e2⟩ => ⟨v, e1, by rw [e2]; exact Below.refl _ _, h2 _⟩⟩
/-- What the variables of this program hold: the table of TrailingZeros64, the five functions of the roundings. -/
def Gv : Gl := fun b => match b with
  | 5 => Lib.deBruijn64tab.map fun k => Ce.i .u8 (k : Nat)
  | 2 => [.f 183, .f 184, .f 185, .f 186, .f 187]
  | _ => []
theorem one_n {E : En} {x : Nat} {vals : List Value} (h : All2 (RP E) [.c (.n x)] vals) : vals = [.int .u64 x] := by
  obtain ⟨v, l, rfl, h1, h2⟩ := h.cons_iff
  obtain rfl := h2.nil_iff
  have h1' : v = .int .u64 x := h1
  rw [h1']
theorem Len64_does {G : Gl} {x : Nat} (hx : x < 18446744073709551616) : Does Tryz.prog G 135 [.c (.n x)] (.int .i64 (Lib.bitLen x)) := by
  refine Does.calls Tryz.func135 (by kernel_rfl) rfl fun W vals _ ok ha => ⟨.int .i64 (Lib.bitLen x), ?_, fun E => rfl⟩
  rw [one_n ha]
  exact bits_Len64.core x W (by omega) (by omega)
theorem TrailingZeros64_does {x : Nat} (hx : x < 18446744073709551616) : Does Tryz.prog Gv 163 [.c (.n x)] (.int .i64 (Lib.ctz 64 x)) := by
  refine Does.calls Tryz.func163 (by kernel_rfl) rfl fun W vals hG ok ha => ⟨.int .i64 (Lib.ctz 64 x), ?_, fun E => rfl⟩
  rw [one_n ha]
  by_cases hx0 : x = 0
  · subst hx0; exact bits_TrailingZeros64.zero W
  · obtain ⟨hlow, hk⟩ := Lib.lowest_bit 64 x hx0 hx
    obtain ⟨hi, htab⟩ := Lib.deBruijn64_at _ hk
    have hget : (Lib.deBruijn64tab.map fun k => Ce.i .u8 (k : Nat))[2 ^ Lib.ctz 64 x * 285870213051353865 % 18446744073709551616 / 288230376151711744]? = some (Ce.i .u8 (Lib.ctz 64 x : Nat)) := by
      rw [List.getElem?_map, getD_some (d := 0) (show _ < Lib.deBruijn64tab.length from hi), htab]; rfl
    obtain ⟨_, v, h1, h2⟩ := hG 5 _ _ hget
    have h3 : v = .int .u8 (Lib.ctz 64 x : Nat) := h2 (enA W ok)
    subst h3
    exact bits_TrailingZeros64.core x _ _ W (by simp; omega) (bits_TrailingZeros64.key x _ hx hx0 hlow) hi hk h1
theorem three_n {E : En} {x y z : Nat} {vals : List Value} (h : All2 (RP E) [.c (.n x), .c (.n y), .c (.n z)] vals) : vals = [.int .u64 x, .int .u64 y, .int .u64 z] := by
  obtain ⟨v, l, rfl, h1, h2⟩ := h.cons_iff
  obtain ⟨v2, l2, rfl, h3, h4⟩ := h2.cons_iff
  obtain ⟨v3, l3, rfl, h5, h6⟩ := h4.cons_iff
  obtain rfl := h6.nil_iff
  have h1' : v = .int .u64 x := h1
  have h3' : v2 = .int .u64 y := h3
  have h5' : v3 = .int .u64 z := h5
  rw [h1', h3', h5']
theorem Add64_does {G : Gl} {x y c : Nat} (hc : c ≤ 1) : Does Tryz.prog G 150 [.c (.n x), .c (.n y), .c (.n c)] (.t [.c (.n ((x + y + c) % 18446744073709551616)), .c (.n ((x + y + c) / 18446744073709551616))]) := by
  intro W ok vals hok hg ha
  rw [three_n ha]
  refine .inr ⟨.tuple #[.int .u64 (((x + y + c) % 18446744073709551616 : Nat) : Int), .int .u64 (((x + y + c) / 18446744073709551616 : Nat) : Int)], ?_, _, rfl, .cons rfl (.cons rfl .nil)⟩
  rw [run_callFunc_extern Tryz.func150 (by kernel_rfl) (by kernel_rfl) (by kernel_rfl) (e := bits_Add64.entry) (by kernel_rfl)]
  have key : (bits_Add64.entry #[.int .u64 x, .int .u64 y, .int .u64 c]).run Tryz.prog W = .ok (Extern.MathBitsCarry.pair ((x + y + c) % Extern.MathBitsCarry.m64) ((x + y + c) / Extern.MathBitsCarry.m64)) W := by
    rcases (show c = 0 ∨ c = 1 by omega) with rfl | rfl <;> rfl
  rw [show [Value.int .u64 (x : Int), .int .u64 y, .int .u64 c].toArray = #[.int .u64 x, .int .u64 y, .int .u64 c] from rfl, key]
  rfl
theorem Sub64_does {G : Gl} {x y c : Nat} (hc : c ≤ 1) : Does Tryz.prog G 151 [.c (.n x), .c (.n y), .c (.n c)] (.t [.c (.n ((x + 18446744073709551616 - y - c) % 18446744073709551616)), .c (.n (if x < y + c then 1 else 0))]) := by
  intro W ok vals hok hg ha
  rw [three_n ha]
  refine .inr ⟨.tuple #[.int .u64 (((x + 18446744073709551616 - y - c) % 18446744073709551616 : Nat) : Int), .int .u64 (((if x < y + c then 1 else 0) : Nat) : Int)], ?_, _, rfl, .cons rfl (.cons rfl .nil)⟩
  rw [run_callFunc_extern Tryz.func151 (by kernel_rfl) (by kernel_rfl) (by kernel_rfl) (e := bits_Sub64.entry) (by kernel_rfl)]
  have key : (bits_Sub64.entry #[.int .u64 x, .int .u64 y, .int .u64 c]).run Tryz.prog W = .ok (Extern.MathBitsCarry.pair ((x + Extern.MathBitsCarry.m64 - y - c) % Extern.MathBitsCarry.m64) (if x < y + c then 1 else 0)) W := by
    rcases (show c = 0 ∨ c = 1 by omega) with rfl | rfl <;> rfl
  rw [show [Value.int .u64 (x : Int), .int .u64 y, .int .u64 c].toArray = #[.int .u64 x, .int .u64 y, .int .u64 c] from rfl, key]
  rfl
end Go.Proofs.YtbhokdhkfodpfaaGreatDoor
/- Regions whose order is open, on pure values. No condition. -/
namespace Go.Proofs.YtbhokdhkfodpfaaGreatDoor
set_option linter.unusedVariables false
set_option linter.unusedSimpArgs false
section
variable {P : Program} {G : Gl} {md : Bool} {lab : Nat}
theorem ints_congr {ρ ρ' : Operand → Option TV} : ∀ {xs : List Operand}, (∀ x ∈ xs, ρ x = ρ' x) → ints ρ xs = ints ρ' xs
  | [], _ => rfl
  | x :: xs, h => by simp only [ints, h x (by simp), ints_congr (xs := xs) fun y hy => h y (List.mem_cons_of_mem _ hy)]
theorem build_congr {ρ ρ' : Operand → Option TV} (fs : List (Nat × Nat)) : ∀ {ps : List (Nat × Operand)} (cs : List Ce), (∀ x ∈ ps.map (·.2), ρ x = ρ' x) → build fs ρ ps cs = build fs ρ' ps cs
  | [], cs, _ => rfl
  | (i, x) :: ps, cs, h => by
    simp only [build, h x (by simp)]
    split
    · split
      · split
        · exact build_congr fs _ fun y hy => h y (by simp only [List.map_cons, List.mem_cons]; exact .inr hy)
        · rfl
      · rfl
    · rfl
theorem words_congr {ρ ρ' : Operand → Option TV} : ∀ {ps : List (Nat × Operand)} (k : Nat), (∀ x ∈ ps.map (·.2), ρ x = ρ' x) → wordsOf ρ k ps = wordsOf ρ' k ps
  | [], k, _ => rfl
  | (i, x) :: ps, k, h => by
    simp only [wordsOf, h x (by simp), words_congr (k + 1) fun y hy => h y (by simp only [List.map_cons, List.mem_cons]; exact .inr hy)]
theorem rows_congr {ρ ρ' : Operand → Option TV} (sz : Nat) : ∀ {ps : List (Nat × Operand)} (k : Nat), (∀ x ∈ ps.map (·.2), ρ x = ρ' x) → rowsOf ρ sz k ps = rowsOf ρ' sz k ps
  | [], k, _ => rfl
  | (i, x) :: ps, k, h => by
    simp only [rowsOf, h x (by simp), rows_congr sz (k + 1) fun y hy => h y (by simp only [List.map_cons, List.mem_cons]; exact .inr hy)]
theorem stepV_congr {ρ ρ' : Operand → Option TV} (op : Op) (h : ∀ x ∈ op.operands.toList, ρ x = ρ' x) : stepV P md ρ op = stepV P md ρ' op := by
  cases op with
  | build t parts =>
    simp only [stepV]
    have : ∀ cs fs, build fs ρ parts.toList cs = build fs ρ' parts.toList cs := fun cs fs => build_congr fs cs (by simpa [Op.operands] using h)
    simp only [this]
  | makeFunc fn x y => cases fn <;> rfl
  | call c =>
    obtain ⟨callee, az, ts⟩ := c
    cases callee with
    | builtin bi =>
      have h' : ∀ x ∈ az.toList, ρ x = ρ' x := by simpa [Op.operands, Call.operands] using h
      simp only [stepV]
      unfold stepB
      split
      · rename_i x t hx ht
        rw [h' x (by rw [hx]; simp)]
      · rw [ints_congr h']
      · rw [ints_congr h']
      · rfl
    | _ => rfl
  | move x => simp only [stepV, h x (by simp [Op.operands])]
  | assign x => simp only [stepV, h x (by simp [Op.operands])]
  | pick a b c => simp only [stepV, h a (by simp [Op.operands]), h b (by simp [Op.operands]), h c (by simp [Op.operands])]
  | binOp op t x y yt => simp only [stepV, h x (by simp [Op.operands]), h y (by simp [Op.operands])]
  | unOp op t x => simp only [stepV, h x (by simp [Op.operands])]
  | convert s d x => simp only [stepV, h x (by simp [Op.operands])]
  | extract x i => simp only [stepV, h x (by simp [Op.operands])]
  | index t x ix => simp only [stepV, h x (by simp [Op.operands]), h ix (by simp [Op.operands])]
  | _ => rfl
theorem bnd_congr {ρ ρ' : Operand → Option TV} (d : Int) {o : Option Operand} (h : ∀ x, o = some x → ρ x = ρ' x) : bnd ρ d o = bnd ρ' d o := by
  cases o with
  | none => rfl
  | some x => simp only [bnd, h x rfl]
theorem wsrc_congr {η η' : Nat → Option Ob} (v : TV) (h : ∀ j ∈ v.labs, η j = η' j) : wsrc η v = wsrc η' v := by
  unfold wsrc
  split <;> first | rfl | (rw [h _ (by simp [TV.labs, PV.labs, Ce.labs])])
theorem ssrc_congr {η η' : Nat → Option Ob} (sz : Nat) (v : TV) (h : ∀ j ∈ v.labs, η j = η' j) : ssrc η sz v = ssrc η' sz v := by
  unfold ssrc
  split <;> first | rfl | (rw [h _ (by simp [TV.labs, PV.labs, Ce.labs])])
theorem loadM_congr {η η' : Nat → Option Ob} (ti : TI) (v : TV) (h : ∀ j ∈ v.labs, η j = η' j) : loadM G η ti v = loadM G η' ti v := by
  unfold loadM
  split <;> first | rfl | (rw [h _ (by simp [TV.labs, PV.labs, Ce.labs])])
theorem storeM_congr {η η' : Nat → Option Ob} (ti : TI) (n : List Ce) (v : TV) (h : ∀ j ∈ v.labs, η j = η' j) : storeM η ti n v = storeM η' ti n v := by
  unfold storeM
  split <;> first | rfl | (rw [h _ (by simp [TV.labs, PV.labs, Ce.labs])])
theorem indexM_congr {η η' : Nat → Option Ob} (e : TI) (i : Int) (v : TV) (h : ∀ j ∈ v.labs, η j = η' j) : indexM η e i v = indexM η' e i v := by
  unfold indexM
  split <;> first | rfl | (rw [h _ (by simp [TV.labs, PV.labs, Ce.labs])])
theorem fieldM_congr {η η' : Nat → Option Ob} (off : Nat) (v : TV) (h : ∀ j ∈ v.labs, η j = η' j) : fieldM η off v = fieldM η' off v := by
  unfold fieldM
  split <;> first | rfl | (rw [h _ (by simp [TV.labs, PV.labs, Ce.labs])])
theorem appendM_congr {η η' : Nat → Option Ob} (t u : TypeId) (s x : TV) (h : ∀ j ∈ s.labs, η j = η' j) (h' : ∀ j ∈ x.labs, η j = η' j) : appendM P η t u s x = appendM P η' t u s x := by
  unfold appendM
  split
  · rw [h _ (by simp [TV.labs, PV.labs, Ce.labs])]
    simp only [wsrc_congr x h', ssrc_congr _ x h']
  · rfl
theorem stepM_congr {ρ ρ' : Operand → Option TV} {η η' : Nat → Option Ob} (op : Op) (h : ∀ x ∈ op.operands.toList, ρ x = ρ' x) (hη : ∀ x ∈ op.operands.toList, ∀ v, ρ x = some v → ∀ j ∈ v.labs, η j = η' j) : stepM P G lab ρ η op = stepM P G lab ρ' η' op := by
  cases op with
  | box t x => simp only [stepM, h x (by simp [Op.operands])]
  | alloc t => rfl
  | load t x =>
    simp only [stepM, ← h x (by simp [Op.operands])]
    split
    · rename_i ti v _ hx; exact loadM_congr ti v (hη x (by simp [Op.operands]) v hx)
    · rfl
  | store t x y =>
    simp only [stepM, ← h x (by simp [Op.operands]), ← h y (by simp [Op.operands])]
    split
    · rename_i ti v w _ hx hy
      split
      · exact storeM_congr ti _ v (hη x (by simp [Op.operands]) v hx)
      · rfl
    · rfl
  | nilCheck x =>
    simp only [stepM, ← h x (by simp [Op.operands])]
    split
    · rename_i j o hx; rw [hη x (by simp [Op.operands]) _ hx j (by simp [TV.labs, PV.labs, Ce.labs])]
    · rfl
    · rfl
  | makeSlice t x y => simp only [stepM, h x (by simp [Op.operands]), h y (by simp [Op.operands])]
  | buildSlice t n parts =>
    simp only [stepM]
    have h1 : wordsOf ρ 0 parts.toList = wordsOf ρ' 0 parts.toList := words_congr 0 (by simpa [Op.operands] using h)
    have h2 : ∀ sz, rowsOf ρ sz 0 parts.toList = rowsOf ρ' sz 0 parts.toList := fun sz => rows_congr sz 0 (by simpa [Op.operands] using h)
    simp only [h1, h2]
  | slice t x lo hi mx =>
    have hlo : ∀ d, bnd ρ d lo = bnd ρ' d lo := fun d => bnd_congr d fun y hy => h y (by subst hy; simp [Op.operands])
    have hhi : ∀ d, bnd ρ d hi = bnd ρ' d hi := fun d => bnd_congr d fun y hy => h y (by subst hy; simp [Op.operands])
    simp only [stepM, h x (by simp [Op.operands]), hlo, hhi]
    cases mx with
    | none => rfl
    | some y => simp only [h y (by simp [Op.operands])]
  | indexAddr t x ix =>
    simp only [stepM, ← h x (by simp [Op.operands]), ← h ix (by simp [Op.operands])]
    split
    · rename_i v k i _ hx hix
      split
      · exact indexM_congr _ _ v (hη x (by simp [Op.operands]) v hx)
      · rfl
    · rfl
    · rfl
  | fieldAddr s x f =>
    simp only [stepM, ← h x (by simp [Op.operands])]
    split
    · rename_i v _ hx
      split
      · split
        · rfl
        · exact fieldM_congr _ v (hη x (by simp [Op.operands]) v hx)
      · rfl
    · rfl
  | call c =>
    obtain ⟨callee, az, ts⟩ := c
    cases callee with
    | builtin bi =>
      have h' : ∀ x ∈ az.toList, ρ x = ρ' x := by simpa [Op.operands, Call.operands] using h
      have hη' : ∀ x ∈ az.toList, ∀ v, ρ x = some v → ∀ j ∈ v.labs, η j = η' j := by simpa [Op.operands, Call.operands] using hη
      cases bi with
      | len =>
        simp only [stepM]
        split
        · rename_i x t hx ht
          rw [← h' x (by rw [hx]; simp)]
          split
          · rename_i j n _ hx'; rw [hη' x (by rw [hx]; simp) _ hx' j (by simp [TV.labs, PV.labs, Ce.labs])]
          · rfl
        · rfl
      | append =>
        simp only [stepM]
        split
        · rename_i x y t u hx ht
          rw [← h' x (by rw [hx]; simp), ← h' y (by rw [hx]; simp)]
          split
          · rename_i v w hv hw; exact appendM_congr t u v w (hη' x (by rw [hx]; simp) v hv) (hη' y (by rw [hx]; simp) w hw)
          · rfl
        · rfl
      | _ => rfl
    | _ => rfl
  | _ => rfl
end
end Go.Proofs.YtbhokdhkfodpfaaGreatDoor
/- Regions whose order is open, on pure values: in whatever order they come to one state. No condition. -/
namespace Go.Proofs.YtbhokdhkfodpfaaGreatDoor
set_option linter.unusedVariables false
set_option linter.unusedSimpArgs false
/-- What one operation leaves. -/
structure Tr where
  dst : Option Nat
  v : Option TV
  ef : Eff
  lab : Nat
  us : List Nat
def Tr.app (t : Tr) (s : St) : St := ⟨setv t.dst t.v s.tm, t.ef.app t.lab s.ob⟩
/-- The objects that it writes. -/
def Tr.wr (t : Tr) : List Nat :=
  match t.ef with
  | .none => []
  | .new _ => [t.lab]
  | .upd j _ => [j]
def Tr.ob (t : Tr) : Option Ob :=
  match t.ef with
  | .none => none
  | .new o => some o
  | .upd _ o => some o
/-- The slots that an operation looks at. -/
def rdOf (ops : List Oper) (o : Oper) : List Nat :=
  tmpsOf o.op.operands.toList ++ opTmps o.op ++ (match o.guard with
    | some (j, _) => match ops[j]? with
      | some ⟨some d, _, _, _, _, _⟩ => [d]
      | _ => []
    | none => [])
def labsOf (tm : List (Nat × TV)) : List Operand → List Nat
  | [] => []
  | x :: xs => (match opv tm x with
    | some v => v.labs
    | none => []) ++ labsOf tm xs
/-- The boxes among objects. -/
def boxes : List (Nat × Ob) → List Nat
  | [] => []
  | (j, .box _) :: r => j :: boxes r
  | _ :: r => boxes r
/-- No label twice, as a box and as something else. -/
def boxesOk : List (Nat × Ob) → Bool
  | [] => true
  | (_, .box _) :: r => boxesOk r
  | (j, _) :: r => !(boxes r).contains j && boxesOk r
def efOk (B : List Nat) : Eff → Bool
  | .upd j o => o.isBox || !B.contains j
  | _ => true
def usB (B : List Nat) : TV → List Nat
  | .v (.c (.p j _)) => if B.contains j then [] else [j]
  | .gd _ x => usB B x
  | v => v.labs
def usO (B : List Nat) : Option TV → List Nat
  | some v => usB B v
  | none => []
/-- The objects that an operation looks into. -/
def usOf (B : List Nat) (tm : List (Nat × TV)) : Op → List Nat
  | .move _ => []
  | .nilCheck x => usO B (opv tm x)
  | .fieldAddr _ x _ => usO B (opv tm x)
  | o => labsOf tm o.operands.toList
/-- The effect of an operation. -/
def stepE (P : Program) (G : Gl) (nt : Nat) (md : Bool) (ops : List Oper) (lab : Nat) (tm : List (Nat × TV)) (η : Nat → Option Ob) (o : Oper) : Option Out :=
  if dstOk nt o.dst then (match o.guard with
  | none => match stepV P md (opv tm) o.op with
    | some (p, v) => some ⟨p, some v, .none⟩
    | none => stepM P G lab (opv tm) η o.op
  | some (j, want) => match gOf ops tm j want with
    | some g => if isPick o.op then (match stepV P md (opv tm) o.op with
        | some (p, v) => some ⟨g = true → p, some (.gd g v), .none⟩
        | none => none)
      else (match stepV P md (opv (unw (opTmps o.op) tm)) o.op with
      | some (p, v) => some ⟨g = true → tests (opTmps o.op) tm ∧ p, some (.gd g v), .none⟩
      | none => match stepM P G lab (opv (unw (opTmps o.op) tm)) η o.op with
        | some ⟨p, some v, .none⟩ => some ⟨g = true → tests (opTmps o.op) tm ∧ p, some (.gd g v), .none⟩
        | _ => none)
    | none => none) else none
section
variable {P : Program} {G : Gl} {nt : Nat} {ops l : List Oper} {st S : St} {cx : Cx} {a : Act} {W : World} {m : Nat → Option Nat} {md : Bool} {lab : Nat}
theorem tmpsOf_mem {t : Nat} : ∀ {xs : List Operand}, .tmp t ∈ xs → t ∈ tmpsOf xs
  | x :: xs, h => by
    rcases List.mem_cons.1 h with rfl | h
    · simp [tmpsOf]
    · have := tmpsOf_mem h
      cases x <;> simp only [tmpsOf] <;> first | exact this | exact List.mem_cons_of_mem _ this
theorem opv_congr {tm tm' : List (Nat × TV)} {x : Operand} (h : ∀ t, x = .tmp t → lk t tm = lk t tm') : opv tm x = opv tm' x := by
  cases x with
  | tmp t => exact h t rfl
  | _ => rfl
theorem labsOf_mem {tm : List (Nat × TV)} {j : Nat} {v : TV} : ∀ {xs : List Operand} {x : Operand}, x ∈ xs → opv tm x = some v → j ∈ v.labs → j ∈ labsOf tm xs
  | y :: xs, x, hx, hv, hj => by
    simp only [labsOf, List.mem_append]
    rcases List.mem_cons.1 hx with rfl | hx
    · rw [hv]; exact .inl hj
    · exact .inr (labsOf_mem hx hv hj)
theorem tests_congr {tm tm' : List (Nat × TV)} : ∀ {ts : List Nat}, (∀ t ∈ ts, lk t tm = lk t tm') → tests ts tm = tests ts tm'
  | [], _ => rfl
  | t :: ts, h => by simp only [tests, h t (by simp), tests_congr (ts := ts) fun s hs => h s (List.mem_cons_of_mem _ hs)]
def TV.core : TV → TV
  | .gd _ x => x.core
  | x => x
/-- As far as an address goes, two boxes are alike. -/
def SameFor (η η' : Nat → Option Ob) (v : TV) : Prop := (∀ j ∈ v.labs, η j = η' j) ∨ ∃ j o cs cs', v = .v (.c (.p j o)) ∧ η j = some (.box cs) ∧ η' j = some (.box cs')
theorem usB_same {B : List Nat} {η η' : Nat → Option Ob} (hB : ∀ j ∈ B, (∃ cs, η j = some (.box cs)) ∧ ∃ cs, η' j = some (.box cs)) {v : TV} (h : ∀ j ∈ usB B v, η j = η' j) : SameFor η η' v.core ∧ ((∀ j ∈ v.labs, η j = η' j) ∨ ∃ j o cs cs', v.core = .v (.c (.p j o)) ∧ η j = some (.box cs) ∧ η' j = some (.box cs')) := by
  induction v with
  | gd c x ih => exact ih h
  | v x =>
    cases x with
    | c c =>
      cases c with
      | p j o =>
        simp only [usB] at h
        split at h
        · rename_i hc
          obtain ⟨⟨cs, h1⟩, cs', h2⟩ := hB j (by simpa using hc)
          exact ⟨.inr ⟨j, o, cs, cs', rfl, h1, h2⟩, .inr ⟨j, o, cs, cs', rfl, h1, h2⟩⟩
        · have h' : ∀ i ∈ (TV.v (.c (.p j o))).labs, η i = η' i := fun i hi => h i (by simpa [TV.labs, PV.labs, Ce.labs] using hi)
          exact ⟨.inl h', .inl h'⟩
      | _ => exact ⟨.inl h, .inl h⟩
    | _ => exact ⟨.inl h, .inl h⟩
  | t l => exact ⟨.inl h, .inl h⟩
  | e cs => exact ⟨.inl h, .inl h⟩
theorem nil_same {η η' : Nat → Option Ob} {v : TV} (h : SameFor η η' v) {ρ ρ' : Operand → Option TV} {x : Operand} (h1 : ρ x = some v) (h2 : ρ' x = some v) : stepM P G lab ρ η (.nilCheck x) = stepM P G lab ρ' η' (.nilCheck x) := by
  simp only [stepM, h1, h2]
  rcases h with h | ⟨j, o, cs, cs', rfl, g1, g2⟩
  · split
    · rename_i j o hx; injection hx with hx; subst hx; rw [h j (by simp [TV.labs, PV.labs, Ce.labs])]
    · rfl
    · rfl
  · simp only [g1, g2]
theorem field_same {η η' : Nat → Option Ob} {v : TV} (h : SameFor η η' v) {ρ ρ' : Operand → Option TV} {s : TypeId} {f : Nat} {x : Operand} (h1 : ρ x = some v) (h2 : ρ' x = some v) : stepM P G lab ρ η (.fieldAddr s x f) = stepM P G lab ρ' η' (.fieldAddr s x f) := by
  simp only [stepM, h1, h2]
  split
  · rename_i fs _ v' hx hv
    injection hv with hv; subst hv
    split
    · split
      · rfl
      · rcases h with h | ⟨j, o, cs, cs', rfl, g1, g2⟩
        · exact fieldM_congr _ _ h
        · simp only [fieldM, g1, g2]
    · rfl
  · rfl
theorem stepE_congr {B : List Nat} {tm tm' : List (Nat × TV)} {η η' : Nat → Option Ob} {o : Oper} (hB : ∀ j ∈ B, (∃ cs, η j = some (.box cs)) ∧ ∃ cs, η' j = some (.box cs)) (h : ∀ t ∈ rdOf ops o, lk t tm = lk t tm') (hη : ∀ j ∈ usOf B tm o.op, η j = η' j) : stepE P G nt md ops lab tm η o = stepE P G nt md ops lab tm' η' o := by
  have h1 : ∀ x ∈ o.op.operands.toList, opv tm x = opv tm' x := fun x hx => opv_congr fun t e => h t (by subst e; unfold rdOf; simp only [List.mem_append]; exact .inl (.inl (tmpsOf_mem hx)))
  have hu : ∀ x ∈ o.op.operands.toList, opv (unw (opTmps o.op) tm) x = opv (unw (opTmps o.op) tm') x := fun x hx => opv_congr fun t e => by
    rw [lk_unw, lk_unw, h t (by subst e; unfold rdOf; simp only [List.mem_append]; exact .inl (.inl (tmpsOf_mem hx)))]
  have h3 := stepV_congr (P := P) (md := md) o.op h1
  have h5 := stepV_congr (P := P) (md := md) o.op hu
  have h7 : tests (opTmps o.op) tm = tests (opTmps o.op) tm' := tests_congr fun t ht => h t (by unfold rdOf; simp only [List.mem_append]; exact .inl (.inr ht))
  have h8 : ∀ j want, o.guard = some (j, want) → gOf ops tm j want = gOf ops tm' j want := fun j want hg => by
    unfold gOf
    split
    · rename_i d _ _ _ _ _ hj
      rw [h d (by unfold rdOf; simp only [List.mem_append, hg, hj]; exact .inr (by simp))]
    · rfl
  have ucore : ∀ x v, opv (unw (opTmps o.op) tm) x = some v → ∃ w, opv tm x = some w ∧ (v = w ∨ ∃ c, w = .gd c v) := fun x v hv => by
    cases x with
    | tmp t =>
      simp only [opv, lk_unw] at hv ⊢
      cases hl : lk t tm with
      | none => simp [hl] at hv
      | some y =>
        simp only [hl, Option.map_some, Option.some.injEq] at hv
        refine ⟨y, rfl, ?_⟩
        cases y with
        | gd c y => simp only [] at hv; split at hv <;> subst hv; exact .inr ⟨c, rfl⟩; exact .inl rfl
        | _ => simp only [] at hv; subst hv; exact .inl rfl
    | _ => exact ⟨v, hv, .inl rfl⟩
  have plain : (∀ j ∈ labsOf tm o.op.operands.toList, η j = η' j) → stepM P G lab (opv tm) η o.op = stepM P G lab (opv tm') η' o.op ∧ stepM P G lab (opv (unw (opTmps o.op) tm)) η o.op = stepM P G lab (opv (unw (opTmps o.op) tm')) η' o.op := fun hη => by
    have h2 : ∀ x ∈ o.op.operands.toList, ∀ v, opv tm x = some v → ∀ j ∈ v.labs, η j = η' j := fun x hx v hv j hj => hη j (labsOf_mem hx hv hj)
    refine ⟨stepM_congr o.op h1 h2, stepM_congr o.op hu fun x hx v hv j hj => ?_⟩
    obtain ⟨w, hw, e⟩ := ucore x v hv
    rcases e with rfl | ⟨c, rfl⟩
    · exact h2 x hx _ hw j hj
    · exact h2 x hx _ hw j hj
  have one : ∀ x, x ∈ o.op.operands.toList → (∀ j ∈ usO B (opv tm x), η j = η' j) → ∀ v, (opv tm x = some v ∨ opv (unw (opTmps o.op) tm) x = some v) → (∀ c w, v ≠ .gd c w) → SameFor η η' v := fun x hx hus v hv hng => by
    have key : ∀ w, opv tm x = some w → (v = w ∨ ∃ c, w = .gd c v) → SameFor η η' v := fun w hw e => by
      rw [hw] at hus
      have := (usB_same hB hus).1
      have ec : w.core = v := by
        rcases e with rfl | ⟨c, rfl⟩
        · cases v with
          | gd c w => exact absurd rfl (hng c w)
          | _ => rfl
        · cases v with
          | gd c w => exact absurd rfl (hng c w)
          | _ => rfl
      rwa [ec] at this
    rcases hv with hv | hv
    · exact key v hv (.inl rfl)
    · obtain ⟨w, hw, e⟩ := ucore x v hv
      exact key w hw e
  have gdN : ∀ (ρ : Operand → Option TV) (η : Nat → Option Ob) x c w, ρ x = some (.gd c w) → stepM P G lab ρ η (.nilCheck x) = none := fun ρ η x c w e => by simp only [stepM, e]
  have gdF : ∀ (ρ : Operand → Option TV) (η : Nat → Option Ob) s f x c w, ρ x = some (.gd c w) → stepM P G lab ρ η (.fieldAddr s x f) = none := fun ρ η s f x c w e => by
    simp only [stepM, e]; split
    · rename_i hv; injection hv with hv; subst hv; split
      · split
        · rfl
        · rfl
      · rfl
    · rfl
  have h46 : stepM P G lab (opv tm) η o.op = stepM P G lab (opv tm') η' o.op ∧ stepM P G lab (opv (unw (opTmps o.op) tm)) η o.op = stepM P G lab (opv (unw (opTmps o.op) tm')) η' o.op := by
    cases hop : o.op with
    | move x => exact ⟨rfl, rfl⟩
    | nilCheck x =>
      have hx : x ∈ o.op.operands.toList := by rw [hop]; simp [Op.operands]
      rw [hop] at hη
      have hus : ∀ j ∈ usO B (opv tm x), η j = η' j := hη
      have go : ∀ (ρ ρ' : Operand → Option TV), ρ x = ρ' x → (∀ v, ρ x = some v → opv tm x = some v ∨ opv (unw (opTmps o.op) tm) x = some v) → stepM P G lab ρ η (.nilCheck x) = stepM P G lab ρ' η' (.nilCheck x) := fun ρ ρ' e hv => by
        cases hr : ρ x with
        | none => rw [hr] at e; simp only [stepM, hr, ← e]
        | some v =>
          by_cases hg : ∃ c w, v = .gd c w
          · obtain ⟨c, w, rfl⟩ := hg
            rw [gdN ρ η x c w hr, gdN ρ' η' x c w (by rw [← e]; exact hr)]
          · exact nil_same (one x hx hus v (hv v hr) (fun c w e => hg ⟨c, w, e⟩)) hr (by rw [← e]; exact hr)
      rw [← hop]
      refine ⟨?_, ?_⟩
      · rw [hop]; exact go _ _ (h1 x hx) fun v hv => .inl hv
      · have := go (opv (unw (opTmps o.op) tm)) (opv (unw (opTmps o.op) tm')) (hu x hx) fun v hv => .inr hv
        rw [hop] at this ⊢; exact this
    | fieldAddr s x f =>
      have hx : x ∈ o.op.operands.toList := by rw [hop]; simp [Op.operands]
      rw [hop] at hη
      have hus : ∀ j ∈ usO B (opv tm x), η j = η' j := hη
      have go : ∀ (ρ ρ' : Operand → Option TV), ρ x = ρ' x → (∀ v, ρ x = some v → opv tm x = some v ∨ opv (unw (opTmps o.op) tm) x = some v) → stepM P G lab ρ η (.fieldAddr s x f) = stepM P G lab ρ' η' (.fieldAddr s x f) := fun ρ ρ' e hv => by
        cases hr : ρ x with
        | none =>
          have nf : ∀ (ρ : Operand → Option TV) (η : Nat → Option Ob), ρ x = none → stepM P G lab ρ η (.fieldAddr s x f) = none := fun ρ η e => by
            simp only [stepM, e]; split
            · rename_i hv; cases hv
            · rfl
          rw [nf ρ η hr, nf ρ' η' (by rw [← e]; exact hr)]
        | some v =>
          by_cases hg : ∃ c w, v = .gd c w
          · obtain ⟨c, w, rfl⟩ := hg
            rw [gdF ρ η s f x c w hr, gdF ρ' η' s f x c w (by rw [← e]; exact hr)]
          · exact field_same (one x hx hus v (hv v hr) (fun c w e => hg ⟨c, w, e⟩)) hr (by rw [← e]; exact hr)
      rw [← hop]
      refine ⟨?_, ?_⟩
      · rw [hop]; exact go _ _ (h1 x hx) fun v hv => .inl hv
      · have := go (opv (unw (opTmps o.op) tm)) (opv (unw (opTmps o.op) tm')) (hu x hx) fun v hv => .inr hv
        rw [hop] at this ⊢; exact this
    | _ => exact hop ▸ plain (by rw [hop] at hη ⊢; exact hη)
  unfold stepE
  split
  · split
    · rw [h3, h46.1]
    · rename_i j want hg
      rw [h8 j want hg, h3, h5, h46.2, h7]
  · rfl
theorem stepE_stepO {o : Oper} {p : Prop} {v : Option TV} {ef : Eff} (h : stepE P G nt md ops lab st.tm (fun j => lk j st.ob) o = some ⟨p, v, ef⟩) (hf : ef.isNew = true → st.free lab = true) (hfr : ef.fresh lab = true) : stepO P G nt md ops lab st o = some (p, ⟨setv o.dst v st.tm, ef.app lab st.ob⟩) := by
  unfold stepE at h
  unfold stepO
  split at h
  case isFalse => cases h
  rename_i hd
  rw [if_pos hd]
  split at h
  · rename_i hg
    simp only [hg]
    split at h
    · rename_i p' v' hv
      injection h with h; injection h with e1 e2 e3; subst e1 e2 e3
      simp only [hv]; rfl
    · rename_i hv
      simp only [hv, h]
      by_cases hn : ef.isNew = true
      · simp [hn, hf hn, hfr]
      · simp [hn]
  · rename_i j want hg
    simp only [hg]
    split at h
    · rename_i g hgo
      simp only [hgo]
      split at h
      · rename_i hpk
        rw [if_pos hpk]
        split at h
        · rename_i p' v' hv
          injection h with h; injection h with e1 e2 e3; subst e1 e2 e3
          simp only [hv]; rfl
        · cases h
      · rename_i hpk
        rw [if_neg hpk]
        split at h
        · rename_i p' v' hv
          injection h with h; injection h with e1 e2 e3; subst e1 e2 e3
          simp only [hv]; rfl
        · rename_i hv
          simp only [hv]
          split at h
          · rename_i p' v' hv'
            injection h with h; injection h with e1 e2 e3; subst e1 e2 e3
            simp only [hv']; rfl
          · cases h
    · cases h
/-- What an operation does, wherever it comes up. -/
def OpOk (P : Program) (G : Gl) (nt : Nat) (ops : List Oper) (B : List Nat) (o : Oper) (st : St) (t : Tr) : Prop :=
  t.dst = o.dst ∧ ∀ (cx : Cx) (a : Act) (W : World) (m : Nat → Option Nat) (S : St), cx.nt = nt → (∀ j ∈ B, (∃ cs, lk j st.ob = some (.box cs)) ∧ ∃ cs, lk j S.ob = some (.box cs)) → (∀ x ∈ rdOf ops o, lk x S.tm = lk x st.tm) → (∀ j ∈ t.us, lk j S.ob = lk j st.ob) → (t.ef.isNew = true → S.free t.lab = true) → RelM G cx m S a W →
    ∀ (Q' : Exit → Act → World → Prop) (K : Act → World → Prop), (∀ a' W', Rel G cx (t.app S) a' W' → K a' W') → if Region.wanted o (yielded ops.toArray a.tmps) = true then o.wp P a W K Q' else K (a.put o.dst undef) W
theorem opOk_step {o : Oper} {p : Prop} {v : Option TV} {ef : Eff} (h : stepE P G nt md ops lab st.tm (fun j => lk j st.ob) o = some ⟨p, v, ef⟩) (hp : p) (hfr : ef.fresh lab = true) (B : List Nat) : OpOk P G nt ops B o st ⟨o.dst, v, ef, lab, usOf B st.tm o.op⟩ := by
  refine ⟨rfl, fun cx a W m S hn hB hrd hus hfree hr Q' K hK => ?_⟩
  have hE : stepE P G nt md ops lab S.tm (fun j => lk j S.ob) o = some ⟨p, v, ef⟩ := by
    rw [← h]
    exact (stepE_congr hB (fun t ht => (hrd t ht).symm) (fun j hj => (hus j hj).symm)).symm
  exact step1_core (stepE_stepO hE hfree hfr) hp hn hr Q' K hK
/-- The labels of a call's arguments. -/
theorem argsOf_congr {S st : St} : ∀ {xs : List Operand}, (∀ x ∈ xs, opv S.tm x = opv st.tm x) → (∀ j ∈ labsOf st.tm xs, lk j S.ob = lk j st.ob) → argsOf S xs = argsOf st xs
  | [], _, _ => rfl
  | x :: xs, h, hj => by
    have ih := argsOf_congr (S := S) (st := st) (xs := xs) (fun y hy => h y (List.mem_cons_of_mem _ hy)) (fun j hjm => hj j (by simp only [labsOf, List.mem_append]; exact .inr hjm))
    simp only [argsOf, h x (by simp), ih]
    split
    · rename_i j n p l b hx _
      rw [hj j (by simp only [labsOf, List.mem_append, hx]; exact .inl (by simp [TV.labs, PV.labs, Ce.labs]))]
    · rfl
    · rfl
theorem opOk_call {B : List Nat} {o : Oper} {f : FuncId} {x : Operand} {az : Array Operand} {ts : Array TypeId} {p : Prop} {args : List PV} {pur : Bool} {ret : TV} (lab : Nat) (hg : o.guard = none) (hop : o.op = .call { callee := .value x, args := az, argTypes := ts })
    (hx : opv st.tm x = some (.v (.c (.f f)))) (ha : argsOf st az.toList = some (p, args, pur)) (hp : p) (hD : Does P G f args ret) (hl : ret.labs = []) (hf : pur = false ∨ ret.fr = true) (hd : dstOk nt o.dst = true) :
    OpOk P G nt ops B o st ⟨o.dst, some ret, .none, lab, labsOf st.tm az.toList⟩ := by
  refine ⟨rfl, fun cx a W m S hn _ hrd hus hfree hr Q' K hK => ?_⟩
  have hmem : ∀ t, (.tmp t = x ∨ .tmp t ∈ az.toList) → t ∈ rdOf ops o := fun t ht => by
    unfold rdOf
    simp only [List.mem_append]
    refine .inl (.inl (tmpsOf_mem ?_))
    rw [hop]
    rcases ht with e | e
    · simp [Op.operands, Call.operands, e]
    · simp only [Op.operands, Call.operands, Array.toList_append, List.mem_append]; exact .inr e
  have hx' : opv S.tm x = some (.v (.c (.f f))) := by rw [← hx]; exact opv_congr fun t e => hrd t (hmem t (.inl e.symm))
  have ha' : argsOf S az.toList = some (p, args, pur) := by rw [← ha]; exact argsOf_congr (fun y hy => opv_congr fun t e => hrd t (hmem t (.inr (e ▸ hy)))) hus
  rw [wanted_none hg, if_pos rfl]
  unfold Oper.wp
  have hxv : a.eval x = .func (.func f) #[] #[] := hr.opv hx'
  have hargs := argsOf_run hr ha' hp pur id
  have hok : ∀ b, okC cx m S W pur b → b < W.heap.size := by
    rintro b (h | ⟨_, j, o, h1, h2⟩)
    · exact h.2.1
    · exact (hr.own j o b h1 h2).1
  have hexec : execOp a.eval o = callFunc f (az.toList.map a.eval).toArray := by
    have e1 : (az.toList.map a.eval).toArray = az.map a.eval := by apply Array.ext'; simp
    unfold execOp
    simp [hop, resolve, hxv, Deferred.ofValue, invoke, e1]
  rcases hD W (okC cx m S W pur) _ hok hr.glOk hargs with ⟨h1, h2⟩ | ⟨v, h1, h2⟩
  · rw [hexec, h1]
    refine h2.mono fun e W' ⟨v, he, hb, hrt⟩ => ?_
    subst he
    exact hK _ _ (Rel.put (hr.below hb) hn hd (call_res hr hb hl hf hrt))
  · rw [hexec, h1]
    have hb := RowKit.Below.refl W.heap.size W
    exact hK _ _ (Rel.put hr hn hd (call_res hr hb hl hf h2))
/-- The operations, in the order of the text. -/
inductive ChD (P : Program) (G : Gl) (nt : Nat) (ops : List Oper) (B : List Nat) : List Oper → St → List Tr → St → Prop
  | nil {st : St} : ChD P G nt ops B [] st [] st
  | cons {o : Oper} {l : List Oper} {st st' : St} {t : Tr} {ts : List Tr} : OpOk P G nt ops B o st t → ChD P G nt ops B l (t.app st) ts st' → ChD P G nt ops B (o :: l) st (t :: ts) st'
/-- The state when those that D names have come up. -/
def foldS (D : Nat → Bool) : Nat → List Tr → St → St
  | _, [], s => s
  | i, t :: ts, s => foldS D (i + 1) ts (if D i then t.app s else s)
theorem ChD.get {B : List Nat} : ∀ {l : List Oper} {st st' : St} {ts : List Tr} (b : Nat), ChD P G nt ops B l st ts st' → ts.length = l.length ∧ st' = foldS (fun _ => true) b ts st ∧ ∀ (k : Nat) o, l[k]? = some o → ∃ t, ts[k]? = some t ∧ OpOk P G nt ops B o (foldS (fun i => decide (i < b + k)) b ts st) t
  | _, _, _, _, b, .nil => ⟨rfl, rfl, fun k o h => by simp at h⟩
  | _, _, _, _, b, .cons (o := o) (l := l) (st := st) (t := t) (ts := ts) h1 h2 => by
    obtain ⟨g1, g2, g3⟩ := ChD.get (b + 1) h2
    refine ⟨by simp [g1], by simp [foldS, g2], fun k o' hk => ?_⟩
    have none_ : ∀ (ts : List Tr) (c : Nat) (s : St), b < c → foldS (fun i => decide (i < b + 0)) c ts s = s := by
      intro ts
      induction ts with
      | nil => intro c s _; rfl
      | cons t ts ih => intro c s hc; simp only [foldS]; rw [if_neg (by simp; omega)]; exact ih (c + 1) s (by omega)
    cases k with
    | zero =>
      simp at hk; subst hk
      refine ⟨t, rfl, ?_⟩
      simp only [foldS]
      rw [if_neg (by simp), none_ ts (b + 1) st (by omega)]
      exact h1
    | succ k =>
      obtain ⟨t', q1, q2⟩ := g3 k o' (by simpa using hk)
      refine ⟨t', by simpa using q1, ?_⟩
      simp only [foldS]
      rw [if_pos (by simp)]
      rwa [show b + 1 + k = b + (k + 1) by omega] at q2
end
end Go.Proofs.YtbhokdhkfodpfaaGreatDoor
/- Regions whose order is open: they come to the state of the text's order. No condition. -/
namespace Go.Proofs.YtbhokdhkfodpfaaGreatDoor
set_option linter.unusedVariables false
set_option linter.unusedSimpArgs false
theorem Ce.labs_has {l : Nat} {c : Ce} (h : l ∉ c.labs) : c.has l = false := by
  cases c <;> simp [Ce.has, Ce.labs] at h ⊢ <;> exact fun e => h e.symm
theorem csLabs_has {l : Nat} : ∀ {cs : List Ce}, l ∉ cs.flatMap Ce.labs → csHas l cs = false
  | [], _ => rfl
  | c :: cs, h => by
    simp only [List.flatMap_cons, List.mem_append, not_or] at h
    simp only [csHas, Ce.labs_has h.1, csLabs_has h.2, Bool.or_self]
theorem PV.labs_has {l : Nat} {x : PV} (h : l ∉ x.labs) : x.has l = false := by
  cases x with
  | c x => exact Ce.labs_has h
  | a cs => exact csLabs_has h
  | s fr l => rfl
theorem psLabs_has {l : Nat} : ∀ {cs : List PV}, l ∉ cs.flatMap PV.labs → psHas l cs = false
  | [], _ => rfl
  | c :: cs, h => by
    simp only [List.flatMap_cons, List.mem_append, not_or] at h
    simp only [psHas, PV.labs_has h.1, psLabs_has h.2, Bool.or_self]
theorem TV.labs_has {l : Nat} {x : TV} (h : l ∉ x.labs) : x.has l = false := by
  induction x with
  | v x => exact PV.labs_has h
  | t x => exact psLabs_has h
  | e cs => rfl
  | gd c x ih => exact ih h
theorem tmHas_put {l t : Nat} {x : TV} (hx : x.has l = false) : ∀ {tm : List (Nat × TV)}, tmHas l tm = false → tmHas l (put t x tm) = false
  | [], _ => by simp [put, tmHas, hx]
  | (k, y) :: r, h => by
    simp only [tmHas, Bool.or_eq_false_iff] at h
    simp only [put]
    split
    · simp [tmHas, hx, h.2]
    · split
      · simp [tmHas, hx, h.1, h.2]
      · simp [tmHas, h.1, tmHas_put hx h.2]
theorem tmHas_del {l t : Nat} : ∀ {tm : List (Nat × TV)}, tmHas l tm = false → tmHas l (del t tm) = false
  | [], _ => rfl
  | (k, y) :: r, h => by
    simp only [tmHas, Bool.or_eq_false_iff] at h
    simp only [del]
    split
    · exact tmHas_del h.2
    · simp [tmHas, h.1, tmHas_del h.2]
theorem obHas_cons {l k : Nat} {o : Ob} {r : List (Nat × Ob)} : obHas l ((k, o) :: r) = false ↔ k ≠ l ∧ l ∉ o.labs ∧ obHas l r = false := by
  cases o with
  | box cs =>
    simp only [obHas, Bool.or_eq_false_iff, beq_eq_false_iff_ne, Ob.labs]
    exact ⟨fun h => ⟨h.1.1, csHas_labs h.1.2, h.2⟩, fun h => ⟨⟨h.1, csLabs_has h.2.1⟩, h.2.2⟩⟩
  | _ => simp [obHas, Ob.labs]
theorem obHas_put {l t : Nat} {o : Ob} (ht : t ≠ l) (hx : l ∉ o.labs) : ∀ {ob : List (Nat × Ob)}, obHas l ob = false → obHas l (put t o ob) = false
  | [], _ => by simp only [put]; exact obHas_cons.2 ⟨ht, hx, rfl⟩
  | (k, y) :: r, h => by
    obtain ⟨h1, h2, h3⟩ := obHas_cons.1 h
    simp only [put]
    split
    · exact obHas_cons.2 ⟨ht, hx, h3⟩
    · split
      · exact obHas_cons.2 ⟨ht, hx, h⟩
      · exact obHas_cons.2 ⟨h1, h2, obHas_put ht hx h3⟩
/-- What it mentions. -/
def Tr.mn (t : Tr) : List Nat := (match t.v with
  | some v => v.labs
  | none => []) ++ (match t.ob with
  | some o => o.labs
  | none => []) ++ t.wr
def Tr.nw (t : Tr) : Option Nat := if t.ef.isNew then some t.lab else none
theorem free_app {t : Tr} {s : St} {l : Nat} (h : l ∉ t.mn) (hs : s.free l = true) : (t.app s).free l = true := by
  obtain ⟨dst, v, ef, lab, us⟩ := t
  simp only [Tr.mn, List.mem_append, not_or] at h
  obtain ⟨⟨h1, h2⟩, h3⟩ := h
  simp only [St.free, Bool.not_eq_true', Bool.or_eq_false_iff] at hs ⊢
  refine ⟨⟨?_, ?_⟩, hs.2⟩
  · simp only [Tr.app]
    cases dst with
    | none => exact hs.1.1
    | some d =>
      cases v with
      | none => exact tmHas_del hs.1.1
      | some v => exact tmHas_put (TV.labs_has h1) hs.1.1
  · simp only [Tr.app]
    cases ef with
    | none => exact hs.1.2
    | new o => simp [Tr.wr] at h3; exact obHas_put (Ne.symm h3) h2 hs.1.2
    | upd j o => simp [Tr.wr] at h3; exact obHas_put (Ne.symm h3) h2 hs.1.2
theorem app_tm_ne {t : Tr} {s : St} {x : Nat} (h : t.dst ≠ some x) : lk x (t.app s).tm = lk x s.tm := by
  obtain ⟨dst, v, ef, lab, us⟩ := t
  cases dst with
  | none => rfl
  | some d =>
    have hd : x ≠ d := fun e => h (by rw [e])
    cases v with
    | none => simp only [Tr.app, setv]; rw [lk_del, if_neg hd]
    | some v => simp only [Tr.app, setv]; exact lk_put_ne _ _ hd
theorem app_tm_eq {t : Tr} {s : St} {x : Nat} (h : t.dst = some x) : lk x (t.app s).tm = t.v := by
  obtain ⟨dst, v, ef, lab, us⟩ := t
  simp only [] at h; subst h
  cases v with
  | none => simp only [Tr.app, setv]; rw [lk_del, if_pos rfl]
  | some v => simp only [Tr.app, setv]; exact lk_put_self _ _ _
theorem app_ob_ne {t : Tr} {s : St} {x : Nat} (h : x ∉ t.wr) : lk x (t.app s).ob = lk x s.ob := by
  obtain ⟨dst, v, ef, lab, us⟩ := t
  cases ef with
  | none => rfl
  | new o => simp [Tr.wr] at h; exact lk_put_ne _ _ h
  | upd j o => simp [Tr.wr] at h; exact lk_put_ne _ _ h
theorem app_ob_eq {t : Tr} {s : St} {x : Nat} (h : x ∈ t.wr) : lk x (t.app s).ob = t.ob := by
  obtain ⟨dst, v, ef, lab, us⟩ := t
  cases ef with
  | none => simp [Tr.wr] at h
  | new o => simp [Tr.wr] at h; subst h; exact lk_put_self _ _ _
  | upd j o => simp [Tr.wr] at h; subst h; exact lk_put_self _ _ _
/-- A part of the state, by those who write it. -/
theorem foldS_part {α : Type} (g : St → α) (w : Tr → Prop) (h1 : ∀ t s s', w t → g (t.app s) = g (t.app s')) (h2 : ∀ t s, ¬ w t → g (t.app s) = g s) :
    ∀ (ts : List Tr) (b : Nat) (s s' : St) (D D' : Nat → Bool), g s = g s' → (∀ i t, ts[i]? = some t → w t → D (b + i) = D' (b + i)) → g (foldS D b ts s) = g (foldS D' b ts s')
  | [], b, s, s', D, D', h, _ => h
  | t :: ts, b, s, s', D, D', h, hd => by
    simp only [foldS]
    refine foldS_part g w h1 h2 ts (b + 1) _ _ D D' ?_ (fun i u hu hw => by have := hd (i + 1) u (by simpa using hu) hw; rwa [show b + (i + 1) = b + 1 + i by omega] at this)
    by_cases hw : w t
    · have := hd 0 t rfl hw
      simp only [Nat.add_zero] at this
      rw [this]
      by_cases hD : D' b = true
      · rw [if_pos hD, if_pos hD]; exact h1 t s s' hw
      · rw [if_neg hD, if_neg hD]; exact h
    · have e : ∀ (c : Bool) (s : St), g (if c = true then t.app s else s) = g s := fun c s => by
        cases c
        · rfl
        · exact h2 t s hw
      rw [e, e]; exact h
theorem foldS_last {α : Type} (g : St → α) (w : Tr → Prop) (h1 : ∀ t s s', w t → g (t.app s) = g (t.app s')) (h2 : ∀ t s, ¬ w t → g (t.app s) = g s) :
    ∀ (ts : List Tr) (b k : Nat) (s r : St) (t : Tr) (D : Nat → Bool), ts[k]? = some t → w t → D (b + k) = true → (∀ i u, ts[i]? = some u → k < i → w u → D (b + i) = false) → g (foldS D b ts s) = g (t.app r)
  | [], b, k, s, r, t, D, ht, _, _, _ => by simp at ht
  | u :: ts, b, 0, s, r, t, D, ht, hw, hD, hl => by
    simp at ht; subst ht
    simp only [foldS]
    rw [if_pos (by simpa using hD)]
    have none_ : ∀ (ts : List Tr) (b : Nat) (s : St), (∀ i v, ts[i]? = some v → w v → D (b + i) = false) → g (foldS D b ts s) = g s := by
      intro ts
      induction ts with
      | nil => intro b s _; rfl
      | cons v ts ih =>
        intro b s h
        simp only [foldS]
        rw [ih (b + 1) _ (fun i x hx hwx => by have := h (i + 1) x (by simpa using hx) hwx; rwa [show b + (i + 1) = b + 1 + i by omega] at this)]
        split
        · rename_i hb
          exact h2 v s fun hwv => by have := h 0 v rfl hwv; rw [Nat.add_zero, hb] at this; cases this
        · rfl
    rw [none_ ts (b + 1) _ (fun i v hv hwv => by have := hl (i + 1) v (by simpa using hv) (by omega) hwv; rwa [show b + (i + 1) = b + 1 + i by omega] at this)]
    exact h1 _ _ _ hw
  | u :: ts, b, k + 1, s, r, t, D, ht, hw, hD, hl => by
    simp only [foldS]
    exact foldS_last g w h1 h2 ts (b + 1) k _ r t D (by simpa using ht) hw (by rw [← hD]; congr 1; omega) (fun i v hv hi hwv => by have := hl (i + 1) v (by simpa using hv) (by omega) hwv; rwa [show b + (i + 1) = b + 1 + i by omega] at this)
theorem foldS_free {l : Nat} : ∀ (ts : List Tr) (b : Nat) (s : St) (D : Nat → Bool), s.free l = true → (∀ i t, ts[i]? = some t → D (b + i) = true → l ∉ t.mn) → (foldS D b ts s).free l = true
  | [], _, _, _, h, _ => h
  | t :: ts, b, s, D, h, hd => by
    simp only [foldS]
    refine foldS_free ts (b + 1) _ D ?_ (fun i u hu hD => hd (i + 1) u (by simpa using hu) (by rw [← hD]; congr 1; omega))
    split
    · rename_i hb; exact free_app (hd 0 t rfl (by simpa using hb)) h
    · exact h
/-- What comes before each operation, as bits. -/
def mask1 (acc : List Nat) : List Edge → Nat
  | [] => 0
  | e :: es => (if Region.binds .any e then 2 ^ e.on ||| acc[e.on]?.getD 0 else 0) ||| mask1 acc es
def masks : List Oper → List Nat → List Nat
  | [], acc => acc
  | o :: l, acc => masks l (acc ++ [mask1 acc o.after.toList])
def edgesOk : Nat → List Oper → Bool
  | _, [] => true
  | k, o :: l => o.after.toList.all (fun e => !Region.binds .any e || decide (e.on < k)) && edgesOk (k + 1) l
/-- What the check looks at. -/
structure Sm where
  us : List Nat
  wr : List Nat
  mn : List Nat
  nw : Option Nat
def Tr.sm (t : Tr) : Sm := ⟨t.us, t.wr, t.mn, t.nw⟩
def ordd (ms : List Nat) (i k : Nat) : Bool := (ms[k]?.getD 0).testBit i
def meets : List Nat → List Nat → Bool
  | [], _ => false
  | x :: xs, ys => ys.contains x || meets xs ys
def dsts (d : Option Nat) : List Nat :=
  match d with
  | some d => [d]
  | none => []
def clash (rd : List Nat) (ok : Oper) (sk : Sm) (oi : Oper) (si : Sm) : Bool := meets (dsts oi.dst) (dsts ok.dst ++ rd) || meets si.wr (sk.wr ++ sk.us)
def pairOk (ms : List Nat) (k : Nat) (rd : List Nat) (ok : Oper) (sk : Sm) : Nat → List Oper → List Sm → Bool
  | i, oi :: l, si :: r => (i == k || ((!clash rd ok sk oi si || ordd ms i k || ordd ms k i) && (match sk.nw with
    | some lab => !si.mn.contains lab || ordd ms k i
    | none => true))) && pairOk ms k rd ok sk (i + 1) l r
  | _, _, _ => true
def allOk (ops : List Oper) (sms : List Sm) (ms : List Nat) : Nat → List Oper → List Sm → Bool
  | k, ok :: l, sk :: r => pairOk ms k (rdOf ops ok) ok sk 0 ops sms && allOk ops sms ms (k + 1) l r
  | _, _, _ => true
def chkD (ops : List Oper) (sms : List Sm) : Bool := edgesOk 0 ops && allOk ops sms (masks ops []) 0 ops sms
theorem mem_meets {x : Nat} : ∀ {xs ys : List Nat}, x ∈ xs → x ∈ ys → meets xs ys = true
  | y :: xs, ys, h, h' => by
    simp only [meets, Bool.or_eq_true]
    rcases List.mem_cons.1 h with rfl | h
    · exact .inl (by simpa using h')
    · exact .inr (mem_meets h h')
theorem pairOk_get {ms : List Nat} {k : Nat} {rd : List Nat} {ok : Oper} {sk : Sm} : ∀ {l : List Oper} {r : List Sm} {b i : Nat} {oi : Oper} {si : Sm}, pairOk ms k rd ok sk b l r = true → l[i]? = some oi → r[i]? = some si → b + i ≠ k →
    (clash rd ok sk oi si = true → ordd ms (b + i) k = true ∨ ordd ms k (b + i) = true) ∧ ∀ lab, sk.nw = some lab → lab ∈ si.mn → ordd ms k (b + i) = true
  | [], _, _, _, _, _, _, ho, _, _ => by simp at ho
  | _ :: _, [], _, _, _, _, _, _, hs, _ => by simp at hs
  | o :: l, s :: r, b, 0, oi, si, h, ho, hs, hne => by
    simp at ho hs; subst ho hs
    simp only [pairOk, Bool.and_eq_true, Bool.or_eq_true, beq_iff_eq] at h
    rcases h.1 with e | ⟨h1, h2⟩
    · exact absurd e (by simpa using hne)
    · refine ⟨fun hc => ?_, fun lab hl hm => ?_⟩
      · simp only [hc, Bool.not_true, Bool.false_eq_true, false_or] at h1; simpa using h1
      · rw [hl] at h2; simp [hm] at h2; simpa using h2
  | o :: l, s :: r, b, i + 1, oi, si, h, ho, hs, hne => by
    simp only [pairOk, Bool.and_eq_true] at h
    have := pairOk_get (b := b + 1) (i := i) h.2 (by simpa using ho) (by simpa using hs) (by omega)
    rwa [show b + 1 + i = b + (i + 1) by omega] at this
theorem allOk_get {ops : List Oper} {sms : List Sm} {ms : List Nat} : ∀ {l : List Oper} {r : List Sm} {b k : Nat} {ok : Oper} {sk : Sm}, allOk ops sms ms b l r = true → l[k]? = some ok → r[k]? = some sk → pairOk ms (b + k) (rdOf ops ok) ok sk 0 ops sms = true
  | [], _, _, _, _, _, _, ho, _ => by simp at ho
  | _ :: _, [], _, _, _, _, _, _, hs => by simp at hs
  | o :: l, s :: r, b, 0, ok, sk, h, ho, hs => by
    simp at ho hs; subst ho hs
    simp only [allOk, Bool.and_eq_true] at h
    exact h.1
  | o :: l, s :: r, b, k + 1, ok, sk, h, ho, hs => by
    simp only [allOk, Bool.and_eq_true] at h
    have := allOk_get (b := b + 1) (k := k) h.2 (by simpa using ho) (by simpa using hs)
    rwa [show b + 1 + k = b + (k + 1) by omega] at this
theorem edgesOk_get : ∀ {l : List Oper} {b k : Nat} {o : Oper}, edgesOk b l = true → l[k]? = some o → ∀ e ∈ o.after, Region.binds .any e = true → e.on < b + k
  | [], _, _, _, _, ho, _, _, _ => by simp at ho
  | o :: l, b, 0, o', h, ho, e, he, hb => by
    simp at ho; subst ho
    simp only [edgesOk, Bool.and_eq_true, List.all_eq_true] at h
    have := h.1 e (by simpa using he)
    simpa [hb] using this
  | o :: l, b, k + 1, o', h, ho, e, he, hb => by
    simp only [edgesOk, Bool.and_eq_true] at h
    have := edgesOk_get (b := b + 1) (k := k) h.2 (by simpa using ho) e he hb
    omega
/-- A set that holds what comes before its members. -/
def Closed (ops : List Oper) (D : Nat → Bool) : Prop := ∀ k o, ops[k]? = some o → D k = true → ∀ e ∈ o.after, Region.binds .any e = true → D e.on = true
theorem mask1_spec {ops : List Oper} {D : Nat → Bool} (hc : Closed ops D) {acc : List Nat} (ha : ∀ k, k < acc.length → ∀ o, ops[k]? = some o → (∀ e ∈ o.after, Region.binds .any e = true → D e.on = true) → ∀ i, (acc[k]?.getD 0).testBit i = true → D i = true) (hlen : acc.length ≤ ops.length) :
    ∀ {es : List Edge}, (∀ e ∈ es, Region.binds .any e = true → D e.on = true) → ∀ i, (mask1 acc es).testBit i = true → D i = true
  | [], _, i, h => by simp [mask1] at h
  | e :: es, he, i, h => by
    simp only [mask1, Nat.testBit_or, Bool.or_eq_true] at h
    rcases h with h | h
    · split at h
      · rename_i hb
        have hon := he e (by simp) hb
        simp only [Nat.testBit_or, Bool.or_eq_true, Nat.testBit_two_pow, decide_eq_true_eq] at h
        rcases h with h | h
        · rw [← h]; exact hon
        · by_cases hk : e.on < acc.length
          · have hk' : e.on < ops.length := by omega
            exact ha e.on hk _ (List.getElem?_eq_getElem hk') (fun e' he' hb' => hc e.on _ (List.getElem?_eq_getElem hk') hon e' he' hb') i h
          · rw [List.getElem?_eq_none (by omega)] at h; simp at h
      · simp at h
    · exact mask1_spec hc ha hlen (fun e' he' => he e' (List.mem_cons_of_mem _ he')) i h
theorem masks_spec {ops : List Oper} {D : Nat → Bool} (hc : Closed ops D) : ∀ {l : List Oper} {acc : List Nat}, (∀ j, l[j]? = ops[acc.length + j]?) → acc.length + l.length = ops.length → (∀ k, k < acc.length → ∀ o, ops[k]? = some o → (∀ e ∈ o.after, Region.binds .any e = true → D e.on = true) → ∀ i, (acc[k]?.getD 0).testBit i = true → D i = true) →
    ∀ k o, ops[k]? = some o → (∀ e ∈ o.after, Region.binds .any e = true → D e.on = true) → ∀ i, ordd (masks l acc) i k = true → D i = true
  | [], acc, hl, hlen, ha, k, o, ho, he, i, hi => by
    have hk : k < ops.length := (List.getElem?_eq_some_iff.1 ho).1
    exact ha k (by simp at hlen; omega) o ho he i hi
  | o' :: l, acc, hl, hlen, ha, k, o, ho, he, i, hi => by
    refine masks_spec hc (l := l) (acc := acc ++ [mask1 acc o'.after.toList]) (fun j => ?_) (by simp at hlen ⊢; omega) (fun k hk o ho he i hi => ?_) k o ho he i hi
    · have := hl (j + 1)
      simp only [List.length_append, List.length_singleton]
      rw [show acc.length + 1 + j = acc.length + (j + 1) by omega, ← this]; rfl
    · by_cases hk' : k < acc.length
      · rw [List.getElem?_append_left hk'] at hi
        exact ha k hk' o ho he i hi
      · have hk2 : k = acc.length := by simp at hk; omega
        subst hk2
        have e1 := hl 0
        simp only [Nat.add_zero, List.getElem?_cons_zero] at e1
        rw [ho] at e1; injection e1 with e1; subst e1
        simp only [List.getElem?_concat_length, Option.getD_some] at hi
        exact mask1_spec hc ha (by simp at hlen; omega) (fun e hm => he e (by simpa using hm)) i hi
end Go.Proofs.YtbhokdhkfodpfaaGreatDoor

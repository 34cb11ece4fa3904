/- Arguments that read as data, as cells. No condition. The order of a sum's terms; a rounded result is canonical. No condition. Digits of sums, differences and products. No condition. The digits of a sum, a difference, and which number is less. No condition. The digits of a product, and of a quotient by one digit. No condition. A quotient by one digit; shifts of digits. No condition. Sums, differences, products of the reference's natural numbers. No condition. The integers of the reference. No condition. Sums and differences of the reference's integers. No condition. The lowest bits of a number; a real number of the reference and its exponent. No condition. A real number of the reference: an integer times a power of 2; its exponent. No condition. A real number in steps; a part rounded. No condition. A part rounded; the greatest float; what is beyond it. No condition. The greatest float, what is beyond it. No condition. The reference's rounding is the program's. No condition. Canonical floats, counted. No condition. The exact sum of floats. No condition. The reference's sum is the program's. No condition. The reference's Total. No condition. What the laws of sums compare. No condition. The law SumTotals. No condition. The law SumAdds. No condition. The package variables of the program, as they are laid, and what a law's arguments are. No condition. Rounding to the nearest: how near, and when exactly. No condition. What a rounded sum drops is a float of the format. No condition. -/
import Derived.Test.YthpkhmbjmnhmoaaDoorMd
import Derived.Test.YthpkhmbjmnhmoaaDoorMc
import Derived.ChangeSlices
import Derived.ChangeArms
import Derived.WideShapes
import Derived.ProofKit
import Derived.Test.YthpkhmbjmnhmoaaDoorMg
import Derived.Test.YthpkhmbjmnhmoaaDoorMh
import Derived.Test.YthpkhmbjmnhmoaaDoorMf
import Derived.Test.YthpkhmbjmnhmoaaDoorMe
import Derived.KernelRfl
import Derived.Test.YthpkhmbjmnhmoaaDoorRows
import Derived.LaidMore
import Derived.LaidHandle
import Derived.Stop.Joined
import Derived.Carry
import Derived.OpenShut
/- Arguments that read as data, as cells. No condition. -/
namespace Go.Proofs.YthpkhmbjmnhmoaaDoor
set_option linter.unusedVariables false
set_option linter.unusedSimpArgs false
open Go.RowKit
/-- What one cell of an argument is. -/
inductive CT where
  | i (k : IntKind)
  | n
  | b
  | w
def ctFields (P : Program) (g : TypeId → Option (List CT)) : List Field → Nat → Option (List CT)
  | [], _ => some []
  | fd :: r, off => match g fd.type with
    | some l => if fd.offset = off ∧ P.cellsOf fd.type = l.length then (ctFields P g r (off + l.length)).map (l ++ ·) else none
    | none => none
def ctOf (P : Program) : Nat → TypeId → Option (List CT)
  | 0, _ => none
  | f + 1, t => match P.underlying t with
    | some .bool => some [.b]
    | some (.int .u64) => some [.n]
    | some (.int k) => some [.i k]
    | some (.slice e) => match P.underlying e with
      | some (.int .u64) => if P.cellsOf e = 1 then some [.w] else none
      | _ => none
    | some (.struct fs) => match ctFields P (ctOf P f) fs.toList 0 with
      | some l => if P.cellsOf t = l.length then some l else none
      | none => none
    | _ => none
/-- A cell of such a kind. -/
def CtIs : CT → Ce → Prop
  | .i k, c => ∃ x, c = .i k x ∧ (Lit.int k x).wf = true
  | .n, c => ∃ x, c = .n x ∧ x < 18446744073709551616
  | .b, c => ∃ x, c = .b x
  | .w, c => ∃ l, c = .w false l ∧ Ws l
section
variable {H : Type} {enc : TypeId × Value → H} {P : Program} {W : World} {ok : Nat → Prop} {base : Nat} {sp : Nat → Bool} {held : Bool}
theorem wf_u64 {x : Int} (h : (Lit.int .u64 x).wf = true) : 0 ≤ x ∧ x < 18446744073709551616 := by
  simp only [Lit.wf, Bool.and_eq_true, decide_eq_true_eq] at h
  have h1 : IntKind.min .u64 = 0 := rfl
  have h2 : IntKind.max .u64 = 18446744073709551615 := rfl
  rw [h1, h2] at h; omega
theorem wf_i64 {x : Int} (h : (Lit.int .i64 x).wf = true) : -9223372036854775808 ≤ x ∧ x ≤ 9223372036854775807 := by
  simp only [Lit.wf, Bool.and_eq_true, decide_eq_true_eq] at h
  have h1 : IntKind.min .i64 = -9223372036854775808 := rfl
  have h2 : IntKind.max .i64 = 9223372036854775807 := rfl
  rw [h1, h2] at h; exact h
theorem words_cell (hok : ∀ b, b < W.heap.size → ok b) {t e : TypeId} {fuel : Nat} {cs : List Value} {x : DataW H × List MemPlace} (ht : P.underlying t = some (.slice e)) (he : P.underlying e = some (.int .u64)) (hc : P.cellsOf e = 1)
    (h : DataW.trod enc P W base sp held fuel t cs = some x) : ∃ l, Ws l ∧ ∃ v, cs = [v] ∧ RC (enA W ok) (.w false l) v := by
  rcases ChangeShapes.open_ints ht he hc h with ⟨rfl, _⟩ | ⟨a, len, cap, zs, rfl, _, hl, hm, hz, _, hcell, hwf⟩
  · exact ⟨[], by simp [Ws], _, rfl, none, 0, rfl, Nat.le_refl _, fun i x hi => by simp at hi⟩
  · have hlz : len ≤ zs.length := by rw [hz]; split <;> omega
    have hz0 : ∀ n ∈ zs, 0 ≤ n ∧ n < 18446744073709551616 := fun n hn => wf_u64 (hwf n hn)
    have hll : ((zs.take len).map Int.toNat).length = len := by simp; omega
    refine ⟨(zs.take len).map Int.toNat, fun w hw => ?_, _, rfl, some a, cap, by rw [hll], by rw [hll]; exact hl, fun i x hi => ?_⟩
    · obtain ⟨n, hn, rfl⟩ := List.mem_map.1 hw
      have := hz0 n (List.mem_of_mem_take hn); omega
    · have hil : i < len := by rw [← hll]; exact (List.getElem?_eq_some_iff.1 hi).1
      have hc1 := hcell i (by omega)
      have hx : zs.getD i 0 = x := by
        rw [List.getElem?_map, List.getElem?_take, if_pos hil, List.getElem?_eq_getElem (show i < zs.length by omega)] at hi
        simp only [Option.map_some, Option.some.injEq] at hi
        have := hz0 zs[i] (List.getElem_mem _)
        simp [List.getD, List.getElem?_eq_getElem (show i < zs.length by omega)]; omega
      rw [hx] at hc1
      refine ⟨a, rfl, hok _ ?_, (fun e => by cases e), hc1⟩
      have := World.block_lt_of_cell? W _ hc1
      rwa [add_block] at this
theorem fields_cells (hok : ∀ b, b < W.heap.size → ok b) {g : TypeId → Option (List CT)} {n : Nat} {cs : List Value} (ih : ∀ (t : TypeId) (cts : List CT) (ds : List Value) (y : DataW H × List MemPlace), g t = some cts → DataW.trod enc P W base sp held n t ds = some y → ∃ ces, All2 (RC (enA W ok)) ces ds ∧ All2 CtIs cts ces) :
    ∀ (fs : List Field) (off : Nat) (cts : List CT), ctFields P g fs off = some cts → (∀ fd ∈ fs, ∃ y, DataW.trod enc P W base sp held n fd.type ((cs.drop fd.offset).take (P.cellsOf fd.type)) = some y) → cs.length = off + cts.length → ∃ ces, All2 (RC (enA W ok)) ces (cs.drop off) ∧ All2 CtIs cts ces
  | [], off, cts, h, _, hl => by
    simp only [ctFields, Option.some.injEq] at h; subst h
    rw [List.drop_of_length_le (by simp at hl; omega)]
    exact ⟨[], .nil, .nil⟩
  | fd :: r, off, cts, h, hf, hl => by
    simp only [ctFields] at h
    split at h
    · rename_i l hg
      split at h
      · rename_i ho
        obtain ⟨ho, hc⟩ := ho
        cases hr : ctFields P g r (off + l.length) with
        | none => simp [hr] at h
        | some l2 =>
          simp only [hr, Option.map_some, Option.some.injEq] at h; subst h
          rw [List.length_append] at hl
          obtain ⟨y, hy⟩ := hf fd (by simp)
          rw [ho, hc] at hy
          obtain ⟨c1, a1, m1⟩ := ih _ _ _ _ hg hy
          obtain ⟨c2, a2, m2⟩ := fields_cells hok ih r (off + l.length) l2 hr (fun fd' hf' => hf fd' (List.mem_cons_of_mem _ hf')) (by omega)
          refine ⟨c1 ++ c2, ?_, m1.append m2⟩
          have := a1.append a2
          rwa [show cs.drop (off + l.length) = (cs.drop off).drop l.length by rw [List.drop_drop], List.take_append_drop] at this
      · cases h
    · cases h
theorem trod_cells (hok : ∀ b, b < W.heap.size → ok b) : ∀ (f n : Nat) (t : TypeId) (cts : List CT) (cs : List Value) (x : DataW H × List MemPlace), ctOf P f t = some cts → DataW.trod enc P W base sp held n t cs = some x → ∃ ces, All2 (RC (enA W ok)) ces cs ∧ All2 CtIs cts ces
  | 0, n, t, cts, cs, x, h, _ => by simp [ctOf] at h
  | f + 1, n, t, cts, cs, x, h, hd => by
    simp only [ctOf] at h
    split at h
    · rename_i ht
      injection h with h; subst h
      obtain ⟨b, rfl, _⟩ := DataW.trod_bool ht hd
      exact ⟨[.b b], .cons rfl .nil, .cons ⟨b, rfl⟩ .nil⟩
    · rename_i ht
      injection h with h; subst h
      obtain ⟨n, rfl, _, hw⟩ := DataW.trod_int ht hd
      have := wf_u64 hw
      exact ⟨[.n n.toNat], .cons (by show Value.int .u64 n = .int .u64 (n.toNat : Nat); rw [Int.toNat_of_nonneg this.1]) .nil, .cons ⟨n.toNat, rfl, by omega⟩ .nil⟩
    · rename_i k _ ht
      injection h with h; subst h
      obtain ⟨n, rfl, _, hw⟩ := DataW.trod_int ht hd
      exact ⟨[.i k n], .cons rfl .nil, .cons ⟨n, rfl, hw⟩ .nil⟩
    · rename_i e ht
      split at h
      · rename_i he
        split at h
        · rename_i hc
          injection h with h; subst h
          obtain ⟨l, hw, v, rfl, hv⟩ := words_cell (ok := ok) hok ht he hc hd
          exact ⟨[.w false l], .cons hv .nil, .cons ⟨l, rfl, hw⟩ .nil⟩
        · cases h
      · cases h
    · rename_i fs ht
      split at h
      · rename_i l hl
        split at h
        · rename_i hc
          injection h with h; subst h
          obtain ⟨xs, m, rfl, _, hlen, hxs, hel⟩ := DataW.trod_struct ht hd
          have hff : ∀ fd ∈ fs.toList, ∃ y, DataW.trod enc P W base sp held m fd.type ((cs.drop fd.offset).take (P.cellsOf fd.type)) = some y := fun fd hfd => by
            obtain ⟨i, hi, rfl⟩ := List.getElem_of_mem hfd
            have hi' : i < fs.size := by simpa using hi
            have := hel i fs[i] (by simp [hi'])
            rw [List.getElem?_eq_getElem (by omega)] at this
            exact ⟨_, by simpa using this⟩
          obtain ⟨ces, h1, h2⟩ := fields_cells (cs := cs) hok (fun t cts ds y hg hy => trod_cells hok f m t cts ds y hg hy) fs.toList 0 l hl hff (by omega)
          exact ⟨ces, by simpa using h1, h2⟩
        · cases h
      · cases h
    · cases h
/-- A struct among the arguments. -/
theorem open_struct {b0 : Nat} (hok : ∀ b, b < W.heap.size → ok b) {t : TypeId} {v : Value} {d : DataW H} {ps : List MemPlace} {fs : Array Field} {f : Nat} {cts : List CT} (ht : P.underlying t = some (.struct fs)) (hc : ctOf P f t = some cts) (hval : Value.okWide P W .any b0 t v) (h : DataW.Trod enc P W base sp held t v d ps) : ∃ ces, RP (enA W ok) (.a ces) v ∧ All2 CtIs cts ces := by
  obtain ⟨vs, rfl, _⟩ := WideShapes.okWide_struct ht hval
  obtain ⟨n, hd⟩ := h
  obtain ⟨ces, h1, h2⟩ := trod_cells hok f n t cts _ _ hc hd
  exact ⟨ces, ⟨vs, rfl, h1⟩, h2⟩
/-- Words among the arguments. -/
theorem open_words {b0 : Nat} (hok : ∀ b, b < W.heap.size → ok b) {t e : TypeId} {v : Value} {d : DataW H} {ps : List MemPlace} (ht : P.underlying t = some (.slice e)) (he : P.underlying e = some (.int .u64)) (hc : P.cellsOf e = 1) (hval : Value.okWide P W .any b0 t v) (h : DataW.Trod enc P W base sp held t v d ps) : ∃ l, RP (enA W ok) (.c (.w false l)) v ∧ Ws l := by
  obtain ⟨a, len, cap, rfl⟩ := WideShapes.okWide_slice ht hval
  obtain ⟨n, hd⟩ := h
  obtain ⟨l, h1, v, h2, h3⟩ := words_cell (ok := ok) hok ht he hc hd
  simp only [Value.cells, List.cons.injEq, and_true] at h2
  subst h2
  exact ⟨l, h3, h1⟩
/-- Structs among the arguments, in a slice. -/
theorem open_structs {b0 : Nat} (hok : ∀ b, b < W.heap.size → ok b) {t e : TypeId} {v : Value} {d : DataW H} {ps : List MemPlace} {f : Nat} {cts : List CT} (ht : P.underlying t = some (.slice e)) (hc : ctOf P f e = some cts) (hn : P.cellsOf e = cts.length) (hpos : 0 < cts.length) (hval : Value.okWide P W .any b0 t v) (h : DataW.Trod enc P W base sp held t v d ps) : ∃ rows, RP (enA W ok) (.s false rows) v ∧ ∀ r ∈ rows, All2 CtIs cts r := by
  obtain ⟨a, len, cap, rfl⟩ := WideShapes.okWide_slice ht hval
  obtain ⟨fu, hd⟩ := h
  rcases DataW.trod_slice ht hd with ⟨hcs, _⟩ | ⟨ad, len', cap', elems, rest, n, _, hcs, _, _, hl, hm, hlen, hel, _⟩
  · simp [Value.cells] at hcs
    obtain ⟨rfl, rfl, rfl⟩ := hcs
    exact ⟨[], ⟨none, 0, 0, rfl, Nat.le_refl _, fun i cs hi => by simp at hi⟩, fun r hr => by cases hr⟩
  · simp [Value.cells] at hcs
    obtain ⟨rfl, rfl, rfl⟩ := hcs
    have key : ∀ i, ∃ ces : List Ce, i < len → (∃ vs, All2 (RC (enA W ok)) ces vs ∧ At W (ad.add (i * cts.length)) vs ∧ ad.block < W.heap.size) ∧ All2 CtIs cts ces := fun i => by
      by_cases hi : i < len
      · have h1 := hel i hi
        rw [List.getElem?_eq_getElem (by omega)] at h1
        obtain ⟨vs, h2, h3⟩ := Option.bind_eq_some_iff.1 h1
        obtain ⟨ces, h4, h5⟩ := trod_cells (ok := ok) hok f n e cts vs _ hc h3
        refine ⟨ces, fun _ => ⟨⟨vs, h4, ?_⟩, h5⟩⟩
        unfold World.cells? at h2
        split at h2
        · have hAt : At W (ad.add (i * cts.length)) vs := fun q u hq => by
            rw [hn] at h2
            have hlen2 : vs.length = cts.length := by rw [← h4.length, ← h5.length]
            have hql : q < cts.length := by rw [← hlen2]; exact (List.getElem?_eq_some_iff.1 hq).1
            have := mapM_some_get h2 q q (by simp [hql])
            rw [hq] at this; exact this
          refine ⟨hAt, ?_⟩
          have hv0 : 0 < vs.length := by rw [← h4.length, ← h5.length]; exact hpos
          have := hAt 0 vs[0] (List.getElem?_eq_getElem hv0)
          have := World.block_lt_of_cell? W _ this
          rwa [add_block, add_block] at this
        · cases h2
      · exact ⟨[], fun h => absurd h hi⟩
    obtain ⟨F, hF⟩ := Classical.skolem.1 key
    refine ⟨(List.range len).map F, ⟨some ad, cap, cts.length, by simp, by simpa using hl, fun i cs hi => ?_⟩, fun r hr => ?_⟩
    · rw [List.getElem?_map] at hi
      by_cases hil : i < len
      · rw [List.getElem?_range hil] at hi
        simp only [Option.map_some, Option.some.injEq] at hi; subst hi
        obtain ⟨⟨vs, g1, g2, g3⟩, g4⟩ := hF i hil
        refine ⟨g4.length.symm, ad, rfl, hok _ g3, (fun e => by cases e), vs, ⟨fun c hc => ?_, g1⟩, g2⟩
        have : ∀ {a : List CT} {b : List Ce}, All2 CtIs a b → ∀ c ∈ b, c.pure = true := fun {a b} h => by
          induction h with
          | nil => intro c hc; cases hc
          | @cons x y az bs hxy _ ih =>
            intro c hc
            rcases List.mem_cons.1 hc with rfl | hc
            · cases x with
              | i k => obtain ⟨_, rfl, _⟩ := hxy; rfl
              | n => obtain ⟨_, rfl, _⟩ := hxy; rfl
              | b => obtain ⟨_, rfl⟩ := hxy; rfl
              | w => obtain ⟨_, rfl, _⟩ := hxy; rfl
            · exact ih c hc
        exact this g4 c hc
      · rw [List.getElem?_eq_none (by simpa using hil)] at hi; simp at hi
    · obtain ⟨i, hi, rfl⟩ := List.mem_map.1 hr
      exact (hF i (List.mem_range.1 hi)).2
end
end Go.Proofs.YthpkhmbjmnhmoaaDoor
/- The order of a sum's terms; a rounded result is canonical. No condition. -/
namespace Go.Proofs.YthpkhmbjmnhmoaaDoor
set_option linter.unusedVariables false
set_option linter.unusedSimpArgs false
/-- The signed value over a low exponent. -/
def Nu.sv (z : Int) (x : Nu) : Int := if x.n then -((x.v * 2 ^ (x.e - z).toNat : Nat) : Int) else ((x.v * 2 ^ (x.e - z).toNat : Nat) : Int)
theorem pow_split {a b c : Int} (h1 : a ≤ b) (h2 : b ≤ c) : 2 ^ (c - a).toNat = 2 ^ (c - b).toNat * 2 ^ (b - a).toNat := by
  rw [← Nat.pow_add]; congr 1; omega
theorem Nu.plus_sv {z : Int} {a b : Nu} (ha : z ≤ a.e) (hb : z ≤ b.e) : (a.plus b).sv z = a.sv z + b.sv z ∧ z ≤ (a.plus b).e := by
  obtain ⟨n, v, e⟩ := a
  obtain ⟨n', v', e'⟩ := b
  simp only at ha hb
  unfold Nu.plus
  by_cases h0 : v = 0
  · subst h0; simp [Nu.sv, hb]
  · by_cases h1 : v' = 0
    · subst h1; simp [Nu.sv, h0, ha]
    · simp only [h0, h1, if_false]
      generalize hm : (if e' < e then e' else e) = m
      have hm1 : m ≤ e ∧ m ≤ e' ∧ z ≤ m := by split at hm <;> omega
      have e1 : v * 2 ^ (e - z).toNat = v * 2 ^ (e - m).toNat * 2 ^ (m - z).toNat := by rw [pow_split hm1.2.2 hm1.1, Nat.mul_assoc]
      have e2 : v' * 2 ^ (e' - z).toNat = v' * 2 ^ (e' - m).toNat * 2 ^ (m - z).toNat := by rw [pow_split hm1.2.2 hm1.2.1, Nat.mul_assoc]
      simp only [Nu.sv, e1, e2]
      generalize v * 2 ^ (e - m).toNat = x
      generalize v' * 2 ^ (e' - m).toNat = y
      obtain ⟨k, hk⟩ : ∃ k, 2 ^ (m - z).toNat = k := ⟨_, rfl⟩
      simp only [hk]
      have hp : (x + y) * k = x * k + y * k := Nat.add_mul x y k
      have hs : (x - y) * k = x * k - y * k := Nat.sub_mul x y k
      have hs' : (y - x) * k = y * k - x * k := Nat.sub_mul y x k
      have hle := fun h : y ≤ x => Nat.mul_le_mul_right k h
      have hle' := fun h : ¬ y ≤ x => Nat.mul_le_mul_right k (show x ≤ y by omega)
      generalize x * k = X at *
      generalize y * k = Y at *
      by_cases hyx : y ≤ x
      · have := hle hyx
        cases n <;> cases n' <;> simp only [hyx, if_true, if_false, hk, hp, hs, reduceCtorEq, Bool.false_eq_true] <;> omega
      · have := hle' hyx
        cases n <;> cases n' <;> simp only [hyx, if_true, if_false, hk, hp, hs', reduceCtorEq, Bool.false_eq_true] <;> omega
/-- The signed values of the finite terms, added. -/
def svs (z : Int) : List Flt → Int
  | [] => 0
  | x :: l => (if x.k = 1 then (⟨x.n, x.v, x.e⟩ : Nu).sv z else 0) + svs z l
theorem svs_append (z : Int) (l m : List Flt) : svs z (l ++ m) = svs z l + svs z m := by
  induction l with
  | nil => simp [svs]
  | cons x l ih => simp only [List.cons_append, svs, ih]; omega
theorem svs_reverse (z : Int) (l : List Flt) : svs z l.reverse = svs z l := by
  induction l with
  | nil => rfl
  | cons x l ih => rw [List.reverse_cons, svs_append, ih]; simp only [svs]; omega
/-- What holds of a sum of such terms. -/
structure GaIs (z : Int) (l : List Flt) (g : Ga) : Prop where
  sum : g.sum.sv z = svs z l
  low : z ≤ g.sum.e
  nan : g.nan = l.any fun x => x.k == 3
  inv : g.inv = false
  plus : g.plus = l.any fun x => x.k == 2 && !x.n
  minus : g.minus = l.any fun x => x.k == 2 && x.n
  seen : g.seen = l.any fun _ => true
  some_ : g.some_ = l.any fun x => x.k == 1 || (x.k != 2 && x.k != 3 && !x.n)
  other : g.other = l.any fun x => x.k == 1 || (x.k != 2 && x.k != 3 && x.n)
theorem GaIs.put {z : Int} {l : List Flt} {g : Ga} (h : GaIs z l g) {x : Flt} (hx : x.k = 1 → z ≤ x.e) : GaIs z (l ++ [x]) (g.put x.k ⟨x.n, x.v, x.e⟩) := by
  obtain ⟨h1, h2, h3, h4, h5, h6, h7, h8, h9⟩ := h
  obtain ⟨k, n, e, v⟩ := x
  simp only at hx
  unfold Ga.put
  by_cases k3 : k = 3
  · subst k3; constructor <;> simp_all [svs_append, svs]
  · by_cases k2 : k = 2
    · subst k2; constructor <;> simp_all [svs_append, svs]
    · by_cases k1 : k = 1
      · subst k1
        have := Nu.plus_sv h2 (b := ⟨n, v, e⟩) (hx rfl)
        constructor <;> simp_all [svs_append, svs]
      · have b1 : (k == 1) = false := by simp [k1]
        have b2 : (k == 2) = false := by simp [k2]
        have b3 : (k == 3) = false := by simp [k3]
        constructor <;> simp [svs_append, svs, bne, b1, b2, b3, k1, k2, k3, h1, h2, h3, h4, h5, h6, h7, h8, h9]
theorem gather_is {z : Int} (hz : z ≤ 0) {l : List Flt} (h : ∀ x ∈ l, x.k = 1 → z ≤ x.e) : GaIs z l (gatherP l) := by
  suffices H : ∀ i, GaIs z (l.take i) (gatherP (l.take i)) by have := H l.length; rwa [List.take_length] at this
  intro i
  induction i with
  | zero => constructor <;> simp [gatherP, Ga.zero, Nu.sv, svs, hz]
  | succ i ih =>
    cases hx : l[i]? with
    | none =>
      have hl : l.length ≤ i := List.getElem?_eq_none_iff.1 hx
      rw [List.take_of_length_le (by omega)] at ih ⊢
      exact ih
    | some x =>
      rw [gatherP_take hx, List.take_add_one, hx]
      exact ih.put (h x (List.mem_of_getElem? hx))
theorem cutP_scale (v k : Nat) (s : Int) : cutP (v * 2 ^ k) (s + k) false = cutP v s false := by
  unfold cutP
  by_cases h : s ≤ 0
  · rw [if_pos h]
    by_cases h' : s + k ≤ 0
    · rw [if_pos h', Nat.mul_assoc, ← Nat.pow_add, show k + (-(s + k)).toNat = (-s).toNat by omega]
    · rw [if_neg h']
      have e1 : v * 2 ^ k = v * 2 ^ (-s).toNat * 2 ^ (s + k).toNat := by rw [Nat.mul_assoc, ← Nat.pow_add, show (-s).toNat + (s + k).toNat = k by omega]
      have e2 : 2 ^ (s + k).toNat = 2 * 2 ^ (s + k - 1).toNat := by rw [show (s + k).toNat = (s + k - 1).toNat + 1 by omega, Nat.pow_succ']
      have hp : 0 < 2 ^ (s + k - 1).toNat := Nat.pow_pos (by decide)
      have e3 : v * 2 ^ k = v * 2 ^ (-s).toNat * 2 * 2 ^ (s + k - 1).toNat := by rw [e1, e2, Nat.mul_assoc, Nat.mul_assoc, Nat.mul_assoc]
      rw [e3, Nat.mul_mod_left, Nat.mul_div_cancel _ hp, ← e3, e1, Nat.mul_div_cancel _ (Nat.pow_pos (by decide))]
      simp
  · rw [if_neg h, if_neg (by omega)]
    have e1 : (s + k).toNat = s.toNat + k := by omega
    have e2 : (s + k - 1).toNat = (s - 1).toNat + k := by omega
    have hp : 0 < 2 ^ k := Nat.pow_pos (by decide)
    rw [e1, e2, Nat.pow_add, Nat.pow_add, Nat.mul_div_mul_right _ _ hp, Nat.mul_div_mul_right _ _ hp, Nat.mul_mod_mul_right]
    have : decide (v % 2 ^ (s - 1).toNat * 2 ^ k = 0) = decide (v % 2 ^ (s - 1).toNat = 0) := by
      congr 1
      simp only [Nat.mul_eq_zero, eq_iff_iff]
      exact ⟨fun h => h.resolve_right (by omega), .inl⟩
    rw [this]
theorem roundP_scale {f p r : Int} {n : Bool} {v : Nat} (k : Nat) {e : Int} (hv : 0 < v) : roundP f p r n (v * 2 ^ k) (e - k) false = roundP f p r n v e false := by
  unfold roundP
  rw [bl_mul_pow _ _ hv, show e - k + ((k + bl v : Nat) : Int) - 1 = e + bl v - 1 by omega]
  simp only [show ∀ u : Int, u - (e - k) = u - e + k from fun u => by omega, cutP_scale]
theorem Nu.round_sv {z : Int} {a b : Nu} (ha : z ≤ a.e) (hb : z ≤ b.e) (h : a.sv z = b.sv z) (f p r : Int) (q : Bool) : a.round f p r q = b.round f p r q := by
  obtain ⟨n, v, e⟩ := a
  obtain ⟨n', v', e'⟩ := b
  simp only at ha hb
  unfold Nu.sv at h
  unfold Nu.round
  simp only at h ⊢
  have p1 : 0 < 2 ^ (e - z).toNat := Nat.pow_pos (by decide)
  have p2 : 0 < 2 ^ (e' - z).toNat := Nat.pow_pos (by decide)
  have z1 : v * 2 ^ (e - z).toNat = 0 ↔ v = 0 := by rw [Nat.mul_eq_zero]; omega
  have z2 : v' * 2 ^ (e' - z).toNat = 0 ↔ v' = 0 := by rw [Nat.mul_eq_zero]; omega
  have s1 := fun hv => @roundP_scale f p r n v (e - z).toNat e hv
  have s2 := fun hv => @roundP_scale f p r n' v' (e' - z).toNat e' hv
  rw [show e - ((e - z).toNat : Int) = z by omega] at s1
  rw [show e' - ((e' - z).toNat : Int) = z by omega] at s2
  generalize v * 2 ^ (e - z).toNat = A at *
  generalize v' * 2 ^ (e' - z).toNat = B at *
  by_cases h0 : v = 0
  · have : v' = 0 := by rw [← z2]; have := z1.2 h0; cases n <;> cases n' <;> simp at h <;> omega
    rw [if_pos h0, if_pos this]
  · have hA : A ≠ 0 := fun h => h0 (z1.1 h)
    have : v' ≠ 0 := by intro h; have := z2.2 h; cases n <;> cases n' <;> simp at h <;> omega
    rw [if_neg h0, if_neg this, ← s1 (by omega), ← s2 (by omega)]
    have hB : B ≠ 0 := fun h => this (z2.1 h)
    cases n <;> cases n' <;> simp at h <;> first | omega | (obtain rfl : A = B := by omega
                                                            rfl)
theorem float_is {z : Int} {l m : List Flt} {g g' : Ga} (h : GaIs z l g) (h' : GaIs z m g') (hs : svs z l = svs z m) (hm : ∀ q : Flt → Bool, l.any q = m.any q) (f p r : Int) : g.float f p r = g'.float f p r := by
  unfold Ga.float
  rw [h.nan, h'.nan, h.inv, h'.inv, h.plus, h'.plus, h.minus, h'.minus, h.seen, h'.seen, h.some_, h'.some_, h.other, h'.other]
  simp only [hm]
  rw [Nu.round_sv h.low h'.low (by rw [h.sum, h'.sum, hs])]
theorem gather_reverse {z : Int} (hz : z ≤ 0) {l : List Flt} (h : ∀ x ∈ l, x.k = 1 → z ≤ x.e) (f p r : Int) : (gatherP l.reverse).float f p r = (gatherP l).float f p r :=
  float_is (gather_is hz fun x hx => h x (List.mem_reverse.1 hx)) (gather_is hz h) (svs_reverse z l) (fun q => List.any_reverse) f p r
theorem argsE_reverse {f p r : Int} {b : Bool} {l : List Fla} : argsE f p r b l.reverse = argsE f p r b l := by
  unfold argsE anyLarge allHold
  rw [List.any_reverse, List.all_reverse]
theorem totalP_reverse {f p r : Int} {l : List Fla} : totalP f p r l.reverse = totalP f p r l := by
  unfold totalP
  rw [List.length_reverse, argsE_reverse]
  split
  · rename_i h
    obtain ⟨h1, h2, h3, h4, h5, h6⟩ := argsE_zero h
    have hf := heldL_fine h5 h6
    have e : heldL f p l.reverse = (heldL f p l).reverse := by simp [heldL]
    rw [e, gather_reverse (z := -4194304) (by omega) (fun x hx hk => (hf x hx hk).1)]
  · rfl
/-- A result that Same and Is answer of. -/
structure Fine (x : Flt) : Prop where
  can : (canon x).2 = true
  v : bl x.v ≤ 100000
theorem fine_zero {n : Bool} : Fine ⟨0, n, 0, 0⟩ := ⟨rfl, (show bl 0 ≤ 100000 by decide)⟩
theorem fine_inf {n : Bool} : Fine ⟨2, n, 0, 0⟩ := ⟨rfl, (show bl 0 ≤ 100000 by decide)⟩
theorem fine_nan : Fine ⟨3, false, 0, 0⟩ := ⟨rfl, (show bl 0 ≤ 100000 by decide)⟩
theorem tz_lt_bl {q : Nat} (h : 0 < q) : tz q < bl q := by
  rw [bl_le]
  obtain ⟨m, hm⟩ := tz_form h
  conv => rhs; rw [hm]
  exact Nat.le_mul_of_pos_right _ (by omega)
theorem tz_rest {q : Nat} (h : 0 < q) : tz (q / 2 ^ tz q) = 0 := by
  obtain ⟨m, hm⟩ := tz_form h
  have : q / 2 ^ tz q = 2 * m + 1 := by
    conv => lhs; arg 1; rw [hm]
    exact Nat.mul_div_cancel_left _ (Nat.pow_pos (by decide))
  rw [this]
  exact tz_odd1 (by omega)
theorem fine_one {n : Bool} {v : Nat} {e : Int} (h1 : 0 < v) (h2 : tz v = 0) (h3 : -1048576 ≤ e) (h4 : e ≤ 1048576) (h5 : bl v ≤ 100000) : Fine ⟨1, n, e, v⟩ := by
  refine ⟨?_, h5⟩
  unfold canon
  simp only []
  rw [if_neg (by omega), if_neg (by omega), if_pos trivial, if_neg (by omega)]
  simp [h2]; omega
theorem mkP_fine {n : Bool} {q : Nat} {u : Int} (h1 : -1048576 ≤ u) (h2 : u + bl q ≤ 1048576) (h3 : bl q ≤ 100000) : Fine (mkP n q u) := by
  unfold mkP
  split
  · exact fine_zero
  · have hq : 0 < q := by omega
    have := tz_lt_bl hq
    have h := Nat.div_pos (Nat.le_of_lt_succ (Nat.lt_succ_of_le ((bl_le q (tz q)).1 this))) (Nat.pow_pos (n := tz q) (show 0 < 2 by decide))
    exact fine_one h (tz_rest hq) (by omega) (by omega) (Nat.le_trans (bl_mono (Nat.div_le_self _ _)) h3)
theorem roundP_fine {f p r : Int} (hf : fmOk f p = true) {n : Bool} {v : Nat} {e : Int} {st : Bool} : Fine (roundP f p r n v e st).1 := by
  obtain ⟨b1, b2, b3, b4⟩ := fmOk_spec hf
  obtain ⟨b5, b6⟩ := gOfE_le b1 b2
  unfold roundP
  simp only []
  have hu : 1 - gOfE f - (p - 1) ≤ stepP f p (e + bl v - 1) := by unfold stepP; split <;> omega
  generalize stepP f p (e + bl v - 1) = u at *
  generalize upP r n (cutP v (u - e) st).1 (cutP v (u - e) st).2 = q
  split
  · split
    · obtain ⟨m, hm⟩ : ∃ m, p.toNat = m + 1 := ⟨p.toNat - 1, by omega⟩
      have h2 : 2 ^ p.toNat = 2 * 2 ^ m := by rw [hm, Nat.pow_succ']
      have h3 : 0 < 2 ^ m := Nat.pow_pos (by decide)
      refine fine_one (by omega) (tz_odd1 (by omega)) (by simp only [gOfE] at *; omega) (by omega) ?_
      have : bl (2 ^ p.toNat - 1) ≤ p.toNat := (bl_lt _ _).2 (by omega)
      omega
    · exact fine_inf
  · exact mkP_fine (by omega) (by omega) (by omega)
theorem float_fine {f p r : Int} (hf : fmOk f p = true) {g : Ga} : Fine (g.float f p r).1 := by
  unfold Ga.float
  split
  · exact fine_nan
  · split
    · exact fine_nan
    · split
      · exact fine_inf
      · unfold Nu.round
        split
        · exact fine_zero
        · exact roundP_fine hf
theorem totalP_fine {f p r : Int} {l : List Fla} : Fine (totalP f p r l).1 := by
  unfold totalP
  split
  · rename_i h
    exact float_fine (argsE_zero h).2.2.2.2.1
  · exact fine_zero
theorem Fine.same {x : Flt} (h : Fine x) : sameP x x = true := by simp [sameP, h.can]
theorem Fine.sh {x : Flt} (h : Fine x) : Sh (nat x.v) := by
  have := nat_len_bl x.v
  have := h.v
  unfold Sh
  omega
theorem Fine.e {x : Flt} (h : Fine x) : I64 x.e := by
  have := good_md h.can
  simp only [Md, I64] at *
  omega
end Go.Proofs.YthpkhmbjmnhmoaaDoor
/- Digits of sums, differences and products. No condition. -/
namespace Go.Proofs.YthpkhmbjmnhmoaaDoor
set_option linter.unusedVariables false
set_option linter.unusedSimpArgs false
/-- The i-th digit. -/
def dig (n i : Nat) : Nat := n / 4294967296 ^ i % 4294967296
theorem Hpos (i : Nat) : 0 < 4294967296 ^ i := Nat.pow_pos (by decide)
theorem dig_lt (n i : Nat) : dig n i < 4294967296 := Nat.mod_lt _ (by decide)
theorem dg_dig {k n i : Nat} (h : i < k) : (dg n k)[i]? = some (dig n i) := dg_get h
theorem dg_add (n k : Nat) : dg n (k + 1) = dg n k ++ [dig n k] := dg_snoc k n
theorem dig_none {n k i : Nat} (h : n < 4294967296 ^ k) (hi : k ≤ i) : dig n i = 0 := dg_lt h hi
theorem dig_low {n p x : Nat} (h : x < p) : dig (n % 4294967296 ^ p) x = dig n x := by
  obtain ⟨q, rfl⟩ : ∃ q, p = x + (q + 1) := ⟨p - x - 1, by omega⟩
  unfold dig
  rw [Nat.pow_add, Nat.mod_mul_right_div_self, Nat.pow_succ, Nat.mul_comm _ 4294967296, Nat.mod_mul_right_mod]
theorem dig_high {n p x : Nat} (h : p ≤ x) : dig n x = dig (n / 4294967296 ^ p) (x - p) := by
  unfold dig
  rw [Nat.div_div_eq_div_mul, ← Nat.pow_add, show p + (x - p) = x by omega]
theorem dig_top {n k : Nat} (h : n < 4294967296 ^ (k + 1)) : dig n k = n / 4294967296 ^ k := by
  unfold dig
  rw [Nat.mod_eq_of_lt]
  rw [Nat.div_lt_iff_lt_mul (Hpos k), Nat.mul_comm, ← Nat.pow_succ]; exact h
theorem low_step (n i : Nat) : n % 4294967296 ^ (i + 1) = n % 4294967296 ^ i + dig n i * 4294967296 ^ i := by
  unfold dig
  rw [Nat.pow_succ, Nat.mod_mul, Nat.mul_comm (4294967296 ^ i)]
theorem high_step (n i : Nat) : n / 4294967296 ^ i = n / 4294967296 ^ (i + 1) * 4294967296 + dig n i := by
  unfold dig
  rw [Nat.pow_succ, ← Nat.div_div_eq_div_mul]; omega
theorem dg_ext {l : List Nat} {n k : Nat} (h : l.length = k) (he : ∀ i, i < k → l[i]? = some (dig n i)) : l = dg n k := by
  apply List.ext_getElem?
  intro i
  by_cases hi : i < k
  · rw [he i hi, dg_dig hi]
  · rw [List.getElem?_eq_none (by omega), List.getElem?_eq_none (by rw [dg_len]; omega)]
theorem dg_zero (k : Nat) : List.replicate k 0 = dg 0 k := dg_ext (by simp) fun i hi => by simp [dig, hi]
theorem dg_low (n p : Nat) : dg (n % 4294967296 ^ p) p = dg n p := (dg_ext (dg_len _ _) fun i hi => by rw [dg_dig hi, dig_low hi]).symm
/-- The carry into digit i of a sum. -/
def cy (a b i : Nat) : Nat := (a % 4294967296 ^ i + b % 4294967296 ^ i) / 4294967296 ^ i
theorem cy_zero (a b : Nat) : cy a b 0 = 0 := by simp [cy, Nat.mod_one]
theorem plus_step (a b i : Nat) : (cy a b i + dig a i + dig b i) % 4294967296 = dig (a + b) i ∧ (cy a b i + dig a i + dig b i) / 4294967296 = cy a b (i + 1) ∧ cy a b i ≤ 1 := by
  have h1 : cy a b (i + 1) = (cy a b i + dig a i + dig b i) / 4294967296 := by
    unfold cy
    rw [low_step, low_step, Nat.pow_succ, ← Nat.div_div_eq_div_mul]
    rw [show a % 4294967296 ^ i + dig a i * 4294967296 ^ i + (b % 4294967296 ^ i + dig b i * 4294967296 ^ i) = a % 4294967296 ^ i + b % 4294967296 ^ i + (dig a i + dig b i) * 4294967296 ^ i by rw [Nat.add_mul]; omega, Nat.add_mul_div_right _ _ (Hpos i), Nat.add_assoc]
  have h2 : dig (a + b) i = (cy a b i + dig a i + dig b i) % 4294967296 := by
    unfold dig cy
    have e : a + b = a % 4294967296 ^ i + b % 4294967296 ^ i + (a / 4294967296 ^ i + b / 4294967296 ^ i) * 4294967296 ^ i := by
      have := Nat.div_add_mod' a (4294967296 ^ i)
      have := Nat.div_add_mod' b (4294967296 ^ i)
      rw [Nat.add_mul]; omega
    conv => lhs; rw [e, Nat.add_mul_div_right _ _ (Hpos i)]
    omega
  refine ⟨h2.symm, h1.symm, ?_⟩
  unfold cy
  have h3 := Nat.mod_lt a (Hpos i)
  have h4 := Nat.mod_lt b (Hpos i)
  exact Nat.le_of_lt_succ ((Nat.div_lt_iff_lt_mul (Hpos i)).2 (by omega))
theorem cy_end {a b m : Nat} (ha : a < 4294967296 ^ m) (hb : b < 4294967296 ^ m) : cy a b m = dig (a + b) m := by
  rw [dig_top (by rw [Nat.pow_succ]; omega)]
  unfold cy
  rw [Nat.mod_eq_of_lt ha, Nat.mod_eq_of_lt hb]
/-- d is a less b; u: above j digits one was borrowed. -/
def Less (a b d j : Nat) (u : Bool) : Prop := d + b = a + (if u then 4294967296 ^ j else 0) ∧ a < 4294967296 ^ j ∧ b < 4294967296 ^ j ∧ d < 4294967296 ^ j
theorem Less.step {a b d j : Nat} {u : Bool} (h : Less a b d j u) {i : Nat} (hi : i < j) : (dig a i + 4294967296 - dig b i - cy d b i) % 4294967296 = dig d i ∧ 1 - (dig a i + 4294967296 - dig b i - cy d b i) / 4294967296 = cy d b (i + 1) := by
  have ⟨h1, h2, h3⟩ := plus_step d b i
  have h4 : dig (d + b) i = dig a i := by
    rw [h.1]
    cases u with
    | false => simp
    | true =>
      simp only [if_true]
      rw [← dig_low hi, Nat.add_mod_right, dig_low hi]
  rw [h4] at h1
  have := dig_lt a i
  have := dig_lt b i
  have := dig_lt d i
  omega
theorem Less.fin {a b d j : Nat} {u : Bool} (h : Less a b d j u) : cy d b j = if u then 1 else 0 := by
  obtain ⟨h1, h2, h3, h4⟩ := h
  unfold cy
  rw [Nat.mod_eq_of_lt h4, Nat.mod_eq_of_lt h3, h1]
  cases u with
  | false => simp [Nat.div_eq_of_lt h2]
  | true => simp only [if_true]; rw [Nat.add_div_right _ (Hpos j), Nat.div_eq_of_lt h2]
theorem less_ex {a b j : Nat} (ha : a < 4294967296 ^ j) (hb : b < 4294967296 ^ j) : ∃ d, Less a b d j (decide (a < b)) ∧ (b ≤ a → d = a - b) := by
  by_cases h : a < b
  · exact ⟨a + 4294967296 ^ j - b, ⟨by simp [h]; omega, ha, hb, by omega⟩, fun h' => by omega⟩
  · exact ⟨a - b, ⟨by simp [h]; omega, ha, hb, by omega⟩, fun _ => rfl⟩
/-- The higher part. -/
def hgh (n i : Nat) : Nat := n / 4294967296 ^ i
theorem hi_step (n i : Nat) : hgh n i = hgh n (i + 1) * 4294967296 + dig n i := high_step n i
theorem hi_zero (n : Nat) : hgh n 0 = n := by simp [hgh]
theorem hi_none {n k : Nat} (h : n < 4294967296 ^ k) {i : Nat} (hi' : k ≤ i) : hgh n i = 0 := Nat.div_eq_of_lt (Nat.lt_of_lt_of_le h (Nat.pow_le_pow_right (by decide) hi'))
theorem hi_lt {a b i : Nat} (h : hgh a i < hgh b i) : a < b := by
  apply Classical.byContradiction
  intro hn
  have := Nat.div_le_div_right (c := 4294967296 ^ i) (Nat.le_of_not_lt hn)
  unfold hgh at h
  omega
/-- How two numbers compare. -/
def cmpP (a b : Nat) : Int := if a < b then -1 else if b < a then 1 else 0
theorem dg_set {Q n p v : Nat} (hp : p < n) (hv : v < 4294967296) : ∃ Q', (dg Q n).set p v = dg Q' n ∧ Q' + dig Q p * 4294967296 ^ p = Q + v * 4294967296 ^ p ∧ ∀ m, p < m → Q < 4294967296 ^ m → Q' < 4294967296 ^ m := by
  have e0 : Q = Q % 4294967296 ^ p + (dig Q p + Q / 4294967296 ^ (p + 1) * 4294967296) * 4294967296 ^ p := by
    have h1 := Nat.div_add_mod' Q (4294967296 ^ p)
    rw [high_step, Nat.add_comm (_ * 4294967296)] at h1
    omega
  obtain ⟨Q', hQ⟩ : ∃ Q', Q' = Q % 4294967296 ^ p + (v + Q / 4294967296 ^ (p + 1) * 4294967296) * 4294967296 ^ p := ⟨_, rfl⟩
  have l1 := Nat.mod_lt Q (Hpos p)
  have h1 : Q' % 4294967296 ^ p = Q % 4294967296 ^ p := by rw [hQ, Nat.add_mul_mod_self_right, Nat.mod_mod]
  have h2 : Q' / 4294967296 ^ p = v + Q / 4294967296 ^ (p + 1) * 4294967296 := by rw [hQ, Nat.add_mul_div_right _ _ (Hpos p), Nat.div_eq_of_lt l1, Nat.zero_add]
  have h3 : Q' / 4294967296 ^ (p + 1) = Q / 4294967296 ^ (p + 1) := by
    rw [Nat.pow_succ, ← Nat.div_div_eq_div_mul, h2, Nat.pow_succ]; omega
  refine ⟨Q', dg_ext (by rw [List.length_set, dg_len]) fun i hi => ?_, ?_, fun m hm h => ?_⟩
  · rw [List.getElem?_set]
    by_cases he : p = i
    · subst he
      rw [if_pos rfl, if_pos (by rw [dg_len]; exact hp)]
      unfold dig
      rw [h2]
      congr 1
      omega
    · rw [if_neg he, dg_dig hi]
      congr 1
      rcases Nat.lt_or_gt_of_ne he with h | h
      · rw [dig_high (show p + 1 ≤ i by omega), dig_high (show p + 1 ≤ i by omega), h3]
      · rw [← dig_low h, ← h1, dig_low h]
  · rw [hQ]
    conv => rhs; rw [e0]
    rw [Nat.add_mul, Nat.add_mul]; omega
  · obtain ⟨q, rfl⟩ : ∃ q, m = (p + 1) + q := ⟨m - (p + 1), by omega⟩
    rw [Nat.pow_add, Nat.mul_comm, ← Nat.div_lt_iff_lt_mul (Hpos _)] at h ⊢
    rw [h3]; exact h
end Go.Proofs.YthpkhmbjmnhmoaaDoor
/- The digits of a sum, a difference, and which number is less. No condition. -/
namespace Go.Proofs.YthpkhmbjmnhmoaaDoor
set_option linter.unusedVariables false
set_option linter.unusedSimpArgs false
variable {G : Gl}
set_option maxHeartbeats 2000000
end Go.Proofs.YthpkhmbjmnhmoaaDoor
/- The digits of a product, and of a quotient by one digit. No condition. -/
namespace Go.Proofs.YthpkhmbjmnhmoaaDoor
set_option linter.unusedVariables false
set_option linter.unusedSimpArgs false
variable {G : Gl}
set_option maxHeartbeats 2000000
/-- The product with the digits below i. -/
def tp (a b i : Nat) : Nat := a % 4294967296 ^ i * b
/-- What holds within the row i, at the digit t: the number Q stands in the result, c is carried. -/
def TimesI (a b k i t Q c : Nat) : Prop := Q + c * 4294967296 ^ (i + t) = tp a b i + dig a i * 4294967296 ^ i * (b % 4294967296 ^ t) ∧ Q < 4294967296 ^ (i + k) ∧ c < 4294967296
theorem TimesI.start {a b k i : Nat} (hb : b < 4294967296 ^ k) : TimesI a b k i 0 (tp a b i) 0 := by
  refine ⟨by simp [Nat.mod_one], ?_, by omega⟩
  unfold tp
  rw [Nat.pow_add]
  exact Nat.mul_lt_mul_of_lt_of_le (Nat.mod_lt _ (Hpos i)) (Nat.le_of_lt hb) (Hpos k)
theorem mul_lt_sq {x y : Nat} (hx : x < 4294967296) (hy : y < 4294967296) : x * y ≤ 18446744065119617025 := by
  have := Nat.mul_le_mul (show x ≤ 4294967295 by omega) (show y ≤ 4294967295 by omega)
  omega
theorem TimesI.next {a b j k i t Q c : Nat} (h : TimesI a b k i t Q c) (hi : i < j) (ht : t < k) : c + dig Q (i + t) + dig a i * dig b t < 18446744073709551616 ∧ ∃ Q', (dg Q (j + k)).set (i + t) ((c + dig Q (i + t) + dig a i * dig b t) % 4294967296) = dg Q' (j + k) ∧ TimesI a b k i (t + 1) Q' ((c + dig Q (i + t) + dig a i * dig b t) / 4294967296) := by
  obtain ⟨h1, h2, h3⟩ := h
  have l1 := dig_lt Q (i + t)
  have l2 := mul_lt_sq (dig_lt a i) (dig_lt b t)
  refine ⟨by omega, ?_⟩
  obtain ⟨Q', e1, e2, e3⟩ := @dg_set Q (j + k) (i + t) ((c + dig Q (i + t) + dig a i * dig b t) % 4294967296) (by omega) (Nat.mod_lt _ (by decide))
  refine ⟨Q', e1, ?_, e3 _ (by omega) h2, by omega⟩
  have hs := Nat.div_add_mod' (c + dig Q (i + t) + dig a i * dig b t) 4294967296
  have hm : (c + dig Q (i + t) + dig a i * dig b t) / 4294967296 * 4294967296 ^ (i + (t + 1)) = (c + dig Q (i + t) + dig a i * dig b t) / 4294967296 * 4294967296 * 4294967296 ^ (i + t) := by
    rw [show i + (t + 1) = i + t + 1 by omega, Nat.pow_succ, Nat.mul_comm (4294967296 ^ (i + t)), Nat.mul_assoc]
  rw [hm, low_step b t, Nat.mul_add, ← Nat.add_assoc, ← h1]
  have hd : dig a i * 4294967296 ^ i * (dig b t * 4294967296 ^ t) = dig a i * dig b t * 4294967296 ^ (i + t) := by
    rw [Nat.pow_add]; ac_rfl
  rw [hd]
  have hk : ∀ x y z : Nat, x / 4294967296 * 4294967296 + x % 4294967296 = x := fun x _ _ => Nat.div_add_mod' x _
  generalize 4294967296 ^ (i + t) = M at *
  generalize dig a i * dig b t = p at *
  generalize dig Q (i + t) = q at *
  have e4 : (c + q + p) / 4294967296 * 4294967296 * M + (c + q + p) % 4294967296 * M = (c + q + p) * M := by rw [← Nat.add_mul, hk _ 0 0]
  rw [Nat.add_mul, Nat.add_mul] at e4
  omega
theorem TimesI.out {a b j k i Q c : Nat} (h : TimesI a b k i k Q c) (hb : b < 4294967296 ^ k) (hi : i < j) : (dg Q (j + k)).set (i + k) c = dg (tp a b (i + 1)) (j + k) := by
  obtain ⟨h1, h2, h3⟩ := h
  obtain ⟨Q', e1, e2, _⟩ := @dg_set Q (j + k) (i + k) c (by omega) h3
  rw [dig_none h2 (Nat.le_refl _), Nat.zero_mul, Nat.add_zero, h1, Nat.mod_eq_of_lt hb] at e2
  rw [e1, e2]
  unfold tp
  rw [low_step a i, Nat.add_mul]
theorem tp_zero (a b : Nat) : tp a b 0 = 0 := by simp [tp, Nat.mod_one]
theorem tp_end {a b j : Nat} (ha : a < 4294967296 ^ j) : tp a b j = a * b := by rw [tp, Nat.mod_eq_of_lt ha]
end Go.Proofs.YthpkhmbjmnhmoaaDoor
/- A quotient by one digit; shifts of digits. No condition. -/
namespace Go.Proofs.YthpkhmbjmnhmoaaDoor
set_option linter.unusedVariables false
set_option linter.unusedSimpArgs false
variable {G : Gl}
set_option maxHeartbeats 2000000
set_option maxRecDepth 10000
/-- The quotient of the digits from i on, at its place. -/
def qf (a w i : Nat) : Nat := hgh a i / w * 4294967296 ^ i
theorem qf_zero (a w : Nat) : qf a w 0 = a / w := by simp [qf, hi_zero]
theorem qf_step {a w j i : Nat} (h : i < j) (hw : 0 < w) (hw' : w < 4294967296) : hgh a (i + 1) % w * 4294967296 + dig a i < 18446744073709551616 ∧ (dg (qf a w (i + 1)) j).set i ((hgh a (i + 1) % w * 4294967296 + dig a i) / w) = dg (qf a w i) j ∧ (hgh a (i + 1) % w * 4294967296 + dig a i) % w = hgh a i % w := by
  have l1 := dig_lt a i
  have l2 := Nat.mod_lt (hgh a (i + 1)) hw
  have e0 := Nat.div_add_mod (hgh a (i + 1)) w
  have e1 := hi_step a i
  have l3 : (hgh a (i + 1) % w * 4294967296 + dig a i) / w < 4294967296 := by
    rw [Nat.div_lt_iff_lt_mul hw]
    have : (hgh a (i + 1) % w + 1) * 4294967296 ≤ w * 4294967296 := Nat.mul_le_mul_right _ l2
    omega
  obtain ⟨Q', e2, e3, _⟩ := @dg_set (qf a w (i + 1)) j i _ h l3
  have e4 : hgh a i = hgh a (i + 1) % w * 4294967296 + dig a i + w * (hgh a (i + 1) / w * 4294967296) := by
    rw [e1]
    conv => lhs; rw [← e0]
    rw [Nat.add_mul, Nat.mul_assoc]; omega
  refine ⟨by omega, ?_, by rw [e4, Nat.add_mul_mod_self_left]⟩
  rw [e2]
  congr 1
  have e5 : dig (qf a w (i + 1)) i = 0 := by
    rw [qf, Nat.pow_succ, ← Nat.mul_assoc, Nat.mul_right_comm]
    unfold dig
    rw [Nat.mul_div_cancel _ (Hpos i), Nat.mul_mod_left]
  rw [e5, Nat.zero_mul, Nat.add_zero] at e3
  rw [e3, qf, qf, e4, Nat.add_mul_div_left _ _ hw, Nat.add_mul, Nat.pow_succ]
  have : hgh a (i + 1) / w * (4294967296 ^ i * 4294967296) = hgh a (i + 1) / w * 4294967296 * 4294967296 ^ i := by ac_rfl
  omega
theorem qf_top {a w j : Nat} (ha : a < 4294967296 ^ j) : qf a w j = 0 := by rw [qf, hi_none ha (Nat.le_refl _)]; simp
end Go.Proofs.YthpkhmbjmnhmoaaDoor
/- Sums, differences, products of the reference's natural numbers. No condition. -/
namespace Go.Proofs.YthpkhmbjmnhmoaaDoor
set_option linter.unusedVariables false
set_option linter.unusedSimpArgs false
variable {G : Gl}
set_option maxHeartbeats 2000000
theorem ws_dg {x : List Nat} (hw : Ws x) : val x < 4294967296 ^ (2 * x.length) := by rw [← HB]; exact val_lt hw
theorem sum_lt {a b j k : Nat} (ha : a < 4294967296 ^ j) (hb : b < 4294967296 ^ k) : a + b < 4294967296 ^ ((if j < k then k else j) + 1) := by
  have h1 : a < 4294967296 ^ (if j < k then k else j) := Nat.lt_of_lt_of_le ha (Nat.pow_le_pow_right (by decide) (by split <;> omega))
  have h2 : b < 4294967296 ^ (if j < k then k else j) := Nat.lt_of_lt_of_le hb (Nat.pow_le_pow_right (by decide) (by split <;> omega))
  rw [Nat.pow_succ]; omega
theorem mul_lt {a b j k : Nat} (ha : a < 4294967296 ^ j) (hb : b < 4294967296 ^ k) : a * b < 4294967296 ^ (j + k) := by
  rw [Nat.pow_add]; exact Nat.mul_lt_mul_of_lt_of_le ha (Nat.le_of_lt hb) (Hpos k)
end Go.Proofs.YthpkhmbjmnhmoaaDoor
/- The integers of the reference. No condition. -/
namespace Go.Proofs.YthpkhmbjmnhmoaaDoor
set_option linter.unusedVariables false
set_option linter.unusedSimpArgs false
variable {G : Gl}
set_option maxHeartbeats 2000000
set_option maxRecDepth 10000
/-- An integer's fields. -/
abbrev Ig (n : Bool) (m : List Nat) : PV := .a [.b n, .w false m]
/-- A canonical integer. -/
abbrev Iv (z : Int) : PV := Ig (decide (z < 0)) (nat z.natAbs)
/-- The value of a sign and a size. -/
def sgn (n : Bool) (v : Nat) : Int := if n then -(v : Int) else v
theorem sgn_abs (n : Bool) (v : Nat) : (sgn n v).natAbs = v := by unfold sgn; split <;> omega
theorem sgn_of (z : Int) : sgn (decide (z < 0)) z.natAbs = z := by unfold sgn; split <;> rename_i h <;> simp at h <;> omega
theorem nat_len_zero (v : Nat) : 0 < (nat v).length ↔ v ≠ 0 := by
  constructor
  · intro h h0; subst h0; rw [nat_zero] at h; simp at h
  · intro h
    apply Classical.byContradiction
    intro hn
    have : nat v = [] := List.length_eq_zero_iff.1 (by omega)
    have h2 := val_nat v
    rw [this] at h2
    simp [val] at h2
    omega
theorem PLe.ig {n : Bool} {c : Ce} {m : List Nat} (h : PLe (.c c) (.c (.w false m))) : PLe (.a [.b n, c]) (Ig n m) := by
  rintro E v ⟨vs, h1, h2⟩
  refine ⟨vs, h1, ?_⟩
  obtain ⟨v1, r1, e1, a1, h2⟩ := h2.cons_iff
  obtain ⟨v2, r2, e2, a2, h2⟩ := h2.cons_iff
  rw [e1, e2]
  exact .cons a1 (.cons (h _ _ a2) h2)
end Go.Proofs.YthpkhmbjmnhmoaaDoor
/- Sums and differences of the reference's integers. No condition. -/
namespace Go.Proofs.YthpkhmbjmnhmoaaDoor
set_option linter.unusedVariables false
set_option linter.unusedSimpArgs false
variable {G : Gl}
set_option maxHeartbeats 4000000
set_option maxRecDepth 10000
theorem bl_le_ws {m : List Nat} (wm : Ws m) : bl (val m) ≤ 64 * m.length := bl_le_len wm (Nat.le_refl _)
theorem nat_len_of {v k : Nat} (h : bl v ≤ k) : (nat v).length ≤ k := Nat.le_trans (nat_len_bl v) h
theorem cmpP_ge (a b : Nat) : (0 ≤ cmpP a b) = (b ≤ a) := by
  unfold cmpP
  apply propext
  split
  · constructor <;> intro <;> omega
  · split <;> constructor <;> intro <;> omega
end Go.Proofs.YthpkhmbjmnhmoaaDoor
/- The lowest bits of a number; a real number of the reference and its exponent. No condition. -/
namespace Go.Proofs.YthpkhmbjmnhmoaaDoor
set_option linter.unusedVariables false
set_option linter.unusedSimpArgs false
variable {G : Gl}
set_option maxHeartbeats 4000000
set_option maxRecDepth 10000
theorem PLe.agg {l l' : List Ce} (h : All2 (fun c d => PLe (.c c) (.c d)) l l') : PLe (.a l) (.a l') := by
  rintro E v ⟨vs, h1, h2⟩
  refine ⟨vs, h1, ?_⟩
  clear h1
  generalize vs.toList = ws at *
  induction h generalizing ws with
  | nil => exact h2
  | cons g _ ih =>
    obtain ⟨w, r, rfl, a, b⟩ := h2.cons_iff
    exact .cons (g _ _ a) (ih _ b)
/-- The i-th word of what s bits hold. -/
theorem low_word {n s i : Nat} (h : 64 * i < s) : n % 2 ^ s / 18446744073709551616 ^ i % 18446744073709551616 = if s - 64 * i < 64 then n / 18446744073709551616 ^ i % 18446744073709551616 % 2 ^ (s - 64 * i) else n / 18446744073709551616 ^ i % 18446744073709551616 := by
  obtain ⟨q, rfl⟩ : ∃ q, s = 64 * i + q := ⟨s - 64 * i, by omega⟩
  rw [B64_pow, Nat.pow_add, Nat.mod_mul_right_div_self, show 64 * i + q - 64 * i = q by omega]
  generalize n / 2 ^ (64 * i) = m
  split
  · rename_i hq
    have e : (18446744073709551616 : Nat) = 2 ^ q * 2 ^ (64 - q) := by rw [← Nat.pow_add, show q + (64 - q) = 64 by omega]
    have l1 : m % 2 ^ q < 18446744073709551616 := by
      have := Nat.mod_lt m (Nat.pow_pos (n := q) (show 0 < 2 by decide))
      have : 2 ^ q < 2 ^ 64 := Nat.pow_lt_pow_right (by decide) hq
      omega
    rw [Nat.mod_eq_of_lt l1, e, Nat.mod_mul_right_mod]
  · rename_i hq
    obtain ⟨t, rfl⟩ : ∃ t, q = 64 + t := ⟨q - 64, by omega⟩
    rw [Nat.pow_add, show (2 : Nat) ^ 64 = 18446744073709551616 from rfl, Nat.mod_mul_right_mod]
end Go.Proofs.YthpkhmbjmnhmoaaDoor
/- A real number of the reference: an integer times a power of 2; its exponent. No condition. -/
namespace Go.Proofs.YthpkhmbjmnhmoaaDoor
set_option linter.unusedVariables false
set_option linter.unusedSimpArgs false
variable {G : Gl}
set_option maxHeartbeats 4000000
set_option maxRecDepth 10000
/-- The real number v 2^e with a sign. -/
abbrev Rl (n : Bool) (v : Nat) (e : Int) : PV := .a [.b n, .w false (nat v), .w false (nat 1), .i .i64 e, .i .i64 1]
end Go.Proofs.YthpkhmbjmnhmoaaDoor
/- A real number in steps; a part rounded. No condition. -/
namespace Go.Proofs.YthpkhmbjmnhmoaaDoor
set_option linter.unusedVariables false
set_option linter.unusedSimpArgs false
variable {G : Gl}
set_option maxHeartbeats 4000000
set_option maxRecDepth 10000
/-- A part: an integer, a half, a rest. -/
abbrev Pt (N : Nat) (h r : Bool) : PV := .a [.w false (nat N), .b h, .b r]
theorem pt_le {N : Nat} {h r : Bool} {c : Ce} (hc : PLe (.c c) (.c (.w false (nat N)))) : TLe (tvOf [.a [c, .b h, .b r]]) (.v (Pt N h r)) :=
  TLe.v (PLe.agg (.cons hc (.cons (PLe.refl _) (.cons (PLe.refl _) .nil))))
end Go.Proofs.YthpkhmbjmnhmoaaDoor
/- A part rounded; the greatest float; what is beyond it. No condition. -/
namespace Go.Proofs.YthpkhmbjmnhmoaaDoor
set_option linter.unusedVariables false
set_option linter.unusedSimpArgs false
variable {G : Gl}
set_option maxHeartbeats 4000000
set_option maxRecDepth 10000
/-- What lies beyond the integer: 0 nothing, 1 less than a half, 2 a half, 3 more. -/
def pcode (h s : Bool) : Int := if h then (if s then 3 else 2) else (if s then 1 else 0)
theorem ret_wb {c : Ce} {M N : Nat} {b b' : Bool} (h : PLe (.c c) (.c (.w false (nat M)))) (h1 : M = N) (h2 : b = b') : TLe (tvOf [.c c, .c (.b b)]) (.t [Wd (nat N), .c (.b b')]) := by
  subst h1; subst h2
  exact TLe.t (.cons h (.cons (PLe.refl _) .nil))
end Go.Proofs.YthpkhmbjmnhmoaaDoor
/- The greatest float, what is beyond it. No condition. -/
namespace Go.Proofs.YthpkhmbjmnhmoaaDoor
set_option linter.unusedVariables false
set_option linter.unusedSimpArgs false
variable {G : Gl}
set_option maxHeartbeats 4000000
set_option maxRecDepth 10000
/-- A float whose words are its own. -/
abbrev Flt.pw (x : Flt) : PV := .a [.i .i64 x.k, .b x.n, .i .i64 x.e, .w true (nat x.v)]
theorem PLe.flw {k : Int} {n : Bool} {e : Int} {c : Ce} {m : List Nat} (h : PLe (.c c) (.c (.w true m))) : PLe (.a [.i .i64 k, .b n, .i .i64 e, c]) (.a [.i .i64 k, .b n, .i .i64 e, .w true m]) :=
  PLe.agg (.cons (PLe.refl _) (.cons (PLe.refl _) (.cons (PLe.refl _) (.cons h .nil))))
theorem Flt.pw_le (x : Flt) : PLe x.pw x.pv := PLe.flt (PLe.ext (.c (.w true _)))
theorem ret_zw {n : Nat} (h : n = 0) : PLe (.c .z) (.c (.w true (nat n))) := by subst h; rw [nat_zero]; exact PLe.z true
theorem ret_w1 {k : Int} {n : Bool} {e : Int} {c : Ce} {x : Flt} (h : PLe (.c c) (.c (.w true (nat x.v)))) (h1 : (k, n, e) = (x.k, x.n, x.e)) : TLe (tvOf [.a [.i .i64 k, .b n, .i .i64 e, c]]) (.v x.pw) := by
  simp only [Prod.mk.injEq] at h1
  obtain ⟨rfl, rfl, rfl⟩ := h1
  exact TLe.v (PLe.flw h)
theorem Does.mono {P : Program} {G : Gl} {f : FuncId} {args : List PV} {ret ret' : TV} (h : Does P G f args ret) (hle : TLe ret ret') : Does P G f args ret' := by
  intro W ok vals hok hgl hargs
  rcases h W ok vals hok hgl hargs with ⟨h1, h2⟩ | ⟨v, h1, h2⟩
  · exact .inl ⟨h1, h2.mono fun e W' ⟨v, q1, q2, q3⟩ => ⟨v, q1, q2, hle _ _ q3⟩⟩
  · exact .inr ⟨v, h1, hle _ _ h2⟩
theorem Canonical_new {k e : Int} {n : Bool} {m : List Nat} (hm : m.length ≤ 1073741824) (wm : Ws m) (he : Md e) : Does Tryd.prog G 87 [Fl k n e m] (.v (rcanon ⟨k, n, e, val m⟩).pw) := by
  have ho : Does Tryd.prog G 68 [Fl k n e m] (.t [Wn (nat (val m / 2 ^ tz (val m))), .c (.i .i64 (e + tz (val m)))]) := odd_does hm wm he
  refine Does.of (nt := 23) Tryd.func87 rfl rfl rfl (by simp) ?_
  simp only [argTm, PV.ext, Ce.ext]
  refine Do.seqk fun _ k1_ => ?_
  refine Do.region [1,2] true ?_
  simp [go_sem]
  apply k1_; clear k1_
  refine Do.seqk fun _ k2_ => ?_
  refine Do.seqk fun _ k3_ => ?_
  refine Do.region [1,2,7] true ?_
  simp [go_sem]
  repeat (refine And.intro (by first | omega | (intros; omega) | (intros; exact And.intro (by assumption) (by omega)) | grind) ?_)
  apply k3_; clear k3_
  refine Do.cond [1,2] rfl (fun h => ?_) (fun h => ?_) <;> simp [go_sem] at h ⊢
  · refine Do.seqk fun _ k4_ => ?_
    refine Do.region [2] true ?_
    simp [go_sem]
    repeat (refine And.intro (by first | omega | (intros; omega) | (intros; exact And.intro (by assumption) (by omega)) | grind) ?_)
    apply k4_; clear k4_
    refine Do.ret ?_
    simp [endQ, rets, ret1, go_sem]
    repeat (refine And.intro (by first | omega | (intros; omega) | (intros; exact And.intro (by assumption) (by omega)) | grind) ?_)
    rw [rcanon, if_neg h]
    exact ret_w1 (ret_zw rfl) rfl
  · refine Do.skip ?_
    simp [go_sem]
    apply k2_; clear k2_
    refine Do.seqk fun _ k5_ => ?_
    refine Do.region [1,2,3,4] true ?_
    simp [go_sem]
    repeat (refine And.intro (by first | omega | (intros; omega) | (intros; exact And.intro (by assumption) (by omega)) | grind) ?_)
    refine DoL.call true 302 rfl rfl rfl rfl (by first | exact trivial | omega | (simp; done) | (simp; omega)) (ho) rfl (by first | exact .inl rfl | exact .inr rfl) rfl ?_
    simp [go_sem]
    apply k5_; clear k5_
    refine Do.seqk fun _ k6_ => ?_
    refine Do.region [2] true ?_
    simp [go_sem]
    repeat (refine And.intro (by first | omega | (intros; omega) | (intros; exact And.intro (by assumption) (by omega)) | grind) ?_)
    apply k6_; clear k6_
    refine Do.ret ?_
    simp [endQ, rets, ret1, go_sem]
    repeat (refine And.intro (by first | omega | (intros; omega) | (intros; exact And.intro (by assumption) (by omega)) | grind) ?_)
    rw [rcanon, if_pos h]
    exact TLe.refl _
/-- What is beyond the greatest float. -/
def beyP (f p r : Int) (n : Bool) : Flt := if grP r n then ⟨1, n, gOfE f - p + 1, 2 ^ p.toNat - 1⟩ else ⟨2, n, 0, 0⟩
end Go.Proofs.YthpkhmbjmnhmoaaDoor
/- The reference's rounding is the program's. No condition. -/
namespace Go.Proofs.YthpkhmbjmnhmoaaDoor
set_option linter.unusedVariables false
set_option linter.unusedSimpArgs false
variable {G : Gl}
set_option maxHeartbeats 4000000
set_option maxRecDepth 10000
theorem bl_div (v k : Nat) : bl (v / 2 ^ k) = bl v - k := by
  have h : ∀ j, j < bl (v / 2 ^ k) ↔ j + k < bl v := fun j => by
    rw [bl_le, bl_le, Nat.le_div_iff_mul_le (Nat.pow_pos (by decide)), ← Nat.pow_add]
  apply Nat.le_antisymm
  · apply Nat.le_of_not_lt
    intro hl
    have := (h (bl v - k)).1 hl
    omega
  · apply Nat.le_of_not_lt
    intro hl
    have := (h (bl (v / 2 ^ k))).2 (by omega)
    omega
theorem cutP_len {v : Nat} (hv : 0 < v) {s : Int} (h : s ≤ bl v) {st : Bool} : (bl (cutP v s st).1 : Int) = bl v - s := by
  unfold cutP
  split
  · simp only []
    rw [bl_mul_pow _ _ hv]; omega
  · simp only []
    rw [bl_div]; omega
theorem upP_ge (r : Int) (n : Bool) (q : Nat) (x : Int) : q ≤ upP r n q x := by unfold upP; split <;> omega
theorem roundP_len {f p r : Int} (hf : fmOk f p = true) {n : Bool} {v : Nat} {e : Int} (hv : 0 < v) (h : 1 - gOfE f ≤ e + bl v - 1) : p ≤ bl (upP r n (cutP v (stepP f p (e + bl v - 1) - e) false).1 (cutP v (stepP f p (e + bl v - 1) - e) false).2) := by
  obtain ⟨b1, b2, b3, b4⟩ := fmOk_spec hf
  have hu : stepP f p (e + bl v - 1) = e + bl v - 1 - p + 1 := by unfold stepP; rw [if_neg (by omega)]
  have h1 := @cutP_len v hv (stepP f p (e + bl v - 1) - e) (by omega) false
  have h2 := bl_mono (upP_ge r n (cutP v (stepP f p (e + bl v - 1) - e) false).1 (cutP v (stepP f p (e + bl v - 1) - e) false).2)
  omega
/-- Too great at once. -/
theorem roundP_over {f p r : Int} (hf : fmOk f p = true) {n : Bool} {v : Nat} {e : Int} (hv : 0 < v) (h : gOfE f < e + bl v - 1) : roundP f p r n v e false = (beyP f p r n, 5) := by
  obtain ⟨b1, b2, b3, b4⟩ := fmOk_spec hf
  obtain ⟨b5, b6⟩ := gOfE_le b1 b2
  have h1 := @roundP_len f p r hf n v e hv (by omega)
  have hu : stepP f p (e + bl v - 1) = e + bl v - 1 - p + 1 := by unfold stepP; rw [if_neg (by omega)]
  unfold roundP beyP
  simp only []
  rw [if_pos (by omega)]
theorem cutP_zero {v : Nat} {s : Int} (hv : 0 < v) (h : (cutP v s false).1 = 0) : (cutP v s false).2 ≠ 0 := by
  unfold cutP at h ⊢
  split at h
  · simp only [] at h
    have := Nat.pow_pos (n := (-s).toNat) (show 0 < 2 by decide)
    have := Nat.mul_pos hv this
    omega
  · rename_i hs
    rw [if_neg hs]
    simp only [] at h ⊢
    have e1 : s.toNat = (s - 1).toNat + 1 := by omega
    rw [e1, Nat.pow_succ] at h
    have hlt : v < 2 ^ (s - 1).toNat * 2 := by
      rcases Nat.div_eq_zero_iff.1 h with h | h
      · have := Nat.pow_pos (n := (s - 1).toNat) (show 0 < 2 by decide); omega
      · exact h
    split
    · split <;> decide
    · rename_i h2
      have h3 : v / 2 ^ (s - 1).toNat < 2 := by
        rw [Nat.div_lt_iff_lt_mul (Nat.pow_pos (by decide)), Nat.mul_comm]; exact hlt
      have h4 : v / 2 ^ (s - 1).toNat = 0 := by
        generalize v / 2 ^ (s - 1).toNat = w at h2 h3 ⊢
        omega
      have h5 : v < 2 ^ (s - 1).toNat := by
        rcases Nat.div_eq_zero_iff.1 h4 with h | h
        · have := Nat.pow_pos (n := (s - 1).toNat) (show 0 < 2 by decide); omega
        · exact h
      rw [Nat.mod_eq_of_lt h5]
      simp; omega
end Go.Proofs.YthpkhmbjmnhmoaaDoor
/- Canonical floats, counted. No condition. -/
namespace Go.Proofs.YthpkhmbjmnhmoaaDoor
set_option linter.unusedVariables false
set_option linter.unusedSimpArgs false
variable {G : Gl}
set_option maxHeartbeats 4000000
set_option maxRecDepth 10000
/-- How many floats are of a kind and a sign. -/
def cnt (k : Int) (n : Bool) : List Flt → Nat
  | [] => 0
  | x :: l => (if x.k = k ∧ x.n = n then 1 else 0) + cnt k n l
theorem cnt_append (k : Int) (n : Bool) (l m : List Flt) : cnt k n (l ++ m) = cnt k n l + cnt k n m := by
  induction l with
  | nil => simp [cnt]
  | cons x l ih => simp only [List.cons_append, cnt, ih]; omega
theorem cnt_take {k : Int} {n : Bool} {l : List Flt} {i : Nat} {x : Flt} (h : l[i]? = some x) : cnt k n (l.take (i + 1)) = cnt k n (l.take i) + if x.k = k ∧ x.n = n then 1 else 0 := by
  rw [List.take_add_one, h, cnt_append]; simp [cnt]
theorem cnt_le (k : Int) (n : Bool) (l : List Flt) : cnt k n l ≤ l.length := by
  induction l with
  | nil => simp [cnt]
  | cons x l ih => simp only [cnt, List.length_cons]; split <;> omega
end Go.Proofs.YthpkhmbjmnhmoaaDoor
/- The exact sum of floats. No condition. -/
namespace Go.Proofs.YthpkhmbjmnhmoaaDoor
set_option linter.unusedVariables false
set_option linter.unusedSimpArgs false
variable {G : Gl}
set_option maxHeartbeats 4000000
set_option maxRecDepth 10000
/-- The least exponent so far, and whether there is one. -/
def lowStep (a : Int × Bool) (x : Flt) : Int × Bool := if x.k = 1 ∧ (a.2 = false ∨ x.e < a.1) then (x.e, true) else a
def lows (l : List Flt) : Int × Bool := l.foldl lowStep (0, false)
theorem lows_take {l : List Flt} {i : Nat} {x : Flt} (h : l[i]? = some x) : lows (l.take (i + 1)) = lowStep (lows (l.take i)) x := by
  unfold lows
  rw [List.take_add_one, h]; simp
theorem lows_le {l : List Flt} (i : Nat) : (∀ x ∈ l.take i, x.k = 1 → (lows (l.take i)).2 = true ∧ (lows (l.take i)).1 ≤ x.e) := by
  induction i with
  | zero => simp
  | succ i ih =>
    cases hx : l[i]? with
    | none =>
      have hl : l.length ≤ i := List.getElem?_eq_none_iff.1 hx
      rw [List.take_of_length_le (by omega)] at ih ⊢
      exact ih
    | some x =>
      rw [lows_take hx]
      intro y hy hk
      rw [List.take_add_one, hx] at hy
      simp only [Option.toList_some, List.mem_append, List.mem_singleton] at hy
      generalize lows (l.take i) = a at *
      unfold lowStep
      split
      · rename_i hc
        rcases hy with hy | rfl
        · have := ih y hy hk
          refine ⟨rfl, ?_⟩
          simp only []
          rcases hc.2 with h | h
          · rw [this.1] at h; cases h
          · omega
        · exact ⟨rfl, Int.le_refl _⟩
      · rename_i hc
        rcases hy with hy | rfl
        · exact ih y hy hk
        · by_cases h2 : a.2 = false
          · exact absurd ⟨hk, .inl h2⟩ hc
          · refine ⟨by simpa using h2, ?_⟩
            apply Classical.byContradiction
            intro h3
            exact hc ⟨hk, .inr (by omega)⟩
theorem lows_in {l : List Flt} {B : Int} (hB : 0 ≤ B) (h : ∀ x ∈ l, x.k = 1 → -B ≤ x.e ∧ x.e ≤ B) (i : Nat) : -B ≤ (lows (l.take i)).1 ∧ (lows (l.take i)).1 ≤ B := by
  induction i with
  | zero => simp [lows]; omega
  | succ i ih =>
    cases hx : l[i]? with
    | none =>
      have hl : l.length ≤ i := List.getElem?_eq_none_iff.1 hx
      rw [List.take_of_length_le (by omega)] at ih ⊢
      exact ih
    | some x =>
      rw [lows_take hx]
      have := h x (List.mem_of_getElem? hx)
      generalize lows (l.take i) = a at *
      unfold lowStep
      split
      · rename_i hc; exact this hc.1
      · exact ih
theorem svs_bound {z : Int} {M : Nat} : ∀ {l : List Flt}, (∀ x ∈ l, x.k = 1 → x.v * 2 ^ (x.e - z).toNat ≤ M) → (svs z l).natAbs ≤ l.length * M
  | [], _ => by simp [svs]
  | x :: l, h => by
    have ih := svs_bound (l := l) fun y hy => h y (List.mem_cons_of_mem _ hy)
    have hx := h x (by simp)
    simp only [svs, List.length_cons, Nat.add_mul, Nat.one_mul]
    split
    · rename_i hk
      have := hx hk
      unfold Nu.sv
      simp only []
      generalize x.v * 2 ^ (x.e - z).toNat = w at *
      generalize l.length * M = y at *
      split <;> omega
    · generalize l.length * M = y at *
      omega
theorem svs_take {z : Int} {l : List Flt} {i : Nat} {x : Flt} (h : l[i]? = some x) : svs z (l.take (i + 1)) = svs z (l.take i) + if x.k = 1 then (⟨x.n, x.v, x.e⟩ : Nu).sv z else 0 := by
  rw [List.take_add_one, h, svs_append]; simp [svs]
theorem len_bl {v k : Nat} (h : bl v ≤ k) : (nat v).length ≤ (k + 63) / 64 := by rw [natlen]; omega
/-- Bounds under which exact sums stay small. -/
def Tame (l : List Flt) : Prop := l.length < 1099511627776 ∧ ∀ x ∈ l, (x.k = 1 → -1048576 ≤ x.e ∧ x.e ≤ 1048576 ∧ bl x.v ≤ 1048576)
theorem Tame.term {l : List Flt} (h : Tame l) {z : Int} (hz : -1048576 ≤ z) {x : Flt} (hx : x ∈ l) (hk : x.k = 1) (hze : z ≤ x.e) : bl (x.v * 2 ^ (x.e - z).toNat) ≤ 3145728 := by
  obtain ⟨h1, h2, h3⟩ := h.2 x hx hk
  by_cases h0 : x.v = 0
  · rw [h0]; simp [bl_zero]
  · rw [bl_mul_pow _ _ (by omega)]; omega
theorem Tame.sum {l : List Flt} (h : Tame l) {z : Int} (hz : -1048576 ≤ z) (hl : ∀ x ∈ l, x.k = 1 → z ≤ x.e) (i : Nat) : bl (svs z (l.take i)).natAbs ≤ 3145768 := by
  obtain ⟨K, hK⟩ : ∃ K, K = 3145728 := ⟨_, rfl⟩
  have hb := @svs_bound z (2 ^ K) (l.take i) fun x hx hk => Nat.le_of_lt ((bl_lt _ _).1 (by rw [hK]; exact h.term hz (List.mem_of_mem_take hx) hk (hl x (List.mem_of_mem_take hx) hk)))
  have h1 : (l.take i).length < 2 ^ 40 := Nat.lt_of_le_of_lt (List.length_take_le' i l) h.1
  have h2 : bl (svs z (l.take i)).natAbs ≤ 40 + K := by
    rw [bl_lt]
    refine Nat.lt_of_le_of_lt hb ?_
    rw [Nat.pow_add]
    exact Nat.mul_lt_mul_of_pos_right h1 (Nat.pow_pos (by decide))
  omega
end Go.Proofs.YthpkhmbjmnhmoaaDoor
/- The reference's sum is the program's. No condition. -/
namespace Go.Proofs.YthpkhmbjmnhmoaaDoor
set_option linter.unusedVariables false
set_option linter.unusedSimpArgs false
variable {G : Gl}
set_option maxHeartbeats 4000000
set_option maxRecDepth 10000
theorem cnt_pos (k : Int) (n : Bool) (l : List Flt) : (0 < cnt k n l) = (l.any (fun x => x.k == k && x.n == n) = true) := by
  induction l with
  | nil => simp [cnt]
  | cons x l ih =>
    simp only [cnt, List.any_cons, Bool.or_eq_true, ← ih]
    by_cases h : x.k = k ∧ x.n = n
    · simp [h]; omega
    · rw [if_neg h]
      have : (x.k == k && x.n == n) = false := by simpa using h
      simp [this]
theorem cnt_all (k : Int) (n : Bool) (l : List Flt) : (cnt k n l = l.length) = (l.all (fun x => x.k == k && x.n == n) = true) := by
  apply propext
  induction l with
  | nil => simp [cnt]
  | cons x l ih =>
    have hle := cnt_le k n l
    rw [List.all_cons, Bool.and_eq_true, ← ih, cnt, List.length_cons]
    by_cases h : x.k = k ∧ x.n = n
    · rw [if_pos h]
      have : (x.k == k && x.n == n) = true := by simpa using h
      exact ⟨fun g => ⟨this, by omega⟩, fun g => by omega⟩
    · rw [if_neg h]
      have : ¬ (x.k == k && x.n == n) = true := by simpa using h
      exact ⟨fun g => by omega, fun g => absurd g.1 this⟩
theorem svs_low {z z' : Int} (hz : z' ≤ z) : ∀ {l : List Flt}, (∀ x ∈ l, x.k = 1 → z ≤ x.e) → svs z' l = svs z l * 2 ^ (z - z').toNat
  | [], _ => by simp [svs]
  | x :: l, h => by
    have ih := svs_low hz (l := l) fun y hy => h y (List.mem_cons_of_mem _ hy)
    have hx := h x (by simp)
    simp only [svs, ih, Int.add_mul]
    congr 1
    split
    · rename_i hk
      unfold Nu.sv
      simp only []
      rw [pow_split hz (hx hk), ← Nat.mul_assoc]
      generalize x.v * 2 ^ (x.e - z).toNat = w
      split <;> simp [Int.natCast_mul, Int.neg_mul, Int.natCast_pow]
    · simp
/-- Kinds as they are; no NaN with a sign. -/
def Kinds (L : List Flt) : Prop := ∀ x ∈ L, (x.k = 0 ∨ x.k = 1 ∨ x.k = 2 ∨ x.k = 3) ∧ (x.k = 3 → x.n = false)
/-- The sum by its parts. -/
theorem float_parts {f p r : Int} {L : List Flt} (ht : Tame L) (hk : Kinds L) : (gatherP L).float f p r =
    if 0 < cnt 3 false L then (⟨3, false, 0, 0⟩, 0)
    else if 0 < cnt 2 true L ∧ 0 < cnt 2 false L then (⟨3, false, 0, 0⟩, 16)
    else if 0 < cnt 2 true L ∨ 0 < cnt 2 false L then (⟨2, decide (0 < cnt 2 true L), 0, 0⟩, 0)
    else if svs (lows L).1 L ≠ 0 then roundP f p r (decide (svs (lows L).1 L < 0)) (svs (lows L).1 L).natAbs (lows L).1 false
    else if 0 < cnt 0 true L ∧ cnt 0 true L = L.length then (⟨0, true, 0, 0⟩, 0) else if cnt 0 false L = L.length then (⟨0, false, 0, 0⟩, 0) else (⟨0, r == 4, 0, 0⟩, 0) := by
  have hlow := @lows_le L L.length
  rw [List.take_length] at hlow
  obtain ⟨z, hz⟩ : ∃ z : Int, z = if (lows L).1 < 0 then (lows L).1 else 0 := ⟨_, rfl⟩
  have hz0 : z ≤ 0 := by split at hz <;> omega
  have hz1 : z ≤ (lows L).1 := by split at hz <;> omega
  have hG := gather_is (z := z) hz0 (l := L) fun x hx hk => by have := (hlow x hx hk).2; omega
  have hsv := svs_low hz1 (l := L) fun x hx hk => (hlow x hx hk).2
  have e3 : (gatherP L).nan = decide (0 < cnt 3 false L) := by
    rw [hG.nan, Bool.eq_iff_iff, decide_eq_true_eq, cnt_pos, List.any_eq_true, List.any_eq_true]
    constructor
    · rintro ⟨x, hx, h⟩
      have h3 : x.k = 3 := by simpa using h
      exact ⟨x, hx, by simp [h3, (hk x hx).2 h3]⟩
    · rintro ⟨x, hx, h⟩
      simp at h
      exact ⟨x, hx, by simp [h.1]⟩
  have ep : (gatherP L).plus = decide (0 < cnt 2 false L) := by
    rw [hG.plus, Bool.eq_iff_iff, decide_eq_true_eq, cnt_pos]; simp
  have em : (gatherP L).minus = decide (0 < cnt 2 true L) := by
    rw [hG.minus, Bool.eq_iff_iff, decide_eq_true_eq, cnt_pos]; simp
  unfold Ga.float
  rw [e3, hG.inv, ep, em]
  by_cases c3 : 0 < cnt 3 false L
  · simp [c3]
  · by_cases cp : 0 < cnt 2 false L
    · by_cases cm : 0 < cnt 2 true L <;> simp [c3, cp, cm]
    · by_cases cm : 0 < cnt 2 true L
      · simp [c3, cp, cm]
      · simp only [c3, cp, cm, decide_false, Bool.false_and, Bool.or_self, Bool.false_or, if_false, Bool.false_eq_true, and_self, or_self, false_and]
        have hb : (gatherP L).sum.sv z = Nu.sv z ⟨decide (svs (lows L).1 L < 0), (svs (lows L).1 L).natAbs, (lows L).1⟩ := by
          rw [hG.sum, hsv]
          unfold Nu.sv
          simp only []
          generalize svs (lows L).1 L = S
          generalize ((lows L).1 - z).toNat = d
          by_cases hS : S < 0
          · rw [if_pos (by simpa using hS), Int.natCast_mul, ← Int.neg_mul, show -((S.natAbs : Nat) : Int) = S by omega, Int.natCast_pow]; rfl
          · rw [if_neg (by simpa using hS), Int.natCast_mul, show ((S.natAbs : Nat) : Int) = S by omega, Int.natCast_pow]; rfl
        rw [Nu.round_sv hG.low hz1 hb]
        unfold Nu.round
        simp only []
        by_cases hS : svs (lows L).1 L = 0
        · rw [if_pos (by omega), if_neg (by simp [hS])]
          rw [hG.seen, hG.some_, hG.other]
          have n2 : ∀ x ∈ L, x.k = 0 ∨ x.k = 1 := fun x hx => by
            rcases (hk x hx).1 with h | h | h | h
            · exact .inl h
            · exact .inr h
            · exfalso
              cases hn : x.n
              · exact cp (by rw [cnt_pos, List.any_eq_true]; exact ⟨x, hx, by simp [h, hn]⟩)
              · exact cm (by rw [cnt_pos, List.any_eq_true]; exact ⟨x, hx, by simp [h, hn]⟩)
            · exfalso
              exact c3 (by rw [cnt_pos, List.any_eq_true]; exact ⟨x, hx, by simp [h, (hk x hx).2 h]⟩)
          clear hk hG hb hsv hlow e3 ep em
          cases L with
          | nil => simp [cnt]
          | cons y l =>
            by_cases h1 : cnt 0 true (y :: l) = (y :: l).length
            · rw [if_pos ⟨by rw [h1]; simp, h1⟩]
              rw [cnt_all, List.all_eq_true] at h1
              have e1 : ((y :: l).any fun x => x.k == 1 || x.k != 2 && x.k != 3 && !x.n) = false := by
                rw [List.any_eq_false]; intro x hx; have := h1 x hx; simp at this; simp [this.1, this.2]
              have e2 : ((y :: l).any fun x => x.k == 1 || x.k != 2 && x.k != 3 && x.n) = true := by
                rw [List.any_eq_true]; have := h1 y (by simp); simp at this; exact ⟨y, by simp, by simp [this.1, this.2]⟩
              rw [e1, e2]; simp
            · rw [if_neg (fun h => h1 h.2)]
              by_cases h2 : cnt 0 false (y :: l) = (y :: l).length
              · rw [if_pos h2]
                rw [cnt_all, List.all_eq_true] at h2
                have e2 : ((y :: l).any fun x => x.k == 1 || x.k != 2 && x.k != 3 && x.n) = false := by
                  rw [List.any_eq_false]; intro x hx; have := h2 x hx; simp at this; simp [this.1, this.2]
                rw [e2]; simp
              · rw [if_neg h2]
                rw [cnt_all, List.all_eq_true] at h1 h2
                have e1 : ((y :: l).any fun x => x.k == 1 || x.k != 2 && x.k != 3 && !x.n) = true := by
                  apply Classical.byContradiction
                  intro hn
                  refine h1 fun x hx => ?_
                  rw [Bool.not_eq_true, List.any_eq_false] at hn
                  have := hn x hx
                  rcases n2 x hx with h | h <;> simp [h] at this ⊢
                  exact this
                have e2 : ((y :: l).any fun x => x.k == 1 || x.k != 2 && x.k != 3 && x.n) = true := by
                  apply Classical.byContradiction
                  intro hn
                  refine h2 fun x hx => ?_
                  rw [Bool.not_eq_true, List.any_eq_false] at hn
                  have := hn x hx
                  rcases n2 x hx with h | h <;> simp [h] at this ⊢
                  exact this
                rw [e1, e2]; simp
        · rw [if_neg (by omega), if_pos hS]
end Go.Proofs.YthpkhmbjmnhmoaaDoor
/- The reference's Total. No condition. -/
namespace Go.Proofs.YthpkhmbjmnhmoaaDoor
set_option linter.unusedVariables false
set_option linter.unusedSimpArgs false
variable {G : Gl}
set_option maxHeartbeats 4000000
set_option maxRecDepth 10000
end Go.Proofs.YthpkhmbjmnhmoaaDoor
/- What the laws of sums compare. No condition. -/
namespace Go.Proofs.YthpkhmbjmnhmoaaDoor
set_option linter.unusedVariables false
set_option linter.unusedSimpArgs false
variable {G : Gl}
set_option maxHeartbeats 4000000
set_option maxRecDepth 10000
/-- Arguments that say more. -/
theorem Does.weak {P : Program} {G : Gl} {f : FuncId} {args args' : List PV} {ret : TV} (h : Does P G f args ret) (hle : All2 PLe args' args) : Does P G f args' ret := by
  intro W ok vals hok hgl hargs
  refine h W ok vals hok hgl ?_
  clear h
  induction hle generalizing vals with
  | nil => exact hargs
  | cons h _ ih =>
    obtain ⟨v, vs, rfl, g1, g2⟩ := hargs.cons_iff
    exact .cons (h _ _ g1) (ih vs g2)
theorem Fits_none {k e : Int} {n : Bool} {m : List Nat} {fl w : Int} (hk : k = 0 ∧ n = false ∧ e = 0 ∧ m = []) (hw : w ≠ 0) (er : Int) : Does Tryd.prog Gv 18 [Fl k n e m, .c (.i .i64 0), .c (.i .i64 er), .a [.i .i64 0, .b false, .i .i64 0, .z], .c (.i .i64 fl), .c (.i .i64 w)] (.v (.c (.b (er == w)))) := by
  obtain ⟨rfl, rfl, rfl, rfl⟩ := hk
  have h := @Fits_does Gv ⟨0, false, 0, []⟩ ⟨0, false, 0, []⟩ 0 er fl w (by simp) (by simp [Ws]) (by simp) (by simp [Ws]) (by constructor <;> simp)
  rw [show fitsP ⟨0, false, 0, []⟩ 0 er ⟨0, false, 0, []⟩ fl w = (er == w) by simp [fitsP, hw]] at h
  exact h.weak (.cons (PLe.refl _) (.cons (PLe.refl _) (.cons (PLe.refl _) (.cons (PLe.flt (PLe.z false)) (.cons (PLe.refl _) (.cons (PLe.refl _) .nil))))))
theorem rcanon_idem (x : Flt) : rcanon (rcanon x) = rcanon x := by
  unfold rcanon
  by_cases h : x.k = 1
  · have : tz (x.v / 2 ^ tz x.v) = 0 := by
      by_cases h0 : x.v = 0
      · simp [h0, tz_zero]
      · exact tz_rest (by omega)
    simp [h, this]
  · simp [h]
theorem mkP_fix {n : Bool} {q : Nat} {u : Int} : rcanon (mkP n q u) = mkP n q u := by
  unfold mkP
  split
  · rfl
  · have h : rcanon ⟨1, n, u, q⟩ = ⟨1, n, u + tz q, q / 2 ^ tz q⟩ := by simp [rcanon]
    rw [← h]
    exact rcanon_idem _
theorem roundP_fix {f p r : Int} (hf : fmOk f p = true) {n : Bool} {v : Nat} {e : Int} {st : Bool} : rcanon (roundP f p r n v e st).1 = (roundP f p r n v e st).1 := by
  obtain ⟨b1, b2, b3, b4⟩ := fmOk_spec hf
  unfold roundP
  simp only []
  split
  · split
    · obtain ⟨m, hm⟩ : ∃ m, p.toNat = m + 1 := ⟨p.toNat - 1, by omega⟩
      have h2 : 2 ^ p.toNat = 2 * 2 ^ m := by rw [hm, Nat.pow_succ']
      have h3 : 0 < 2 ^ m := Nat.pow_pos (by decide)
      have h4 : tz (2 ^ p.toNat - 1) = 0 := tz_odd1 (by omega)
      simp [rcanon, h4]
    · rfl
  · exact mkP_fix
theorem float_fix {f p r : Int} (hf : fmOk f p = true) {g : Ga} : rcanon (g.float f p r).1 = (g.float f p r).1 := by
  unfold Ga.float
  split
  · rfl
  · split
    · rfl
    · split
      · rfl
      · unfold Nu.round
        split
        · rfl
        · exact roundP_fix hf
theorem totalP_fix {f p r : Int} {l : List Fla} : rcanon (totalP f p r l).1 = (totalP f p r l).1 := by
  unfold totalP
  split
  · rename_i h
    exact float_fix (argsE_zero h).2.2.2.2.1
  · rfl
abbrev Flt.fla (x : Flt) : Fla := ⟨x.k, x.n, x.e, nat x.v⟩
theorem Flt.fla_flt (x : Flt) : x.fla.flt = x := by simp [Fla.flt, val_nat]
/-- A result against the reference's. -/
theorem Fits_same {x : Flt} {k : Int} (hx : Fine x) (h : rcanon x = x) : Does Tryd.prog G 18 [x.pv, .c (.i .i64 k), .c (.i .i64 0), x.pv, .c (.i .i64 k), .c (.i .i64 0)] (.v (.c (.b true))) := by
  have hl : (nat x.v).length ≤ 1073741824 := by have := nat_len_bl x.v; have := hx.v; omega
  have := @Fits_does G x.fla x.fla k 0 k 0 hl (nat_ws _) hl (nat_ws _) (good_md hx.can)
  rw [show fitsP x.fla k 0 x.fla k 0 = true by rw [fitsP, if_pos rfl, Flt.fla_flt, h]; simp [isP]] at this
  exact this
theorem held_rcanon {f p : Int} {x : Flt} (h : (holdsP f p x).2 = true) : rcanon x = (holdsP f p x).1 ∧ (canon x).2 = true := by
  have hg : (canon x).2 = true := by
    have := @holds_good f p x
    rw [h, Bool.and_eq_true] at this
    exact this.1
  refine ⟨?_, hg⟩
  rw [rcanon_good hg]
  unfold holdsP
  split <;> rfl
/-- Floats of the reference: right ones. -/
structure Rt (x : Fla) : Prop where
  can : (canon x.flt).2 = true
  ws : Ws x.m
  len : x.m.length ≤ 4096
theorem Rt.md {x : Fla} (h : Rt x) : Md x.e := good_md h.can
theorem canon_one {x : Flt} (h : (canon x).2 = true) (hk : x.k = 1) : -1048576 ≤ x.e ∧ x.e + tz x.v ≤ 1048576 ∧ x.v ≠ 0 := by
  unfold canon at h
  rw [if_neg (by omega), if_neg (by omega), if_pos hk] at h
  split at h
  · cases h
  · simp at h; omega
theorem canon_kind {x : Flt} (h : (canon x).2 = true) : (x.k = 0 ∨ x.k = 1 ∨ x.k = 2 ∨ x.k = 3) ∧ (x.k = 3 → x.n = false) := by
  unfold canon at h
  split at h
  · omega
  · split at h
    · simp at h; exact ⟨by omega, fun _ => h.1.1⟩
    · split at h
      · omega
      · cases h
theorem rcanon_k (x : Flt) : (rcanon x).k = x.k := by unfold rcanon; split <;> simp_all
theorem rcanon_n (x : Flt) : (rcanon x).n = x.n := by unfold rcanon; split <;> rfl
theorem Rt.tame {l : List Fla} (hl : l.length < 1099511627776) (h : ∀ x ∈ l, Rt x) : Tame (l.map fun x => rcanon x.flt) ∧ Kinds (l.map fun x => rcanon x.flt) := by
  refine ⟨⟨by simpa using hl, fun y hy hk => ?_⟩, fun y hy => ?_⟩
  · obtain ⟨x, hx, rfl⟩ := List.mem_map.1 hy
    have hr := h x hx
    rw [rcanon_k] at hk
    have h1 := canon_one hr.can hk
    have hb := bl_le_len hr.ws (Nat.div_le_self (val x.m) (2 ^ tz (val x.m)))
    have hlen := hr.len
    have e1 : rcanon x.flt = ⟨1, x.n, x.e + tz (val x.m), val x.m / 2 ^ tz (val x.m)⟩ := by rw [rcanon, if_pos hk]; rfl
    rw [e1]
    have h1 : -1048576 ≤ x.e ∧ x.e + tz (val x.m) ≤ 1048576 ∧ val x.m ≠ 0 := h1
    exact ⟨by simp only []; omega, by simp only []; omega, by simp only []; omega⟩
  · obtain ⟨x, hx, rfl⟩ := List.mem_map.1 hy
    have hr := canon_kind (h x hx).can
    rw [rcanon_k, rcanon_n]
    exact hr
theorem held_map {f p : Int} {l : List Fla} (h : allHold f p l = true) : (l.map fun x => rcanon x.flt) = heldL f p l := by
  unfold heldL
  apply List.map_congr_left
  intro x hx
  exact (held_rcanon (by simpa using List.all_eq_true.1 h x hx)).1
theorem held_rt {f p : Int} {l : List Fla} (h : allHold f p l = true) (ho : ∀ x ∈ l, x.Ok) (hm : ∀ x ∈ l, x.m.length ≤ 4096) : ∀ x ∈ l, Rt x := fun x hx =>
  ⟨(held_rcanon (by simpa using List.all_eq_true.1 h x hx)).2, (ho x hx).ws, hm x hx⟩
end Go.Proofs.YthpkhmbjmnhmoaaDoor
/- The law SumTotals. No condition. -/
namespace Go.Proofs.YthpkhmbjmnhmoaaDoor
set_option linter.unusedVariables false
set_option linter.unusedSimpArgs false
set_option maxHeartbeats 4000000
set_option maxRecDepth 10000
end Go.Proofs.YthpkhmbjmnhmoaaDoor
/- The law SumAdds. No condition. -/
namespace Go.Proofs.YthpkhmbjmnhmoaaDoor
set_option linter.unusedVariables false
set_option linter.unusedSimpArgs false
set_option maxHeartbeats 4000000
set_option maxRecDepth 10000
theorem rcanon_neg (x : Flt) : rcanon x.neg = (rcanon x).neg := by
  unfold rcanon Flt.neg
  by_cases h : x.k = 1 <;> simp [h]
theorem canon_rneg {x : Flt} (h : (canon x).2 = true) : (canon (rcanon x).neg).2 = true := by
  have hk := (canon_kind h).1
  by_cases h1 : x.k = 1
  · have hb := canon_one h h1
    have e1 : (rcanon x).neg = ⟨1, !x.n, x.e + tz x.v, x.v / 2 ^ tz x.v⟩ := by simp [rcanon, Flt.neg, h1]
    have hd : x.v / 2 ^ tz x.v ≠ 0 := by
      obtain ⟨m, hm⟩ := tz_form (show 0 < x.v by omega)
      have : x.v / 2 ^ tz x.v = 2 * m + 1 := by
        conv => lhs; arg 1; rw [hm]
        exact Nat.mul_div_cancel_left _ (Nat.pow_pos (by decide))
      omega
    rw [e1]
    unfold canon
    simp only []
    rw [if_neg (by omega), if_neg (by omega), if_pos trivial, if_neg (by omega)]
    simp [tz_rest (show 0 < x.v by omega)]; omega
  · have e1 : (rcanon x).neg = ⟨x.k, x.k != 3 && !x.n, 0, 0⟩ := by simp [rcanon, Flt.neg, h1]
    rw [e1]
    unfold canon
    simp only []
    rcases hk with hk | hk | hk | hk
    · rw [if_pos (by omega)]; simp
    · exact absurd hk h1
    · rw [if_pos (by omega)]; simp
    · rw [if_neg (by omega), if_pos hk]; simp [hk]
theorem subP_fine {f p r : Int} {x y : Fla} : Fine (subP f p r x y).1 := by
  unfold subP
  split
  · rename_i h
    exact float_fine (argsE_zero h).2.2.2.2.1
  · exact fine_zero
theorem subP_fix {f p r : Int} {x y : Fla} : rcanon (subP f p r x y).1 = (subP f p r x y).1 := by
  unfold subP
  split
  · rename_i h
    exact float_fix (argsE_zero h).2.2.2.2.1
  · rfl
end Go.Proofs.YthpkhmbjmnhmoaaDoor
/- The package variables of the program, as they are laid, and what a law's arguments are. No condition. -/
namespace Go.Proofs.YthpkhmbjmnhmoaaDoor
set_option linter.unusedVariables false
set_option linter.unusedSimpArgs false
open Go.ChangeShapes Go.WideShapes Go.ChangeAt Go.RowKit
theorem own : ownKnob Tryd.prog.godebug = Option.none := by kernel_rfl
theorem laidOut : laidOutB Tryd.prog = true := by kernel_rfl
theorem g0_name : Tryd.prog.globalNamed "math/bits.deBruijn64tab" = some 1 := by kernel_rfl
theorem g1_name : Tryd.prog.globalNamed "reckoner/fin.more" = some 0 := by kernel_rfl
/-- What is listed. -/
abbrev laidL : List (String × DataW Unit) := [("math/bits.deBruijn64tab", Rows.laid_math_bits_deBruijn64tab), ("reckoner/fin.more", Rows.laid_reckoner_fin_more)]
section
variable {H : Type} {enc : TypeId × Value → H} {P : Program} {W : World} {base : Nat} {sp : Nat → Bool} {held : Bool}
theorem array_at {t e : TypeId} {n fuel : Nat} {cs : List Value} {ds : List (DataW H)} {p : List MemPlace} (ht : P.underlying t = some (.array n e)) (hc : P.cellsOf e = 1) (h : DataW.trod enc P W base sp held fuel t cs = some (.agg ds, p)) {i : Nat} {d : DataW H} (hd : ds[i]? = some d) : ∃ v m q, cs[i]? = some v ∧ DataW.trod enc P W base sp held m e [v] = some (d, q) := by
  obtain ⟨xs, m, rfl, hx, hl, hn, hel⟩ := DataW.trod_array ht h
  simp only [Prod.mk.injEq, DataW.agg.injEq] at hx
  obtain ⟨rfl, _⟩ := hx
  rw [List.getElem?_map] at hd
  cases hxi : xs[i]? with
  | none => simp [hxi] at hd
  | some y =>
    rw [hxi] at hd
    simp only [Option.map_some, Option.some.injEq] at hd
    have hi : i < n := by rw [← hn]; exact (List.getElem?_eq_some_iff.1 hxi).1
    have h1 := hel i hi
    rw [hc, Nat.mul_one, hxi] at h1
    have hil : i < cs.length := by
      apply Classical.byContradiction
      intro hge
      rw [List.drop_of_length_le (by omega)] at h1
      cases m with
      | zero => simp [DataW.trod] at h1
      | succ m =>
        have : P.cellsOf e = 1 := hc
        cases hu : P.underlying e with
        | none => simp [DataW.trod, hu] at h1
        | some k => cases k <;> simp [DataW.trod, hu] at h1 <;> (try omega)
    rw [List.drop_eq_getElem_cons hil] at h1
    simp only [List.take_succ_cons, List.take_zero] at h1
    exact ⟨cs[i], m, y.2, List.getElem?_eq_getElem hil, by rw [h1, ← hd]⟩
theorem laidMetH.plain {l : List (String × DataW Unit)} (h : laidMetH P l W) (hne : (l.filter fun x => x.2.handleName?.isSome).isEmpty = false) : laidMet P (l.filter fun x => x.2.handleName?.isNone) W := by
  unfold laidMetH at h
  generalize (l.filter fun x => x.2.handleName?.isSome) = fl at h hne
  cases fl with
  | nil => cases hne
  | cons a r => exact h.1
end
/-- The door's own heap meets the condition. -/
abbrev doorN : Nat := 19
abbrev doorK : Nat := 8
theorem door_met (os : Os) (args : Array Value) : laidMetH Tryd.prog laidL ((World.doorLaid Tryd.prog doorN os).forCall (fun _ _ => 0) ⟨#[], args, []⟩).memory :=
  laidMetH_of_parts3 (fuel := 8) (laidMet_of_run' 8 (by kernel_rfl) (by kernel_rfl)) (by kernel_rfl) (by kernel_rfl)
theorem of_laid {W : World} (h : laidMetH Tryd.prog laidL W) : GlOk Gv W := by
  have h0 : laidMet Tryd.prog [("math/bits.deBruijn64tab", Rows.laid_math_bits_deBruijn64tab)] W := laidMetH.plain h (by kernel_rfl)
  obtain ⟨ps, ⟨g0, t0, cs0, f0, p0, q0, hg0, ht0, hv0, hd0, _⟩, _, _⟩ := h0
  obtain ⟨g1, t1, cs1, f1, p1, hg1, ht1, hv1, hd1⟩ := h.funcs (d := .agg [.iface "func" (.lit (.string [114, 101, 99, 107, 111, 110, 101, 114, 47, 102, 105, 110, 46, 109, 111, 114, 101, 36, 49])), .iface "func" (.lit (.string [114, 101, 99, 107, 111, 110, 101, 114, 47, 102, 105, 110, 46, 109, 111, 114, 101, 36, 50])), .iface "func" (.lit (.string [114, 101, 99, 107, 111, 110, 101, 114, 47, 102, 105, 110, 46, 109, 111, 114, 101, 36, 51])), .iface "func" (.lit (.string [114, 101, 99, 107, 111, 110, 101, 114, 47, 102, 105, 110, 46, 109, 111, 114, 101, 36, 52])), .iface "func" (.lit (.string [114, 101, 99, 107, 111, 110, 101, 114, 47, 102, 105, 110, 46, 109, 111, 114, 101, 36, 53]))]) (n := "reckoner/fin.more") (List.mem_cons_of_mem _ (List.mem_singleton.2 rfl))
  obtain rfl := Option.some.inj (g0_name.symm.trans hg0)
  obtain rfl := Option.some.inj (g1_name.symm.trans hg1)
  have e0 : (Rows.laid_math_bits_deBruijn64tab : DataW Unit) = .agg (Lib.deBruijn64tab.map fun k => .lit (.int .u8 (k : Nat))) := by kernel_rfl
  rw [e0] at hd0
  obtain rfl := Option.some.inj ((show (Tryd.prog.globals[1]?).map (·.type) = some 130 by kernel_rfl).symm.trans ht0)
  obtain rfl := Option.some.inj ((show (Tryd.prog.globals[0]?).map (·.type) = some 120 by kernel_rfl).symm.trans ht1)
  intro b off x hx
  match b, hx with
  | 1, hx =>
    simp only [Gv, List.getElem?_map] at hx
    cases hk : Lib.deBruijn64tab[off]? with
    | none => simp [hk] at hx
    | some k =>
      simp only [hk, Option.map_some, Option.some.injEq] at hx; subst hx
      obtain ⟨v, m, q, h1, h2⟩ := array_at Tryd.underlying130 (by kernel_rfl) hd0 (i := off) (d := .lit (.int .u8 (k : Nat))) (by simp [hk])
      obtain ⟨z, h3, h4, _⟩ := DataW.trod_int Tryd.underlying5 h2
      simp only [List.cons.injEq, and_true, Prod.mk.injEq, DataW.lit.injEq, Lit.int.injEq, true_and] at h3 h4
      subst h3
      refine ⟨rfl, .int .u8 z, ?_, fun E => ?_⟩
      · rw [World.var?_cell hg0 hv0 off]; simpa using h1
      · show Value.int .u8 z = .int .u8 (k : Nat)
        rw [h4.1]
  | 0, hx =>
    have hd1 : DataW.trod (funcToken Tryd.prog) Tryd.prog W 0 (fun _ => true) true f1 120 cs1.toList = some (.agg [.held [114, 101, 99, 107, 111, 110, 101, 114, 47, 102, 105, 110, 46, 109, 111, 114, 101, 36, 49], .held [114, 101, 99, 107, 111, 110, 101, 114, 47, 102, 105, 110, 46, 109, 111, 114, 101, 36, 50], .held [114, 101, 99, 107, 111, 110, 101, 114, 47, 102, 105, 110, 46, 109, 111, 114, 101, 36, 51], .held [114, 101, 99, 107, 111, 110, 101, 114, 47, 102, 105, 110, 46, 109, 111, 114, 101, 36, 52], .held [114, 101, 99, 107, 111, 110, 101, 114, 47, 102, 105, 110, 46, 109, 111, 114, 101, 36, 53]], p1) := hd1
    have hF : ∀ {i : Nat} {by_ : UInt8} {r : List UInt8} {f0 : FuncId}, (([DataW.held (H := List UInt8) [114, 101, 99, 107, 111, 110, 101, 114, 47, 102, 105, 110, 46, 109, 111, 114, 101, 36, 49], .held [114, 101, 99, 107, 111, 110, 101, 114, 47, 102, 105, 110, 46, 109, 111, 114, 101, 36, 50], .held [114, 101, 99, 107, 111, 110, 101, 114, 47, 102, 105, 110, 46, 109, 111, 114, 101, 36, 51], .held [114, 101, 99, 107, 111, 110, 101, 114, 47, 102, 105, 110, 46, 109, 111, 114, 101, 36, 52], .held [114, 101, 99, 107, 111, 110, 101, 114, 47, 102, 105, 110, 46, 109, 111, 114, 101, 36, 53]]))[i]? = some (.held (by_ :: r)) → ((List.range Tryd.prog.funcs.size).filter fun f => (Tryd.prog.funcs[f]?).any (·.name.toUTF8.data.toList == by_ :: r)) = [f0] → (Ce.f f0).pure = true ∧ ∃ v, W.cell? ⟨0, i, Option.none⟩ = some v ∧ ∀ E, RC E (.f f0) v := fun {i by_ r f0} hi hone => by
      obtain ⟨v, m, q, h1, h2⟩ := array_at Tryd.underlying120 (by kernel_rfl) hd1 hi
      obtain rfl := func_of_trod (f0 := f0) Tryd.underlying119 hone h2
      refine ⟨rfl, .func (.func f0) #[] #[], ?_, fun E => rfl⟩
      rw [World.var?_cell hg1 hv1 i]; simpa using h1
    rcases off with _ | _ | _ | _ | _ | off
    · simp only [Gv] at hx
      obtain rfl : Ce.f 117 = x := Option.some.inj hx
      exact hF (i := 0) rfl (by kernel_rfl)
    · simp only [Gv] at hx
      obtain rfl : Ce.f 118 = x := Option.some.inj hx
      exact hF (i := 1) rfl (by kernel_rfl)
    · simp only [Gv] at hx
      obtain rfl : Ce.f 119 = x := Option.some.inj hx
      exact hF (i := 2) rfl (by kernel_rfl)
    · simp only [Gv] at hx
      obtain rfl : Ce.f 120 = x := Option.some.inj hx
      exact hF (i := 3) rfl (by kernel_rfl)
    · simp only [Gv] at hx
      obtain rfl : Ce.f 121 = x := Option.some.inj hx
      exact hF (i := 4) rfl (by kernel_rfl)
    · simp [Gv] at hx
  | b + 2, hx => simp [Gv] at hx
set_option maxRecDepth 100000
/-- A format among the arguments. -/
theorem arg_fm {H : Type} {enc : TypeId × Value → H} {W : World} {b0 : Nat} {sp : Nat → Bool} {held : Bool} {v : Value} {d : DataW H} {ps : List MemPlace} (hval : Value.okWide Tryd.prog W .any b0 23 v) (h : DataW.Trod enc Tryd.prog W 0 sp held 23 v d ps) : ∃ f p, RP (enA W fun b => b < W.heap.size) (Fm f p) v := by
  obtain ⟨ces, h1, h2⟩ := open_struct (ok := fun b => b < W.heap.size) (f := 2) (cts := [.i .i64, .i .i64]) (fun _ h => h) Tryd.underlying23 (by kernel_rfl) hval h
  cases h2 with | cons g h2 => cases h2 with | cons g' h2 => cases h2 with | nil =>
  obtain ⟨e, rfl, _⟩ := g
  obtain ⟨p, rfl, _⟩ := g'
  exact ⟨e, p, h1⟩
theorem cells_fl {ces : List Ce} (h2 : All2 CtIs [.i .i64, .b, .i .i64, .w] ces) : ∃ x : Fla, x.cs = ces ∧ Ws x.m ∧ I64 x.e := by
  cases h2 with | cons g1 h2 => cases h2 with | cons g2 h2 => cases h2 with | cons g3 h2 => cases h2 with | cons g4 h2 => cases h2 with | nil =>
  obtain ⟨k, rfl, _⟩ := g1
  obtain ⟨n, rfl⟩ := g2
  obtain ⟨e, rfl, he⟩ := g3
  obtain ⟨m, rfl, hm⟩ := g4
  exact ⟨⟨k, n, e, m⟩, rfl, hm, wf_i64 he⟩
/-- A float among the arguments. -/
theorem arg_fl {H : Type} {enc : TypeId × Value → H} {W : World} {b0 : Nat} {sp : Nat → Bool} {held : Bool} {v : Value} {d : DataW H} {ps : List MemPlace} (hval : Value.okWide Tryd.prog W .any b0 29 v) (h : DataW.Trod enc Tryd.prog W 0 sp held 29 v d ps) : ∃ x : Fla, Ws x.m ∧ I64 x.e ∧ RP (enA W fun b => b < W.heap.size) (Fl x.k x.n x.e x.m) v := by
  obtain ⟨ces, h1, h2⟩ := open_struct (ok := fun b => b < W.heap.size) (f := 2) (cts := [.i .i64, .b, .i .i64, .w]) (fun _ h => h) Tryd.underlying29 (by kernel_rfl) hval h
  obtain ⟨x, rfl, hx⟩ := cells_fl h2
  exact ⟨x, hx.1, hx.2, h1⟩
/-- Floats among the arguments. -/
theorem arg_fls {H : Type} {enc : TypeId × Value → H} {W : World} {b0 : Nat} {sp : Nat → Bool} {held : Bool} {v : Value} {d : DataW H} {ps : List MemPlace} (hval : Value.okWide Tryd.prog W .any b0 46 v) (h : DataW.Trod enc Tryd.prog W 0 sp held 46 v d ps) : ∃ l : List Fla, (∀ x ∈ l, Ws x.m ∧ I64 x.e) ∧ RP (enA W fun b => b < W.heap.size) (Rows l) v := by
  obtain ⟨rows, h1, h2⟩ := open_structs (ok := fun b => b < W.heap.size) (f := 2) (cts := [.i .i64, .b, .i .i64, .w]) (fun _ h => h) Tryd.underlying46 (by kernel_rfl) (by kernel_rfl) (by decide) hval h
  have : ∃ l : List Fla, l.map Fla.cs = rows ∧ ∀ x ∈ l, Ws x.m ∧ I64 x.e := by
    clear h1
    induction rows with
    | nil => exact ⟨[], rfl, by simp⟩
    | cons r rows ih =>
      obtain ⟨l, e, hl⟩ := ih fun r hr => h2 r (List.mem_cons_of_mem _ hr)
      have hr := h2 r (by simp)
      obtain ⟨y, rfl, hy⟩ := cells_fl hr
      exact ⟨y :: l, by simp [e], fun x hx => by
          rcases List.mem_cons.1 hx with rfl | hx
          · exact hy
          · exact hl x hx⟩
  obtain ⟨l, rfl, hl⟩ := this
  exact ⟨l, hl, h1⟩
/-- What a law that returns true leaves. -/
theorem law_calls {f : FuncId} {fn : Func} {c : Code} {args : List PV} {W : World} {vals : List Value} (h : Does Tryd.prog Gv f args (.v (.c (.b true)))) (hf : Tryd.prog.funcs[f]? = some fn) (hname : (fn.name == "runtime.NumGoroutine") = false) (hb : fn.body = some c) (hg : GlOk Gv W) (ha : All2 (RP (enA W fun b => b < W.heap.size)) args vals) :
    Calls Tryd.prog f vals.toArray W (fun e W' => e = .returned (.bool true) ∧ Below W.heap.size W W') :=
  (h.toCalls hf hname hb (fun _ h => h) hg ha).mono fun e W' ⟨v, he, hb, hr⟩ => by
    have : v = .bool true := hr
    subst this
    exact ⟨he, hb⟩
end Go.Proofs.YthpkhmbjmnhmoaaDoor
/- Rounding to the nearest: how near, and when exactly. No condition. -/
namespace Go.Proofs.YthpkhmbjmnhmoaaDoor
set_option linter.unusedVariables false
set_option linter.unusedSimpArgs false
set_option maxHeartbeats 4000000
set_option maxRecDepth 10000
theorem near_cut (v k : Nat) (n : Bool) {q : Nat} (hq : upP 0 n (cutP v ((k : Int) + 1) false).1 (cutP v ((k : Int) + 1) false).2 = q) : 2 * v ≤ 2 * (q * 2 ^ (k + 1)) + 2 ^ (k + 1) ∧ 2 * (q * 2 ^ (k + 1)) ≤ 2 * v + 2 ^ (k + 1) := by
  have e1 : ((k : Int) + 1).toNat = k + 1 := by omega
  have e2 : ((k : Int) + 1 - 1).toNat = k := by omega
  rw [cutP, if_neg (by omega), e1, e2] at hq
  simp only [Bool.false_or] at hq
  have h1 : v / 2 ^ k = 2 * (v / 2 ^ (k + 1)) + v / 2 ^ k % 2 := by
    have := Nat.div_add_mod (v / 2 ^ k) 2
    rw [Nat.div_div_eq_div_mul, ← Nat.pow_succ] at this
    exact this.symm
  have h2 := Nat.div_add_mod v (2 ^ k)
  have h3 := Nat.mod_lt v (Nat.pow_pos (n := k) (show 0 < 2 by decide))
  have hP : 2 ^ (k + 1) = 2 * 2 ^ k := Nat.pow_succ'
  generalize v / 2 ^ (k + 1) = c at *
  have h4 : v / 2 ^ k % 2 = 0 ∨ v / 2 ^ k % 2 = 1 := by omega
  generalize v / 2 ^ k % 2 = b at *
  generalize v / 2 ^ k = d at *
  generalize v % 2 ^ k = l at *
  rw [hP]
  generalize 2 ^ k = H at *
  have key : v = 2 * (c * H) + b * H + l := by
    rw [← h2, h1, Nat.mul_add, Nat.mul_comm H b, ← Nat.mul_assoc, Nat.mul_comm H 2, Nat.mul_assoc, Nat.mul_comm H c]
  have hup : ∀ x, upP 0 n c x = c ∨ upP 0 n c x = c + 1 := fun x => by unfold upP; split <;> simp
  have hc : q = c ∨ q = c + 1 := by rw [← hq]; exact hup _
  have m0 : c * (2 * H) = 2 * (c * H) := by rw [← Nat.mul_assoc, Nat.mul_comm c 2, Nat.mul_assoc]
  have m1 : (c + 1) * (2 * H) = 2 * (c * H) + 2 * H := by rw [Nat.add_mul, m0, Nat.one_mul]
  rcases h4 with rfl | rfl
  · have : q = c := by rw [← hq]; by_cases hl : l = 0 <;> simp [upP, moreP, hl]
    subst this
    rw [m0]
    generalize q * H = X at *
    omega
  · by_cases hl : l = 0
    · rcases hc with rfl | rfl
      · rw [m0]
        generalize q * H = X at *
        omega
      · rw [m1]
        generalize c * H = X at *
        omega
    · have : q = c + 1 := by rw [← hq]; simp [upP, moreP, hl]
      subst this
      rw [m1]
      generalize c * H = X at *
      omega
theorem rcanon_scale (n : Bool) {v : Nat} (hv : 0 < v) (e : Int) (k : Nat) : rcanon ⟨1, n, e - k, v * 2 ^ k⟩ = rcanon ⟨1, n, e, v⟩ := by
  simp only [rcanon, if_true]
  rw [Nat.mul_comm v, tz_mul k hv, Nat.pow_add, Nat.mul_div_mul_left _ _ (Nat.pow_pos (by decide))]
  rw [show e - (k : Int) + ((k + tz v : Nat) : Int) = e + tz v by omega]
theorem mkP_rcanon {n : Bool} {q : Nat} {u : Int} (h : q ≠ 0) : mkP n q u = rcanon ⟨1, n, u, q⟩ := by simp [mkP, rcanon, h]
theorem upP_none (r : Int) (n : Bool) (q : Nat) : upP r n q 0 = q := by simp [upP, moreP]
/-- A float of the format is not changed. -/
theorem roundP_exact {f p r : Int} (hf : fmOk f p = true) {n : Bool} {w : Nat} {k : Int} (hw : 0 < w) (hk : 1 - gOfE f - (p - 1) ≤ k) (hb : (bl w : Int) ≤ p) (hg : k + bl w ≤ gOfE f + 1) : roundP f p r n w k false = (rcanon ⟨1, n, k, w⟩, 0) := by
  obtain ⟨b1, b2, b3, b4⟩ := fmOk_spec hf
  have hp := bl_pos hw
  have hu : stepP f p (k + bl w - 1) ≤ k := by unfold stepP; split <;> omega
  unfold roundP
  simp only []
  generalize stepP f p (k + bl w - 1) = u at *
  obtain ⟨j, hj⟩ : ∃ j : Nat, k - u = j := ⟨(k - u).toNat, by omega⟩
  have hc : cutP w (u - k) false = (w * 2 ^ j, 0) := by
    rw [cutP, if_pos (by omega), show (-(u - k)).toNat = j by omega]; rfl
  rw [hc]
  simp only [upP_none]
  have hbl := bl_mul_pow w j hw
  have hpos : 0 < w * 2 ^ j := Nat.mul_pos hw (Nat.pow_pos (by decide))
  rw [if_neg (by omega), if_pos trivial, mkP_rcanon (by omega), show u = k - j by omega, rcanon_scale n hw]
/-- How near a rounded number is. -/
theorem roundP_near {f p : Int} (hf : fmOk f p = true) {n : Bool} {V : Nat} {z : Int} (hz : z ≤ 1 - gOfE f - (p - 1)) (hV : 0 < V) (hk : (roundP f p 0 n V z false).1.k ≠ 2) : ∃ q j : Nat, 1 - gOfE f - (p - 1) ≤ z + j ∧ (z + j = 1 - gOfE f - (p - 1) ∨ 2 ^ (p.toNat - 1) * 2 ^ j ≤ V) ∧ 2 * V ≤ 2 * (q * 2 ^ j) + 2 ^ j ∧ 2 * (q * 2 ^ j) ≤ 2 * V + 2 ^ j ∧ (roundP f p 0 n V z false).1 = mkP n q (z + j) := by
  obtain ⟨b1, b2, b3, b4⟩ := fmOk_spec hf
  have hp := bl_pos hV
  have hlow : 2 ^ (bl V - 1) ≤ V := (bl_le _ _).1 (by omega)
  have hu : 1 - gOfE f - (p - 1) ≤ stepP f p (z + bl V - 1) ∧ (stepP f p (z + bl V - 1) = 1 - gOfE f - (p - 1) ∨ stepP f p (z + bl V - 1) = z + bl V - 1 - p + 1) := by unfold stepP; split <;> omega
  unfold roundP at hk ⊢
  simp only [] at hk ⊢
  generalize stepP f p (z + bl V - 1) = u at *
  obtain ⟨j, hj⟩ : ∃ j : Nat, u - z = j := ⟨(u - z).toNat, by omega⟩
  have hg : grP 0 n = false := rfl
  have hno : ¬ gOfE f < u + bl (upP 0 n (cutP V (u - z) false).1 (cutP V (u - z) false).2) - 1 := by
    intro h
    rw [if_pos h, hg] at hk
    exact hk rfl
  rw [if_neg hno]
  refine ⟨upP 0 n (cutP V (u - z) false).1 (cutP V (u - z) false).2, j, by omega, ?_, ?_, ?_, by rw [show z + (j : Int) = u by omega]⟩
  · rcases hu.2 with h | h
    · exact .inl (by omega)
    · right
      rw [← Nat.pow_add, show p.toNat - 1 + j = bl V - 1 by omega]
      exact hlow
  · rw [hj]
    cases j with
    | zero =>
      rw [show cutP V ((0 : Nat) : Int) false = (V, 0) by simp [cutP]]
      simp only [upP_none]; omega
    | succ k => exact (near_cut V k n rfl).1
  · rw [hj]
    cases j with
    | zero =>
      rw [show cutP V ((0 : Nat) : Int) false = (V, 0) by simp [cutP]]
      simp only [upP_none]; omega
    | succ k => exact (near_cut V k n rfl).2
theorem near_mult {V Q c : Int} {P : Nat} (h1 : 2 * V ≤ 2 * (Q * P) + P) (h2 : 2 * (Q * P) ≤ 2 * V + P) : (V - Q * P).natAbs ≤ (V - c * P).natAbs := by
  rcases Int.lt_trichotomy Q c with h | h | h
  · have : (Q + 1) * P ≤ c * P := Int.mul_le_mul_of_nonneg_right (by omega) (by omega)
    rw [Int.add_mul, Int.one_mul] at this
    generalize Q * (P : Int) = X at *
    generalize c * (P : Int) = Y at *
    omega
  · subst h; exact Nat.le_refl _
  · have : (c + 1) * P ≤ Q * P := Int.mul_le_mul_of_nonneg_right (by omega) (by omega)
    rw [Int.add_mul, Int.one_mul] at this
    generalize Q * (P : Int) = X at *
    generalize c * (P : Int) = Y at *
    omega
/-- A number over a low exponent, with few enough digits for the format. -/
structure OfF (f p z : Int) (A : Int) (w : Nat) (k : Int) : Prop where
  low : 1 - gOfE f - (p - 1) ≤ k
  few : (bl w : Int) ≤ p
  top : k + bl w ≤ gOfE f + 1
  abs : A.natAbs = w * 2 ^ (k - z).toNat
/-- Nothing of the format is nearer. -/
theorem near_le {f p z : Int} {V q j : Nat} {W : Int} {w : Nat} {k : Int} (hp : 2 ≤ p) (hz : z ≤ 1 - gOfE f - (p - 1)) (hj : z + j = 1 - gOfE f - (p - 1) ∨ 2 ^ (p.toNat - 1) * 2 ^ j ≤ V) (h1 : 2 * V ≤ 2 * (q * 2 ^ j) + 2 ^ j) (h2 : 2 * (q * 2 ^ j) ≤ 2 * V + 2 ^ j) (hW : OfF f p z W w k) : ((V : Int) - (q * 2 ^ j : Nat)).natAbs ≤ ((V : Int) - W).natAbs := by
  obtain ⟨a1, a2, a3, a4⟩ := hW
  have key : ∀ c : Int, ((V : Int) - (q * 2 ^ j : Nat)).natAbs ≤ ((V : Int) - c * (2 ^ j : Nat)).natAbs := fun c => by
    have := @near_mult V q c (2 ^ j) (by rw [← Int.natCast_mul]; omega) (by rw [← Int.natCast_mul]; omega)
    rwa [← Int.natCast_mul] at this
  by_cases hk : z + j ≤ k
  · have e1 : w * 2 ^ (k - z).toNat = w * 2 ^ (k - z - j).toNat * 2 ^ j := by
      rw [Nat.mul_assoc, ← Nat.pow_add]; congr 2; omega
    rw [e1] at a4
    rcases Int.natAbs_eq W with h | h
    · have := key (w * 2 ^ (k - z - j).toNat : Nat)
      rw [← Int.natCast_mul, ← a4, ← h] at this
      exact this
    · have := key (-(w * 2 ^ (k - z - j).toNat : Nat))
      rw [Int.neg_mul, ← Int.natCast_mul, ← a4, ← h] at this
      exact this
  · have h3 : 2 ^ (p.toNat - 1) * 2 ^ j ≤ V := by
      rcases hj with h | h
      · omega
      · exact h
    have h4 : w * 2 ^ (k - z).toNat ≤ 2 ^ (p.toNat - 1) * 2 ^ j := by
      have hb : w < 2 ^ p.toNat := (bl_lt _ _).1 (by omega)
      refine Nat.le_trans (Nat.mul_le_mul_right _ (Nat.le_of_lt hb)) ?_
      rw [← Nat.pow_add, ← Nat.pow_add]
      exact Nat.pow_le_pow_right (by decide) (by omega)
    have h5 := key (2 ^ (p.toNat - 1) : Nat)
    rw [← Int.natCast_mul] at h5
    generalize 2 ^ (p.toNat - 1) * 2 ^ j = M at *
    generalize w * 2 ^ (k - z).toNat = y at *
    generalize q * 2 ^ j = x at *
    omega
end Go.Proofs.YthpkhmbjmnhmoaaDoor
/- What a rounded sum drops is a float of the format. No condition. -/
namespace Go.Proofs.YthpkhmbjmnhmoaaDoor
set_option linter.unusedVariables false
set_option linter.unusedSimpArgs false
set_option maxHeartbeats 4000000
set_option maxRecDepth 10000
/-- The least exponent. -/
abbrev tiny (f p : Int) : Int := 1 - gOfE f - (p - 1)
theorem OfF.mul {f p z A : Int} {w : Nat} {k : Int} (h : OfF f p z A w k) {m : Int} (h1 : z ≤ m) (h2 : m ≤ k) : ∃ a : Int, A = a * ((2 ^ (m - z).toNat : Nat) : Int) := by
  have e : w * 2 ^ (k - z).toNat = w * 2 ^ (k - m).toNat * 2 ^ (m - z).toNat := by rw [pow_split h1 h2, Nat.mul_assoc]
  have h3 := h.abs
  rw [e] at h3
  rcases Int.natAbs_eq A with h | h
  · exact ⟨(w * 2 ^ (k - m).toNat : Nat), by rw [← Int.natCast_mul, ← h3]; exact h⟩
  · exact ⟨-((w * 2 ^ (k - m).toNat : Nat) : Int), by rw [Int.neg_mul, ← Int.natCast_mul, ← h3]; exact h⟩
theorem mult_zero {x : Int} {P : Nat} (h : 2 * (x * (P : Int)).natAbs ≤ P) (hP : 0 < P) : x = 0 := by
  rw [Int.natAbs_mul, Int.natAbs_natCast] at h
  rcases Nat.eq_zero_or_pos x.natAbs with h0 | h0
  · omega
  · have := Nat.mul_le_mul_right P h0
    omega
/-- A rounding to the nearest: V becomes q 2^j. -/
structure Near (f p z : Int) (V q j : Nat) : Prop where
  low : tiny f p ≤ z + j
  big : z + j = tiny f p ∨ 2 ^ (p.toNat - 1) * 2 ^ j ≤ V
  up : 2 * V ≤ 2 * (q * 2 ^ j) + 2 ^ j
  down : 2 * (q * 2 ^ j) ≤ 2 * V + 2 ^ j
theorem err_one {f p z : Int} {A B : Int} {wa wb : Nat} {ka kb : Int} (hp : 2 ≤ p) (hz : z ≤ tiny f p) (ha : OfF f p z A wa ka) (hb : OfF f p z B wb kb) (hk : ka ≤ kb) {V q j : Nat} {s : Bool} (hV : A + B = sgn s V) (hn : Near f p z V q j) : ∃ d : Nat, OfF f p z (A + B - sgn s (q * 2 ^ j)) d ka := by
  have hD : (A + B - sgn s (q * 2 ^ j)).natAbs = ((V : Int) - (q * 2 ^ j : Nat)).natAbs := by
    rw [hV]; unfold sgn
    generalize q * 2 ^ j = x
    split <;> omega
  have hW : OfF f p z (if s then -B else B) wb kb := ⟨hb.low, hb.few, hb.top, by have := hb.abs; split <;> omega⟩
  have h1 := near_le hp hz hn.big hn.up hn.down hW
  have hA : ((V : Int) - if s then -B else B).natAbs = A.natAbs := by
    unfold sgn at hV
    cases s <;> simp at hV ⊢ <;> omega
  rw [hA, ha.abs, ← hD] at h1
  have hlow := ha.low
  have htn : tiny f p = 1 - gOfE f - (p - 1) := rfl
  have hnl := hn.low
  by_cases hjk : ka ≤ z + j
  · obtain ⟨a, ea⟩ := ha.mul (m := ka) (by omega) (Int.le_refl _)
    obtain ⟨b, eb⟩ := hb.mul (m := ka) (by omega) hk
    have eq : q * 2 ^ j = q * 2 ^ (z + j - ka).toNat * 2 ^ (ka - z).toNat := by
      rw [Nat.mul_assoc, ← Nat.pow_add]; congr 2; omega
    have ez : sgn s (q * 2 ^ j) = sgn s (q * 2 ^ (z + j - ka).toNat) * ((2 ^ (ka - z).toNat : Nat) : Int) := by
      rw [eq]; unfold sgn; split
      · rw [Int.neg_mul, Int.natCast_mul]
      · rw [Int.natCast_mul]
    have eD : A + B - sgn s (q * 2 ^ j) = (a + b - sgn s (q * 2 ^ (z + j - ka).toNat)) * ((2 ^ (ka - z).toNat : Nat) : Int) := by
      rw [ez, Int.sub_mul, Int.add_mul, ← ea, ← eb]
    rw [eD, Int.natAbs_mul, Int.natAbs_natCast] at h1
    have hle := Nat.le_of_mul_le_mul_right h1 (Nat.pow_pos (by decide))
    have hbl := bl_mono hle
    exact ⟨(a + b - sgn s (q * 2 ^ (z + j - ka).toNat)).natAbs, hlow, by have := ha.few; omega, by have := ha.top; omega, by rw [eD, Int.natAbs_mul, Int.natAbs_natCast]⟩
  · have hj0 : (z + (j : Int) - z).toNat = j := by omega
    obtain ⟨a, ea⟩ := ha.mul (m := z + j) (by omega) (by omega)
    obtain ⟨b, eb⟩ := hb.mul (m := z + j) (by omega) (by omega)
    rw [hj0] at ea eb
    have eV : (V : Int) = ((a + b).natAbs : Int) * ((2 ^ j : Nat) : Int) := by
      have e1 : (A + B).natAbs = V := by rw [hV]; unfold sgn; split <;> omega
      rw [← e1, ea, eb, ← Int.add_mul, Int.natAbs_mul, Int.natAbs_natCast, Int.natCast_mul]
    have eX : (V : Int) - (q * 2 ^ j : Nat) = (((a + b).natAbs : Int) - q) * ((2 ^ j : Nat) : Int) := by
      rw [Int.sub_mul, ← eV, Int.natCast_mul]
    have h0 := @mult_zero (((a + b).natAbs : Int) - q) (2 ^ j) (by rw [← eX]; have := hn.up; have := hn.down; generalize q * 2 ^ j = x at *; omega) (Nat.pow_pos (by decide))
    refine ⟨0, hlow, by rw [bl_zero]; omega, by rw [bl_zero]; have := ha.top; omega, ?_⟩
    rw [hD, eX, h0]; simp
/-- What a rounded sum of two drops. -/
theorem err_two {f p z : Int} {A B : Int} {wa wb : Nat} {ka kb : Int} (hp : 2 ≤ p) (hz : z ≤ tiny f p) (ha : OfF f p z A wa ka) (hb : OfF f p z B wb kb) {V q j : Nat} {s : Bool} (hV : A + B = sgn s V) (hn : Near f p z V q j) : ∃ (d : Nat) (k : Int), OfF f p z (A + B - sgn s (q * 2 ^ j)) d k := by
  by_cases hk : ka ≤ kb
  · obtain ⟨d, hd⟩ := err_one hp hz ha hb hk hV hn
    exact ⟨d, ka, hd⟩
  · obtain ⟨d, hd⟩ := err_one hp hz hb ha (by omega) (by rw [Int.add_comm]; exact hV) hn
    rw [Int.add_comm B A] at hd
    exact ⟨d, kb, hd⟩
/-- The canonical float with a value, the Zero without a sign. -/
def restP (z D : Int) : Flt := if D = 0 then ⟨0, false, 0, 0⟩ else rcanon ⟨1, decide (D < 0), z, D.natAbs⟩
/-- A number of the format is rounded to itself. -/
theorem round_exact {f p z r : Int} (hf : fmOk f p = true) (hz : z ≤ tiny f p) {D : Int} {d : Nat} {k : Int} (h : OfF f p z D d k) : Nu.round ⟨decide (D < 0), D.natAbs, z⟩ f p r false = (restP z D, 0) := by
  unfold Nu.round restP
  simp only []
  by_cases hD : D = 0
  · rw [if_pos (by omega), if_pos hD]
  · rw [if_neg (by omega), if_neg hD]
    have hlow := h.low
    have htn : tiny f p = 1 - gOfE f - (p - 1) := rfl
    have hd : 0 < d := by
      rcases Nat.eq_zero_or_pos d with h0 | h0
      · have := h.abs; rw [h0, Nat.zero_mul] at this; omega
      · exact h0
    rw [h.abs, show z = k - ((k - z).toNat : Int) by omega, show (k - (k - ((k - z).toNat : Int))).toNat = (k - z).toNat by omega, roundP_scale _ hd, rcanon_scale _ hd]
    exact roundP_exact hf hd hlow h.few h.top
/-- The value of a float over a low exponent. -/
def fv (z : Int) (x : Flt) : Int := if x.k = 1 then Nu.sv z ⟨x.n, x.v, x.e⟩ else 0
theorem svs_fv (z : Int) (l : List Flt) : svs z l = (l.map (fv z)).sum := by
  induction l with
  | nil => rfl
  | cons x l ih => simp only [svs, List.map_cons, List.sum_cons, ih]; rfl
theorem mkP_fv {n : Bool} {q j : Nat} {z : Int} : fv z (mkP n q (z + j)) = sgn n (q * 2 ^ j) := by
  unfold mkP fv
  by_cases hq : q = 0
  · simp [hq, sgn]
  · rw [if_neg hq]
    simp only [if_true]
    have hv : q / 2 ^ tz q * 2 ^ (z + j + tz q - z).toNat = q * 2 ^ j := by
      obtain ⟨m, hm⟩ := tz_form (show 0 < q by omega)
      have e1 : q / 2 ^ tz q = 2 * m + 1 := by
        conv => lhs; arg 1; rw [hm]
        exact Nat.mul_div_cancel_left _ (Nat.pow_pos (by decide))
      rw [e1, show (z + (j : Int) + tz q - z).toNat = tz q + j by omega, Nat.pow_add, ← Nat.mul_assoc]
      congr 1
      conv => rhs; rw [hm]
      exact Nat.mul_comm _ _
    unfold Nu.sv sgn
    simp only [hv]
theorem fv_neg (z : Int) (x : Flt) : fv z x.neg = - fv z x := by
  unfold fv Flt.neg
  by_cases h : x.k = 1
  · simp only [h, if_true]
    unfold Nu.sv
    cases x.n <;> simp
  · simp [h]
/-- A float of the format, as it is held. -/
theorem held_ofF {f p : Int} (hf : fmOk f p = true) {x : Flt} (h : (holdsP f p x).2 = true) : ∃ (w : Nat) (k : Int), OfF f p (tiny f p) (fv (tiny f p) (holdsP f p x).1) w k := by
  obtain ⟨b1, b2, b3, b4⟩ := fmOk_spec hf
  obtain ⟨b5, b6⟩ := gOfE_le b1 b2
  have htn : tiny f p = 1 - gOfE f - (p - 1) := rfl
  unfold holdsP at h ⊢
  unfold fv
  split at h
  · rename_i hc
    rw [if_pos hc]
    have hk : ¬ (canon x).1.k = 1 := by
      rcases hc with hc | hc
      · rw [h] at hc; cases hc
      · exact hc
    rw [if_neg hk]
    exact ⟨0, tiny f p, Int.le_refl _, by rw [bl_zero]; omega, by rw [bl_zero]; omega, by simp⟩
  · rename_i hc
    rw [if_neg hc]
    simp only [not_or, Decidable.not_not] at hc
    simp only [Bool.and_eq_true, decide_eq_true_eq] at h
    simp only [hc.2, if_true]
    refine ⟨(canon x).1.v, (canon x).1.e, h.1.2, h.1.1, by omega, ?_⟩
    unfold Nu.sv
    simp only []
    split
    · rw [Int.natAbs_neg, Int.natAbs_natCast]
    · rw [Int.natAbs_natCast]
end Go.Proofs.YthpkhmbjmnhmoaaDoor

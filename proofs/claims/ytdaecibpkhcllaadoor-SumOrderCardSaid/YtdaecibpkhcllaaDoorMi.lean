/- The law SumOrder holds, for every input: a sum does not depend on the order of its terms. Conditions: the two listed package variables hold what the program's text lays (tied by the card). -/
import Derived.Test.YtdaecibpkhcllaaDoorMh
import Derived.Test.YtdaecibpkhcllaaDoorMd
import Derived.Test.YtdaecibpkhcllaaDoorMc
import Derived.ChangeSlices
import Derived.ChangeArms
import Derived.WideShapes
import Derived.ProofKit
import Derived.Test.YtdaecibpkhcllaaDoorRows
import Derived.LaidMore
import Derived.LaidHandle
import Derived.Stop.Joined
import Derived.Carry
import Derived.OpenShut
import Derived.Test.YtdaecibpkhcllaaDoorCards
import Derived.Test.YtdaecibpkhcllaaDoorTie
import Derived.SevenTiedAt
/- The program awake: three sums. No condition. -/
namespace Go.Proofs.YtdaecibpkhcllaaDoor
set_option linter.unusedVariables false
set_option linter.unusedSimpArgs false
set_option maxHeartbeats 4000000
set_option maxRecDepth 10000
theorem awk_add : totalP 5 11 0 [⟨1, false, 11, [1]⟩, ⟨1, false, 0, [1]⟩] = (⟨1, false, 11, 1⟩, 1, 0) := by kernel_rfl
theorem awk_total : totalP 5 11 0 [⟨1, false, 11, [1]⟩, ⟨1, false, 0, [1]⟩, ⟨1, false, 0, [1]⟩] = (⟨1, false, 1, 1025⟩, 0, 0) := by kernel_rfl
theorem awk_sub : subP 5 11 4 ⟨1, false, 0, [1]⟩ ⟨1, false, 0, [1]⟩ = (⟨0, true, 0, 0⟩, 0, 0) := by kernel_rfl
theorem awk_same : sameP ⟨1, false, 11, 1⟩ ⟨1, false, 11, 1⟩ = true := by kernel_rfl
theorem nat_word {n : Nat} (h0 : n ≠ 0) (h : n < 18446744073709551616) : nat n = [n] := by
  unfold nat; rw [dif_neg h0]; rw [show n / 18446744073709551616 = 0 by omega, nat_zero, Nat.mod_eq_of_lt h]
theorem okF {k : Int} {n : Bool} {e : Int} {m : List Nat} (h : m.length < 1099511627776) (w : Ws m) (he : I64 e) : (Fla.mk k n e m).Ok := ⟨h, w, he⟩
theorem awake_does : Does Tryd.prog Gv 7 [] (.v (.c (.b true))) := by
  have ws1 : Ws [1] := fun w hw => by simp at hw; omega
  have o1 : (Fla.mk 1 false 0 [1]).Ok := okF (by simp) ws1 (by constructor <;> omega)
  have o2 : (Fla.mk 1 false 11 [1]).Ok := okF (by simp) ws1 (by constructor <;> omega)
  have h1 := SAdd_does (f := 5) (p := 11) (r := 0) o2 o1
  have h2 := Total_does (f := 5) (p := 11) (r := 0) (l := [⟨1, false, 11, [1]⟩, ⟨1, false, 0, [1]⟩, ⟨1, false, 0, [1]⟩]) (by simp) (by simp [o1, o2])
  have h3 := SSub_does (f := 5) (p := 11) (r := 4) o1 o1
  have h4 := @Same_does 1 false 11 [1] 1 false 11 [1] (by simp [Sh]) ws1 (by constructor <;> omega) (by simp [Sh]) ws1 (by constructor <;> omega)
  rw [awk_add] at h1
  rw [awk_total] at h2
  rw [awk_sub] at h3
  rw [show val [1] = 1 from rfl, awk_same] at h4
  have h1 : Does Tryd.prog Gv 10 [Fm 5 11, .c (.i .i64 0), Fl 1 false 11 [1], Fl 1 false 0 [1]] (.t [Fl 1 false 11 (nat 1), .c (.i .i64 1), .c (.i .i64 0)]) := h1
  have h2 : Does Tryd.prog Gv 8 [Fm 5 11, .c (.i .i64 0), .s false [(Fla.mk 1 false 11 [1]).cs, (Fla.mk 1 false 0 [1]).cs, (Fla.mk 1 false 0 [1]).cs]] (.t [Fl 1 false 1 (nat 1025), .c (.i .i64 0), .c (.i .i64 0)]) := h2
  have h3 : Does Tryd.prog Gv 12 [Fm 5 11, .c (.i .i64 4), Fl 1 false 0 [1], Fl 1 false 0 [1]] (.t [Fl 0 true 0 (nat 0), .c (.i .i64 0), .c (.i .i64 0)]) := h3
  rw [nat_one] at h1
  rw [nat_word (by decide) (by decide)] at h2
  rw [nat_zero] at h3
  refine Does.of (nt := 103) Tryd.func7 rfl rfl rfl (by simp) ?_
  simp only [argTm, PV.ext, Ce.ext]
  refine Do.seqk fun _ k1_ => ?_
  refine Do.region [] true ?_
  simp [go_sem]
  apply k1_; clear k1_
  refine Do.seqk fun _ k2_ => ?_
  refine Do.region [1] true ?_
  simp [go_sem]
  repeat (refine And.intro (by first | omega | (intros; omega) | (intros; exact And.intro (by assumption) (by omega)) | grind) ?_)
  apply k2_; clear k2_
  refine Do.seqk fun _ k3_ => ?_
  refine Do.region [1,2] true ?_
  simp [go_sem]
  repeat (refine And.intro (by first | omega | (intros; omega) | (intros; exact And.intro (by assumption) (by omega)) | grind) ?_)
  apply k3_; clear k3_
  refine Do.seqk fun _ k4_ => ?_
  refine Do.region [1,2,3] true ?_
  simp [go_sem]
  repeat (refine And.intro (by first | omega | (intros; omega) | (intros; exact And.intro (by assumption) (by omega)) | grind) ?_)
  apply k4_; clear k4_
  refine Do.seqk fun _ k5_ => ?_
  refine Do.frz 200 rfl ?_
  refine Do.frz 300 rfl ?_
  refine Do.region [1,2,3,4,5,6] true ?_
  simp [go_sem]
  repeat (refine And.intro (by first | omega | (intros; omega) | (intros; exact And.intro (by assumption) (by omega)) | grind) ?_)
  refine DoL.call true 404 rfl rfl rfl rfl (by first | exact trivial | omega | (simp; done) | (simp; omega)) (h1) rfl (by first | exact .inl rfl | exact .inr rfl) rfl ?_
  simp [go_sem]
  repeat (refine And.intro (by first | omega | (intros; omega) | (intros; exact And.intro (by assumption) (by omega)) | grind) ?_)
  apply k5_; clear k5_
  refine Do.seqk fun _ k6_ => ?_
  refine Do.region [1,2,3,4,5,6,7,8,9] true ?_
  simp [go_sem]
  repeat (refine And.intro (by first | omega | (intros; omega) | (intros; exact And.intro (by assumption) (by omega)) | grind) ?_)
  refine DoL.sealS true 505 504 rfl ?_
  simp [go_sem]
  refine DoL.call true 506 rfl rfl rfl rfl (by first | exact trivial | omega | (simp; done) | (simp; omega)) (h2) rfl (by first | exact .inl rfl | exact .inr rfl) rfl ?_
  simp [go_sem]
  repeat (refine And.intro (by first | omega | (intros; omega) | (intros; exact And.intro (by assumption) (by omega)) | grind) ?_)
  apply k6_; clear k6_
  refine Do.seqk fun _ k7_ => ?_
  refine Do.region [3,4,5,6,7,8,9,10,11,12] true ?_
  simp [go_sem]
  repeat (refine And.intro (by first | omega | (intros; omega) | (intros; exact And.intro (by assumption) (by omega)) | grind) ?_)
  refine DoL.call true 604 rfl rfl rfl rfl (by first | exact trivial | omega | (simp; done) | (simp; omega)) (h3) rfl (by first | exact .inl rfl | exact .inr rfl) rfl ?_
  simp [go_sem]
  repeat (refine And.intro (by first | omega | (intros; omega) | (intros; exact And.intro (by assumption) (by omega)) | grind) ?_)
  apply k7_; clear k7_
  refine Do.seqk fun _ k8_ => ?_
  refine Do.region [0] true ?_
  simp [go_sem]
  repeat (refine And.intro (by first | omega | (intros; omega) | (intros; exact And.intro (by assumption) (by omega)) | grind) ?_)
  refine DoL.callg true 710 rfl rfl rfl rfl rfl (by simp [go_sem] <;> omega) (fun _ => h4) rfl (by first | exact .inl rfl | exact .inr rfl) rfl ?_
  simp [go_sem]
  repeat (refine And.intro (by first | omega | (intros; omega) | (intros; exact And.intro (by assumption) (by omega)) | grind) ?_)
  apply k8_; clear k8_
  refine Do.ret ?_
  simp [endQ, rets, ret1, go_sem]
  repeat (refine And.intro (by first | omega | (intros; omega) | (intros; exact And.intro (by assumption) (by omega)) | grind) ?_)
  exact TLe.refl _
end Go.Proofs.YtdaecibpkhcllaaDoor
/- Arguments that read as data, as cells. No condition. -/
namespace Go.Proofs.YtdaecibpkhcllaaDoor
set_option linter.unusedVariables false
set_option linter.unusedSimpArgs false
open Go.RowKit
/-- What one cell of an argument is. -/
inductive CT where
  | i (k : IntKind)
  | n
  | b
  | w
def ctFields (P : Program) (g : TypeId → Option (List CT)) : List Field → Nat → Option (List CT)
  | [], _ => some []
  | fd :: r, off => match g fd.type with
    | some l => if fd.offset = off ∧ P.cellsOf fd.type = l.length then (ctFields P g r (off + l.length)).map (l ++ ·) else none
    | none => none
def ctOf (P : Program) : Nat → TypeId → Option (List CT)
  | 0, _ => none
  | f + 1, t => match P.underlying t with
    | some .bool => some [.b]
    | some (.int .u64) => some [.n]
    | some (.int k) => some [.i k]
    | some (.slice e) => match P.underlying e with
      | some (.int .u64) => if P.cellsOf e = 1 then some [.w] else none
      | _ => none
    | some (.struct fs) => match ctFields P (ctOf P f) fs.toList 0 with
      | some l => if P.cellsOf t = l.length then some l else none
      | none => none
    | _ => none
/-- A cell of such a kind. -/
def CtIs : CT → Ce → Prop
  | .i k, c => ∃ x, c = .i k x ∧ (Lit.int k x).wf = true
  | .n, c => ∃ x, c = .n x ∧ x < 18446744073709551616
  | .b, c => ∃ x, c = .b x
  | .w, c => ∃ l, c = .w false l ∧ Ws l
section
variable {H : Type} {enc : TypeId × Value → H} {P : Program} {W : World} {ok : Nat → Prop} {base : Nat} {sp : Nat → Bool} {held : Bool}
theorem wf_u64 {x : Int} (h : (Lit.int .u64 x).wf = true) : 0 ≤ x ∧ x < 18446744073709551616 := by
  simp only [Lit.wf, Bool.and_eq_true, decide_eq_true_eq] at h
  have h1 : IntKind.min .u64 = 0 := rfl
  have h2 : IntKind.max .u64 = 18446744073709551615 := rfl
  rw [h1, h2] at h; omega
theorem wf_i64 {x : Int} (h : (Lit.int .i64 x).wf = true) : -9223372036854775808 ≤ x ∧ x ≤ 9223372036854775807 := by
  simp only [Lit.wf, Bool.and_eq_true, decide_eq_true_eq] at h
  have h1 : IntKind.min .i64 = -9223372036854775808 := rfl
  have h2 : IntKind.max .i64 = 9223372036854775807 := rfl
  rw [h1, h2] at h; exact h
theorem words_cell (hok : ∀ b, b < W.heap.size → ok b) {t e : TypeId} {fuel : Nat} {cs : List Value} {x : DataW H × List MemPlace} (ht : P.underlying t = some (.slice e)) (he : P.underlying e = some (.int .u64)) (hc : P.cellsOf e = 1)
    (h : DataW.trod enc P W base sp held fuel t cs = some x) : ∃ l, Ws l ∧ ∃ v, cs = [v] ∧ RC (enA W ok) (.w false l) v := by
  rcases ChangeShapes.open_ints ht he hc h with ⟨rfl, _⟩ | ⟨a, len, cap, zs, rfl, _, hl, hm, hz, _, hcell, hwf⟩
  · exact ⟨[], by simp [Ws], _, rfl, none, 0, rfl, Nat.le_refl _, fun i x hi => by simp at hi⟩
  · have hlz : len ≤ zs.length := by rw [hz]; split <;> omega
    have hz0 : ∀ n ∈ zs, 0 ≤ n ∧ n < 18446744073709551616 := fun n hn => wf_u64 (hwf n hn)
    have hll : ((zs.take len).map Int.toNat).length = len := by simp; omega
    refine ⟨(zs.take len).map Int.toNat, fun w hw => ?_, _, rfl, some a, cap, by rw [hll], by rw [hll]; exact hl, fun i x hi => ?_⟩
    · obtain ⟨n, hn, rfl⟩ := List.mem_map.1 hw
      have := hz0 n (List.mem_of_mem_take hn); omega
    · have hil : i < len := by rw [← hll]; exact (List.getElem?_eq_some_iff.1 hi).1
      have hc1 := hcell i (by omega)
      have hx : zs.getD i 0 = x := by
        rw [List.getElem?_map, List.getElem?_take, if_pos hil, List.getElem?_eq_getElem (show i < zs.length by omega)] at hi
        simp only [Option.map_some, Option.some.injEq] at hi
        have := hz0 zs[i] (List.getElem_mem _)
        simp [List.getD, List.getElem?_eq_getElem (show i < zs.length by omega)]; omega
      rw [hx] at hc1
      refine ⟨a, rfl, hok _ ?_, (fun e => by cases e), hc1⟩
      have := World.block_lt_of_cell? W _ hc1
      rwa [add_block] at this
theorem fields_cells (hok : ∀ b, b < W.heap.size → ok b) {g : TypeId → Option (List CT)} {n : Nat} {cs : List Value} (ih : ∀ (t : TypeId) (cts : List CT) (ds : List Value) (y : DataW H × List MemPlace), g t = some cts → DataW.trod enc P W base sp held n t ds = some y → ∃ ces, All2 (RC (enA W ok)) ces ds ∧ All2 CtIs cts ces) :
    ∀ (fs : List Field) (off : Nat) (cts : List CT), ctFields P g fs off = some cts → (∀ fd ∈ fs, ∃ y, DataW.trod enc P W base sp held n fd.type ((cs.drop fd.offset).take (P.cellsOf fd.type)) = some y) → cs.length = off + cts.length → ∃ ces, All2 (RC (enA W ok)) ces (cs.drop off) ∧ All2 CtIs cts ces
  | [], off, cts, h, _, hl => by
    simp only [ctFields, Option.some.injEq] at h; subst h
    rw [List.drop_of_length_le (by simp at hl; omega)]
    exact ⟨[], .nil, .nil⟩
  | fd :: r, off, cts, h, hf, hl => by
    simp only [ctFields] at h
    split at h
    · rename_i l hg
      split at h
      · rename_i ho
        obtain ⟨ho, hc⟩ := ho
        cases hr : ctFields P g r (off + l.length) with
        | none => simp [hr] at h
        | some l2 =>
          simp only [hr, Option.map_some, Option.some.injEq] at h; subst h
          rw [List.length_append] at hl
          obtain ⟨y, hy⟩ := hf fd (by simp)
          rw [ho, hc] at hy
          obtain ⟨c1, a1, m1⟩ := ih _ _ _ _ hg hy
          obtain ⟨c2, a2, m2⟩ := fields_cells hok ih r (off + l.length) l2 hr (fun fd' hf' => hf fd' (List.mem_cons_of_mem _ hf')) (by omega)
          refine ⟨c1 ++ c2, ?_, m1.append m2⟩
          have := a1.append a2
          rwa [show cs.drop (off + l.length) = (cs.drop off).drop l.length by rw [List.drop_drop], List.take_append_drop] at this
      · cases h
    · cases h
theorem trod_cells (hok : ∀ b, b < W.heap.size → ok b) : ∀ (f n : Nat) (t : TypeId) (cts : List CT) (cs : List Value) (x : DataW H × List MemPlace), ctOf P f t = some cts → DataW.trod enc P W base sp held n t cs = some x → ∃ ces, All2 (RC (enA W ok)) ces cs ∧ All2 CtIs cts ces
  | 0, n, t, cts, cs, x, h, _ => by simp [ctOf] at h
  | f + 1, n, t, cts, cs, x, h, hd => by
    simp only [ctOf] at h
    split at h
    · rename_i ht
      injection h with h; subst h
      obtain ⟨b, rfl, _⟩ := DataW.trod_bool ht hd
      exact ⟨[.b b], .cons rfl .nil, .cons ⟨b, rfl⟩ .nil⟩
    · rename_i ht
      injection h with h; subst h
      obtain ⟨n, rfl, _, hw⟩ := DataW.trod_int ht hd
      have := wf_u64 hw
      exact ⟨[.n n.toNat], .cons (by show Value.int .u64 n = .int .u64 (n.toNat : Nat); rw [Int.toNat_of_nonneg this.1]) .nil, .cons ⟨n.toNat, rfl, by omega⟩ .nil⟩
    · rename_i k _ ht
      injection h with h; subst h
      obtain ⟨n, rfl, _, hw⟩ := DataW.trod_int ht hd
      exact ⟨[.i k n], .cons rfl .nil, .cons ⟨n, rfl, hw⟩ .nil⟩
    · rename_i e ht
      split at h
      · rename_i he
        split at h
        · rename_i hc
          injection h with h; subst h
          obtain ⟨l, hw, v, rfl, hv⟩ := words_cell (ok := ok) hok ht he hc hd
          exact ⟨[.w false l], .cons hv .nil, .cons ⟨l, rfl, hw⟩ .nil⟩
        · cases h
      · cases h
    · rename_i fs ht
      split at h
      · rename_i l hl
        split at h
        · rename_i hc
          injection h with h; subst h
          obtain ⟨xs, m, rfl, _, hlen, hxs, hel⟩ := DataW.trod_struct ht hd
          have hff : ∀ fd ∈ fs.toList, ∃ y, DataW.trod enc P W base sp held m fd.type ((cs.drop fd.offset).take (P.cellsOf fd.type)) = some y := fun fd hfd => by
            obtain ⟨i, hi, rfl⟩ := List.getElem_of_mem hfd
            have hi' : i < fs.size := by simpa using hi
            have := hel i fs[i] (by simp [hi'])
            rw [List.getElem?_eq_getElem (by omega)] at this
            exact ⟨_, by simpa using this⟩
          obtain ⟨ces, h1, h2⟩ := fields_cells (cs := cs) hok (fun t cts ds y hg hy => trod_cells hok f m t cts ds y hg hy) fs.toList 0 l hl hff (by omega)
          exact ⟨ces, by simpa using h1, h2⟩
        · cases h
      · cases h
    · cases h
/-- A struct among the arguments. -/
theorem open_struct {b0 : Nat} (hok : ∀ b, b < W.heap.size → ok b) {t : TypeId} {v : Value} {d : DataW H} {ps : List MemPlace} {fs : Array Field} {f : Nat} {cts : List CT} (ht : P.underlying t = some (.struct fs)) (hc : ctOf P f t = some cts) (hval : Value.okWide P W .any b0 t v) (h : DataW.Trod enc P W base sp held t v d ps) : ∃ ces, RP (enA W ok) (.a ces) v ∧ All2 CtIs cts ces := by
  obtain ⟨vs, rfl, _⟩ := WideShapes.okWide_struct ht hval
  obtain ⟨n, hd⟩ := h
  obtain ⟨ces, h1, h2⟩ := trod_cells hok f n t cts _ _ hc hd
  exact ⟨ces, ⟨vs, rfl, h1⟩, h2⟩
/-- Words among the arguments. -/
theorem open_words {b0 : Nat} (hok : ∀ b, b < W.heap.size → ok b) {t e : TypeId} {v : Value} {d : DataW H} {ps : List MemPlace} (ht : P.underlying t = some (.slice e)) (he : P.underlying e = some (.int .u64)) (hc : P.cellsOf e = 1) (hval : Value.okWide P W .any b0 t v) (h : DataW.Trod enc P W base sp held t v d ps) : ∃ l, RP (enA W ok) (.c (.w false l)) v ∧ Ws l := by
  obtain ⟨a, len, cap, rfl⟩ := WideShapes.okWide_slice ht hval
  obtain ⟨n, hd⟩ := h
  obtain ⟨l, h1, v, h2, h3⟩ := words_cell (ok := ok) hok ht he hc hd
  simp only [Value.cells, List.cons.injEq, and_true] at h2
  subst h2
  exact ⟨l, h3, h1⟩
/-- Structs among the arguments, in a slice. -/
theorem open_structs {b0 : Nat} (hok : ∀ b, b < W.heap.size → ok b) {t e : TypeId} {v : Value} {d : DataW H} {ps : List MemPlace} {f : Nat} {cts : List CT} (ht : P.underlying t = some (.slice e)) (hc : ctOf P f e = some cts) (hn : P.cellsOf e = cts.length) (hpos : 0 < cts.length) (hval : Value.okWide P W .any b0 t v) (h : DataW.Trod enc P W base sp held t v d ps) : ∃ rows, RP (enA W ok) (.s false rows) v ∧ ∀ r ∈ rows, All2 CtIs cts r := by
  obtain ⟨a, len, cap, rfl⟩ := WideShapes.okWide_slice ht hval
  obtain ⟨fu, hd⟩ := h
  rcases DataW.trod_slice ht hd with ⟨hcs, _⟩ | ⟨ad, len', cap', elems, rest, n, _, hcs, _, _, hl, hm, hlen, hel, _⟩
  · simp [Value.cells] at hcs
    obtain ⟨rfl, rfl, rfl⟩ := hcs
    exact ⟨[], ⟨none, 0, 0, rfl, Nat.le_refl _, fun i cs hi => by simp at hi⟩, fun r hr => by cases hr⟩
  · simp [Value.cells] at hcs
    obtain ⟨rfl, rfl, rfl⟩ := hcs
    have key : ∀ i, ∃ ces : List Ce, i < len → (∃ vs, All2 (RC (enA W ok)) ces vs ∧ At W (ad.add (i * cts.length)) vs ∧ ad.block < W.heap.size) ∧ All2 CtIs cts ces := fun i => by
      by_cases hi : i < len
      · have h1 := hel i hi
        rw [List.getElem?_eq_getElem (by omega)] at h1
        obtain ⟨vs, h2, h3⟩ := Option.bind_eq_some_iff.1 h1
        obtain ⟨ces, h4, h5⟩ := trod_cells (ok := ok) hok f n e cts vs _ hc h3
        refine ⟨ces, fun _ => ⟨⟨vs, h4, ?_⟩, h5⟩⟩
        unfold World.cells? at h2
        split at h2
        · have hAt : At W (ad.add (i * cts.length)) vs := fun q u hq => by
            rw [hn] at h2
            have hlen2 : vs.length = cts.length := by rw [← h4.length, ← h5.length]
            have hql : q < cts.length := by rw [← hlen2]; exact (List.getElem?_eq_some_iff.1 hq).1
            have := mapM_some_get h2 q q (by simp [hql])
            rw [hq] at this; exact this
          refine ⟨hAt, ?_⟩
          have hv0 : 0 < vs.length := by rw [← h4.length, ← h5.length]; exact hpos
          have := hAt 0 vs[0] (List.getElem?_eq_getElem hv0)
          have := World.block_lt_of_cell? W _ this
          rwa [add_block, add_block] at this
        · cases h2
      · exact ⟨[], fun h => absurd h hi⟩
    obtain ⟨F, hF⟩ := Classical.skolem.1 key
    refine ⟨(List.range len).map F, ⟨some ad, cap, cts.length, by simp, by simpa using hl, fun i cs hi => ?_⟩, fun r hr => ?_⟩
    · rw [List.getElem?_map] at hi
      by_cases hil : i < len
      · rw [List.getElem?_range hil] at hi
        simp only [Option.map_some, Option.some.injEq] at hi; subst hi
        obtain ⟨⟨vs, g1, g2, g3⟩, g4⟩ := hF i hil
        refine ⟨g4.length.symm, ad, rfl, hok _ g3, (fun e => by cases e), vs, ⟨fun c hc => ?_, g1⟩, g2⟩
        have : ∀ {a : List CT} {b : List Ce}, All2 CtIs a b → ∀ c ∈ b, c.pure = true := fun {a b} h => by
          induction h with
          | nil => intro c hc; cases hc
          | @cons x y az bs hxy _ ih =>
            intro c hc
            rcases List.mem_cons.1 hc with rfl | hc
            · cases x with
              | i k => obtain ⟨_, rfl, _⟩ := hxy; rfl
              | n => obtain ⟨_, rfl, _⟩ := hxy; rfl
              | b => obtain ⟨_, rfl⟩ := hxy; rfl
              | w => obtain ⟨_, rfl, _⟩ := hxy; rfl
            · exact ih c hc
        exact this g4 c hc
      · rw [List.getElem?_eq_none (by simpa using hil)] at hi; simp at hi
    · obtain ⟨i, hi, rfl⟩ := List.mem_map.1 hr
      exact (hF i (List.mem_range.1 hi)).2
end
end Go.Proofs.YtdaecibpkhcllaaDoor
/- The law SumLarge. No condition. -/
namespace Go.Proofs.YtdaecibpkhcllaaDoor
set_option linter.unusedVariables false
set_option linter.unusedSimpArgs false
set_option maxHeartbeats 4000000
set_option maxRecDepth 10000
/-- Arguments that say more. -/
theorem Does.weak {P : Program} {G : Gl} {f : FuncId} {args args' : List PV} {ret : TV} (h : Does P G f args ret) (hle : All2 PLe args' args) : Does P G f args' ret := by
  intro W ok vals hok hgl hargs
  refine h W ok vals hok hgl ?_
  clear h
  induction hle generalizing vals with
  | nil => exact hargs
  | cons h _ ih =>
    obtain ⟨v, vs, rfl, g1, g2⟩ := hargs.cons_iff
    exact .cons (h _ _ g1) (ih vs g2)
theorem longW_len (m : List Nat) : (longW m).length = 4097 := by
  unfold longW; rw [List.length_append, List.length_take, List.length_replicate]; omega
theorem longW_ws {m : List Nat} (h : Ws m) : Ws (longW m) := fun w hw => by
  rcases List.mem_append.1 hw with hw | hw
  · exact h w (List.mem_of_mem_take hw)
  · have := List.eq_of_mem_replicate hw; omega
theorem argsE_large {f p r : Int} {b : Bool} {l : List Fla} (h : anyLarge l = true) : argsE f p r b l = 2 := by rw [argsE, if_pos h]
theorem Fits_none {k e : Int} {n : Bool} {m : List Nat} {fl w : Int} (hk : k = 0 ∧ n = false ∧ e = 0 ∧ m = []) (hw : w ≠ 0) (er : Int) : Does Tryd.prog Gv 16 [Fl k n e m, .c (.i .i64 0), .c (.i .i64 er), .a [.i .i64 0, .b false, .i .i64 0, .z], .c (.i .i64 fl), .c (.i .i64 w)] (.v (.c (.b (er == w)))) := by
  obtain ⟨rfl, rfl, rfl, rfl⟩ := hk
  have h := @Fits_does Gv ⟨0, false, 0, []⟩ ⟨0, false, 0, []⟩ 0 er fl w (by simp) (by simp [Ws]) (by simp) (by simp [Ws]) (by constructor <;> simp)
  rw [show fitsP ⟨0, false, 0, []⟩ 0 er ⟨0, false, 0, []⟩ fl w = (er == w) by simp [fitsP, hw]] at h
  exact h.weak (.cons (PLe.refl _) (.cons (PLe.refl _) (.cons (PLe.refl _) (.cons (PLe.flt (PLe.z false)) (.cons (PLe.refl _) (.cons (PLe.refl _) .nil))))))
theorem SumLarge_does {f p r : Int} {x y : Fla} (hx : Ws x.m) (ex : I64 x.e) (hy : Ws y.m) (ey : I64 y.e) : Does Tryd.prog Gv 5 [Fm f p, .c (.i .i64 r), Fl x.k x.n x.e x.m, Fl y.k y.n y.e y.m] (.v (.c (.b true))) := by
  have hS : Does Tryd.prog Gv 6 [.s false [x.cs, y.cs]] (.v (.c (.b (shortP [x, y])))) := Short15_does (l := [x, y]) (by simp)
  cases hs : shortP [x, y] with
  | false =>
    rw [hs] at hS
    refine Does.of (nt := 120) Tryd.func5 rfl rfl rfl (by simp) ?_
    simp only [argTm, PV.ext, Ce.ext]
    refine Do.seqk fun _ k1_ => ?_
    refine Do.region [1,4,6,7] true ?_
    simp [go_sem]
    apply k1_; clear k1_
    refine Do.seqk fun _ k2_ => ?_
    refine Do.seqk fun _ k3_ => ?_
    refine Do.region [1,4,6,7,28] true ?_
    simp [go_sem]
    repeat (refine And.intro (by first | omega | (intros; omega) | (intros; exact And.intro (by assumption) (by omega)) | grind) ?_)
    refine DoL.sealS true 103 102 rfl ?_
    simp [go_sem]
    refine DoL.call true 104 rfl rfl rfl rfl (by first | exact trivial | omega | (simp; done) | (simp; omega)) (hS) rfl (by first | exact .inl rfl | exact .inr rfl) rfl ?_
    simp [go_sem]
    repeat (refine And.intro (by first | omega | (intros; omega) | (intros; exact And.intro (by assumption) (by omega)) | grind) ?_)
    apply k3_; clear k3_
    refine Do.cond [1,4,6,7] rfl (fun h => ?_) (fun h => ?_) <;> simp [go_sem] at h ⊢
    refine Do.seqk fun _ k4_ => ?_
    refine Do.region [8] true ?_
    simp [go_sem]
    refine DoL.call true 201 rfl rfl rfl rfl (by first | exact trivial | omega | (simp; done) | (simp; omega)) (awake_does) rfl (by first | exact .inl rfl | exact .inr rfl) rfl ?_
    simp [go_sem]
    apply k4_; clear k4_
    refine Do.ret ?_
    simp [endQ, rets, ret1, go_sem]
    repeat (refine And.intro (by first | omega | (intros; omega) | (intros; exact And.intro (by assumption) (by omega)) | grind) ?_)
    exact TLe.refl _
  | true =>
    rw [hs] at hS
    have hsx : x.m.length ≤ 40 ∧ y.m.length ≤ 40 := by simpa [shortP] using hs
    obtain ⟨z, hz⟩ : ∃ z : Fla, z = ⟨y.k, y.n, y.e, longW y.m⟩ := ⟨_, rfl⟩
    have ox : x.Ok := ⟨by simp [Sh]; omega, hx, ex⟩
    have oz : z.Ok := by subst hz; exact ⟨by simp [Sh, longW_len], longW_ws hy, ey⟩
    have hzl : z.m.length = 4097 := by subst hz; exact longW_len _
    have l1 : anyLarge [x, z] = true := by simp [anyLarge, hzl]
    have l2 : anyLarge [z, x] = true := by simp [anyLarge, hzl]
    have l3 : anyLarge [x, x, z] = true := by simp [anyLarge, hzl]
    have hL : Does Tryd.prog Gv 13 [Fl y.k y.n y.e y.m] (.v (.a [.i .i64 z.k, .b z.n, .i .i64 z.e, .w true z.m])) := by subst hz; exact Long_does (by simp [Sh]; omega)
    have h1 := SAdd_does (f := f) (p := p) (r := r) ox oz
    have h2 := SSub_does (f := f) (p := p) (r := r) oz ox
    have h3 := Total_does (f := f) (p := p) (r := r) (l := [x, x, z]) (by simp) (by simp [ox, oz])
    have h4 := Pair_err (f := f) (p := p) ox oz (by rw [argsE_large l1]; decide)
    have h5 := Expand_err (f := f) (p := p) (l := [z, x]) (by simp) (by simp [ox, oz]) (by rw [argsE_large l2]; decide)
    have t1 : totalP f p r [x, z] = (⟨0, false, 0, 0⟩, 0, 2) := by rw [totalP, argsE_large l1]; rfl
    have t2 : subP f p r z x = (⟨0, false, 0, 0⟩, 0, 2) := by rw [subP, argsE_large l2]; rfl
    have t3 : totalP f p r [x, x, z] = (⟨0, false, 0, 0⟩, 0, 2) := by rw [totalP, argsE_large l3]; rfl
    rw [t1] at h1
    rw [t2] at h2
    rw [t3] at h3
    rw [argsE_large l1] at h4
    rw [argsE_large l2] at h5
    have h1 : Does Tryd.prog Gv 10 [Fm f p, .c (.i .i64 r), Fl x.k x.n x.e x.m, Fl z.k z.n z.e z.m] (.t [Fl 0 false 0 (nat 0), .c (.i .i64 0), .c (.i .i64 2)]) := h1
    have h2 : Does Tryd.prog Gv 12 [Fm f p, .c (.i .i64 r), Fl z.k z.n z.e z.m, Fl x.k x.n x.e x.m] (.t [Fl 0 false 0 (nat 0), .c (.i .i64 0), .c (.i .i64 2)]) := h2
    have h3 : Does Tryd.prog Gv 8 [Fm f p, .c (.i .i64 r), .s false [x.cs, x.cs, z.cs]] (.t [Fl 0 false 0 (nat 0), .c (.i .i64 0), .c (.i .i64 2)]) := h3
    have h4 : Does Tryd.prog Gv 14 [Fm f p, Fl x.k x.n x.e x.m, Fl z.k z.n z.e z.m] (.t [Fl 0 false 0 (nat 0), Fl 0 false 0 (nat 0), .c (.i .i64 2)]) := h4
    have h5 : Does Tryd.prog Gv 15 [Fm f p, .s false [z.cs, x.cs]] (.t [.c .z, .c (.i .i64 2)]) := h5
    rw [nat_zero] at h1 h2 h3 h4
    have hF := @Fits_none 0 0 false [] 0 2 ⟨rfl, rfl, rfl, rfl⟩ (by decide) 2
    have hN := @None_does Gv 0 0 false [] (by simp [Sh])
    refine Does.of (nt := 120) Tryd.func5 rfl rfl rfl (by simp) ?_
    simp only [argTm, PV.ext, Ce.ext]
    refine Do.seqk fun _ k1_ => ?_
    refine Do.region [1,4,6,7] true ?_
    simp [go_sem]
    apply k1_; clear k1_
    refine Do.seqk fun _ k2_ => ?_
    refine Do.seqk fun _ k3_ => ?_
    refine Do.region [1,4,6,7,28] true ?_
    simp [go_sem]
    repeat (refine And.intro (by first | omega | (intros; omega) | (intros; exact And.intro (by assumption) (by omega)) | grind) ?_)
    refine DoL.sealS true 103 102 rfl ?_
    simp [go_sem]
    refine DoL.call true 104 rfl rfl rfl rfl (by first | exact trivial | omega | (simp; done) | (simp; omega)) (hS) rfl (by first | exact .inl rfl | exact .inr rfl) rfl ?_
    simp [go_sem]
    repeat (refine And.intro (by first | omega | (intros; omega) | (intros; exact And.intro (by assumption) (by omega)) | grind) ?_)
    apply k3_; clear k3_
    refine Do.cond [1,4,6,7] rfl (fun h => ?_) (fun h => ?_) <;> simp [go_sem] at h ⊢
    refine Do.skip ?_
    simp [go_sem]
    apply k2_; clear k2_
    refine Do.seqk fun _ k4_ => ?_
    refine Do.region [1,4,6,9] true ?_
    simp [go_sem]
    repeat (refine And.intro (by first | omega | (intros; omega) | (intros; exact And.intro (by assumption) (by omega)) | grind) ?_)
    refine DoL.call true 302 rfl rfl rfl rfl (by first | exact trivial | omega | (simp; done) | (simp; omega)) (hL) rfl (by first | exact .inl rfl | exact .inr rfl) rfl ?_
    simp [go_sem]
    repeat (refine And.intro (by first | omega | (intros; omega) | (intros; exact And.intro (by assumption) (by omega)) | grind) ?_)
    apply k4_; clear k4_
    refine Do.seqk fun _ k5_ => ?_
    refine Do.region [1,4,6,9,10,11,12] true ?_
    simp [go_sem]
    repeat (refine And.intro (by first | omega | (intros; omega) | (intros; exact And.intro (by assumption) (by omega)) | grind) ?_)
    refine DoL.call true 405 rfl rfl rfl rfl (by first | exact trivial | omega | (simp; done) | (simp; omega)) (h1) rfl (by first | exact .inl rfl | exact .inr rfl) rfl ?_
    simp [go_sem]
    repeat (refine And.intro (by first | omega | (intros; omega) | (intros; exact And.intro (by assumption) (by omega)) | grind) ?_)
    apply k5_; clear k5_
    refine Do.seqk fun _ k6_ => ?_
    refine Do.region [1,4,6,9,10,11,12,13,14,15] true ?_
    simp [go_sem]
    repeat (refine And.intro (by first | omega | (intros; omega) | (intros; exact And.intro (by assumption) (by omega)) | grind) ?_)
    refine DoL.call true 505 rfl rfl rfl rfl (by first | exact trivial | omega | (simp; done) | (simp; omega)) (h2) rfl (by first | exact .inl rfl | exact .inr rfl) rfl ?_
    simp [go_sem]
    repeat (refine And.intro (by first | omega | (intros; omega) | (intros; exact And.intro (by assumption) (by omega)) | grind) ?_)
    apply k6_; clear k6_
    refine Do.seqk fun _ k7_ => ?_
    refine Do.region [4,6,9,10,11,12,13,14,15,16,17,18] true ?_
    simp [go_sem]
    repeat (refine And.intro (by first | omega | (intros; omega) | (intros; exact And.intro (by assumption) (by omega)) | grind) ?_)
    refine DoL.sealS true 606 605 rfl ?_
    simp [go_sem]
    refine DoL.call true 607 rfl rfl rfl rfl (by first | exact trivial | omega | (simp; done) | (simp; omega)) (h3) rfl (by first | exact .inl rfl | exact .inr rfl) rfl ?_
    simp [go_sem]
    repeat (refine And.intro (by first | omega | (intros; omega) | (intros; exact And.intro (by assumption) (by omega)) | grind) ?_)
    apply k7_; clear k7_
    refine Do.seqk fun _ k8_ => ?_
    refine Do.region [4,6,9,10,11,12,13,14,15,16,17,18,19,20,21] true ?_
    simp [go_sem]
    repeat (refine And.intro (by first | omega | (intros; omega) | (intros; exact And.intro (by assumption) (by omega)) | grind) ?_)
    refine DoL.call true 704 rfl rfl rfl rfl (by first | exact trivial | omega | (simp; done) | (simp; omega)) (h4) rfl (by first | exact .inl rfl | exact .inr rfl) rfl ?_
    simp [go_sem]
    repeat (refine And.intro (by first | omega | (intros; omega) | (intros; exact And.intro (by assumption) (by omega)) | grind) ?_)
    apply k8_; clear k8_
    refine Do.seqk fun _ k9_ => ?_
    refine Do.region [10,11,12,13,14,15,16,17,18,19,20,21,22,23] true ?_
    simp [go_sem]
    repeat (refine And.intro (by first | omega | (intros; omega) | (intros; exact And.intro (by assumption) (by omega)) | grind) ?_)
    refine DoL.sealS true 804 803 rfl ?_
    simp [go_sem]
    refine DoL.call true 805 rfl rfl rfl rfl (by first | exact trivial | omega | (simp; done) | (simp; omega)) (h5) rfl (by first | exact .inl rfl | exact .inr rfl) rfl ?_
    simp [go_sem]
    apply k9_; clear k9_
    refine Do.seqk fun _ k10_ => ?_
    refine Do.region [8] true ?_
    simp [go_sem]
    repeat (refine And.intro (by first | omega | (intros; omega) | (intros; exact And.intro (by assumption) (by omega)) | grind) ?_)
    refine DoL.call true 905 rfl rfl rfl rfl (by first | exact trivial | omega | (simp; done) | (simp; omega)) (hF) rfl (by first | exact .inl rfl | exact .inr rfl) rfl ?_
    simp [go_sem]
    repeat (refine And.intro (by first | omega | (intros; omega) | (intros; exact And.intro (by assumption) (by omega)) | grind) ?_)
    refine DoL.callg true 911 rfl rfl rfl rfl rfl (by simp [go_sem] <;> omega) (fun _ => hF) rfl (by first | exact .inl rfl | exact .inr rfl) rfl ?_
    simp [go_sem]
    repeat (refine And.intro (by first | omega | (intros; omega) | (intros; exact And.intro (by assumption) (by omega)) | grind) ?_)
    refine DoL.callg true 918 rfl rfl rfl rfl rfl (by simp [go_sem] <;> omega) (fun _ => hF) rfl (by first | exact .inl rfl | exact .inr rfl) rfl ?_
    simp [go_sem]
    repeat (refine And.intro (by first | omega | (intros; omega) | (intros; exact And.intro (by assumption) (by omega)) | grind) ?_)
    refine DoL.callg true 926 rfl rfl rfl rfl rfl (by simp [go_sem] <;> omega) (fun _ => hN) rfl (by first | exact .inl rfl | exact .inr rfl) rfl ?_
    simp [go_sem]
    repeat (refine And.intro (by first | omega | (intros; omega) | (intros; exact And.intro (by assumption) (by omega)) | grind) ?_)
    refine DoL.callg true 930 rfl rfl rfl rfl rfl (by simp [go_sem] <;> omega) (fun _ => hN) rfl (by first | exact .inl rfl | exact .inr rfl) rfl ?_
    simp [go_sem]
    repeat (refine And.intro (by first | omega | (intros; omega) | (intros; exact And.intro (by assumption) (by omega)) | grind) ?_)
    refine DoL.callg true 942 rfl rfl rfl rfl rfl (by simp [go_sem] <;> omega) (fun _ => awake_does) rfl (by first | exact .inl rfl | exact .inr rfl) rfl ?_
    simp [go_sem]
    apply k10_; clear k10_
    refine Do.ret ?_
    simp [endQ, rets, ret1, go_sem]
    repeat (refine And.intro (by first | omega | (intros; omega) | (intros; exact And.intro (by assumption) (by omega)) | grind) ?_)
    exact TLe.refl _
end Go.Proofs.YtdaecibpkhcllaaDoor
/- The law SumSelf. No condition. -/
namespace Go.Proofs.YtdaecibpkhcllaaDoor
set_option linter.unusedVariables false
set_option linter.unusedSimpArgs false
set_option maxHeartbeats 4000000
set_option maxRecDepth 10000
theorem argsE_two {f p r : Int} {x : Fla} (h : argsE f p r false [x] = 0) : argsE f p r false [x, x] = 0 := by
  have e1 : anyLarge [x, x] = anyLarge [x] := by simp [anyLarge]
  have e2 : allHold f p [x, x] = allHold f p [x] := by simp [allHold]
  rw [argsE, e1, e2]
  exact h
theorem held_one {f p : Int} {x : Flt} (h : (holdsP f p x).2 = true) (hk : x.k = 1) : (holdsP f p x).1.k = 1 := by
  have hc : (canon x).2 = true → (canon x).1.k = 1 := by
    unfold canon
    simp only [hk]
    simp
    split
    · simp
    · simp
  unfold holdsP at *
  split at h
  · rw [if_pos (by assumption)]; exact hc h
  · rename_i g
    rw [if_neg g]
    simp only [not_or, Bool.not_eq_false, Decidable.not_not] at g
    exact g.2
theorem Nu.plus_neg (n : Bool) (v : Nat) (e : Int) : (Nu.plus ⟨n, v, e⟩ ⟨!n, v, e⟩).v = 0 := by
  unfold Nu.plus
  by_cases h : v = 0
  · simp [h]
  · simp [h]
theorem gather_self {a : Flt} (h : a.k = 1) (f p r : Int) : (gatherP [a, a.neg]).float f p r = (⟨0, r == 4, 0, 0⟩, 0) := by
  obtain ⟨k, n, e, v⟩ := a
  subst h
  have h1 : ((Nu.mk false 0 0).plus ⟨n, v, e⟩) = ⟨n, v, e⟩ := by simp [Nu.plus]
  have h2 := Nu.plus_neg n v e
  simp [gatherP, Ga.put, Ga.zero, Flt.neg, h1, Ga.float, Nu.round, h2]
theorem subP_self {f p r : Int} {x : Fla} (h : argsE f p r false [x] = 0) (hk : x.k = 1) : subP f p r x x = (⟨0, r == 4, 0, 0⟩, 0, 0) := by
  have ha := (argsE_zero h).2.2.2.2.2
  have hh : (holdsP f p x.flt).2 = true := by simpa [allHold] using ha
  rw [subP, if_pos (argsE_two h), gather_self (held_one hh hk)]
theorem SumSelf_does {f p r : Int} {x : Fla} (hx : Ws x.m) (ex : I64 x.e) : Does Tryd.prog Gv 4 [Fm f p, .c (.i .i64 r), Fl x.k x.n x.e x.m] (.v (.c (.b true))) := by
  have hS : Does Tryd.prog Gv 6 [.s false [x.cs]] (.v (.c (.b (shortP [x])))) := Short15_does (l := [x]) (by simp)
  cases hs : shortP [x] with
  | false =>
    rw [hs] at hS
    refine Does.of (nt := 58) Tryd.func4 rfl rfl rfl (by simp) ?_
    simp only [argTm, PV.ext, Ce.ext]
    refine Do.seqk fun _ k1_ => ?_
    refine Do.region [1,3,5] true ?_
    simp [go_sem]
    apply k1_; clear k1_
    refine Do.seqk fun _ k2_ => ?_
    refine Do.seqk fun _ k3_ => ?_
    refine Do.region [1,3,5,26] true ?_
    simp [go_sem]
    repeat (refine And.intro (by first | omega | (intros; omega) | (intros; exact And.intro (by assumption) (by omega)) | grind) ?_)
    refine DoL.sealS true 102 101 rfl ?_
    simp [go_sem]
    refine DoL.call true 103 rfl rfl rfl rfl (by first | exact trivial | omega | (simp; done) | (simp; omega)) (hS) rfl (by first | exact .inl rfl | exact .inr rfl) rfl ?_
    simp [go_sem]
    repeat (refine And.intro (by first | omega | (intros; omega) | (intros; exact And.intro (by assumption) (by omega)) | grind) ?_)
    refine DoL.gOff true 109 rfl rfl (.v (.s true [x.cs])) rfl ?_
    simp [go_sem]
    refine DoL.gOff true 110 rfl rfl (.int .i64 0) rfl ?_
    simp [go_sem]
    repeat (refine And.intro (by first | omega | (intros; omega) | (intros; exact And.intro (by assumption) (by omega)) | grind) ?_)
    apply k3_; clear k3_
    refine Do.cond [1,3,5] rfl (fun h => ?_) (fun h => ?_) <;> simp [go_sem] at h ⊢
    refine Do.seqk fun _ k4_ => ?_
    refine Do.region [6] true ?_
    simp [go_sem]
    refine DoL.call true 201 rfl rfl rfl rfl (by first | exact trivial | omega | (simp; done) | (simp; omega)) (awake_does) rfl (by first | exact .inl rfl | exact .inr rfl) rfl ?_
    simp [go_sem]
    apply k4_; clear k4_
    refine Do.ret ?_
    simp [endQ, rets, ret1, go_sem]
    repeat (refine And.intro (by first | omega | (intros; omega) | (intros; exact And.intro (by assumption) (by omega)) | grind) ?_)
    exact TLe.refl _
  | true =>
    rw [hs] at hS
    have hsx : x.m.length ≤ 40 := by simpa [shortP] using hs
    have ox : x.Ok := ⟨by simp [Sh]; omega, hx, ex⟩
    have hA : Does Tryd.prog Gv 11 [Fm f p, .c (.i .i64 r), .s false [x.cs]] (.int .i64 (argsE f p r false [x])) := KArgs_does (l := [x]) (by simp) (by simp [ox])
    have hB := SSub_does (f := f) (p := p) (r := r) ox ox
    have hz := @subP_self f p r x
    generalize argsE f p r false [x] = ae at *
    refine Does.of (nt := 58) Tryd.func4 rfl rfl rfl (by simp) ?_
    simp only [argTm, PV.ext, Ce.ext]
    refine Do.seqk fun _ k1_ => ?_
    refine Do.region [1,3,5] true ?_
    simp [go_sem]
    apply k1_; clear k1_
    refine Do.seqk fun _ k2_ => ?_
    refine Do.seqk fun _ k3_ => ?_
    refine Do.region [1,3,5,26] true ?_
    simp [go_sem]
    repeat (refine And.intro (by first | omega | (intros; omega) | (intros; exact And.intro (by assumption) (by omega)) | grind) ?_)
    refine DoL.sealS true 102 101 rfl ?_
    simp [go_sem]
    refine DoL.call true 103 rfl rfl rfl rfl (by first | exact trivial | omega | (simp; done) | (simp; omega)) (hS) rfl (by first | exact .inl rfl | exact .inr rfl) rfl ?_
    simp [go_sem]
    repeat (refine And.intro (by first | omega | (intros; omega) | (intros; exact And.intro (by assumption) (by omega)) | grind) ?_)
    refine DoL.gOn true 109 rfl rfl [15, 16, 17] (by simp [go_sem]) ?_
    simp [go_sem]
    refine DoL.sealS true 110 109 rfl ?_
    simp [go_sem]
    refine DoL.callg true 110 rfl rfl rfl rfl rfl (by simp [go_sem] <;> omega) (fun _ => hA) rfl (by first | exact .inl rfl | exact .inr rfl) rfl ?_
    simp [go_sem]
    repeat (refine And.intro (by first | omega | (intros; omega) | (intros; exact And.intro (by assumption) (by omega)) | grind) ?_)
    apply k3_; clear k3_
    refine Do.cond [1,3,5] rfl (fun h => ?_) (fun h => ?_) <;> simp [go_sem] at h ⊢
    · refine Do.seqk fun _ k4_ => ?_
      refine Do.region [6] true ?_
      simp [go_sem]
      refine DoL.call true 201 rfl rfl rfl rfl (by first | exact trivial | omega | (simp; done) | (simp; omega)) (awake_does) rfl (by first | exact .inl rfl | exact .inr rfl) rfl ?_
      simp [go_sem]
      apply k4_; clear k4_
      refine Do.ret ?_
      simp [endQ, rets, ret1, go_sem]
      repeat (refine And.intro (by first | omega | (intros; omega) | (intros; exact And.intro (by assumption) (by omega)) | grind) ?_)
      exact TLe.refl _
    · have h1 : ae = 0 ∧ x.k = 1 := by omega
      have h2 := hz h1.1 h1.2
      rw [h2] at hB
      have hB : Does Tryd.prog Gv 12 [Fm f p, .c (.i .i64 r), Fl x.k x.n x.e x.m, Fl x.k x.n x.e x.m] (.t [Fl 0 (r == 4) 0 (nat 0), .c (.i .i64 0), .c (.i .i64 0)]) := hB
      refine Do.skip ?_
      simp [go_sem]
      apply k2_; clear k2_
      refine Do.seqk fun _ k5_ => ?_
      refine Do.region [1,7,8,9] true ?_
      simp [go_sem]
      repeat (refine And.intro (by first | omega | (intros; omega) | (intros; exact And.intro (by assumption) (by omega)) | grind) ?_)
      refine DoL.call true 305 rfl rfl rfl rfl (by first | exact trivial | omega | (simp; done) | (simp; omega)) (hB) rfl (by first | exact .inl rfl | exact .inr rfl) rfl ?_
      simp [go_sem]
      repeat (refine And.intro (by first | omega | (intros; omega) | (intros; exact And.intro (by assumption) (by omega)) | grind) ?_)
      apply k5_; clear k5_
      refine Do.seqk fun _ k6_ => ?_
      refine Do.region [6] true ?_
      simp [go_sem]
      repeat (refine And.intro (by first | omega | (intros; omega) | (intros; exact And.intro (by assumption) (by omega)) | grind) ?_)
      refine DoL.callg true 420 rfl rfl rfl rfl rfl (by simp [go_sem] <;> omega) (fun _ => awake_does) rfl (by first | exact .inl rfl | exact .inr rfl) rfl ?_
      simp [go_sem]
      apply k6_; clear k6_
      refine Do.ret ?_
      simp [endQ, rets, ret1, go_sem]
      repeat (refine And.intro (by first | omega | (intros; omega) | (intros; exact And.intro (by assumption) (by omega)) | grind) ?_)
      exact TLe.refl _
end Go.Proofs.YtdaecibpkhcllaaDoor
/- The order of a sum's terms; a rounded result is canonical. No condition. -/
namespace Go.Proofs.YtdaecibpkhcllaaDoor
set_option linter.unusedVariables false
set_option linter.unusedSimpArgs false
/-- The signed value over a low exponent. -/
def Nu.sv (z : Int) (x : Nu) : Int := if x.n then -((x.v * 2 ^ (x.e - z).toNat : Nat) : Int) else ((x.v * 2 ^ (x.e - z).toNat : Nat) : Int)
theorem pow_split {a b c : Int} (h1 : a ≤ b) (h2 : b ≤ c) : 2 ^ (c - a).toNat = 2 ^ (c - b).toNat * 2 ^ (b - a).toNat := by
  rw [← Nat.pow_add]; congr 1; omega
theorem Nu.plus_sv {z : Int} {a b : Nu} (ha : z ≤ a.e) (hb : z ≤ b.e) : (a.plus b).sv z = a.sv z + b.sv z ∧ z ≤ (a.plus b).e := by
  obtain ⟨n, v, e⟩ := a
  obtain ⟨n', v', e'⟩ := b
  simp only at ha hb
  unfold Nu.plus
  by_cases h0 : v = 0
  · subst h0; simp [Nu.sv, hb]
  · by_cases h1 : v' = 0
    · subst h1; simp [Nu.sv, h0, ha]
    · simp only [h0, h1, if_false]
      generalize hm : (if e' < e then e' else e) = m
      have hm1 : m ≤ e ∧ m ≤ e' ∧ z ≤ m := by split at hm <;> omega
      have e1 : v * 2 ^ (e - z).toNat = v * 2 ^ (e - m).toNat * 2 ^ (m - z).toNat := by rw [pow_split hm1.2.2 hm1.1, Nat.mul_assoc]
      have e2 : v' * 2 ^ (e' - z).toNat = v' * 2 ^ (e' - m).toNat * 2 ^ (m - z).toNat := by rw [pow_split hm1.2.2 hm1.2.1, Nat.mul_assoc]
      simp only [Nu.sv, e1, e2]
      generalize v * 2 ^ (e - m).toNat = x
      generalize v' * 2 ^ (e' - m).toNat = y
      obtain ⟨k, hk⟩ : ∃ k, 2 ^ (m - z).toNat = k := ⟨_, rfl⟩
      simp only [hk]
      have hp : (x + y) * k = x * k + y * k := Nat.add_mul x y k
      have hs : (x - y) * k = x * k - y * k := Nat.sub_mul x y k
      have hs' : (y - x) * k = y * k - x * k := Nat.sub_mul y x k
      have hle := fun h : y ≤ x => Nat.mul_le_mul_right k h
      have hle' := fun h : ¬ y ≤ x => Nat.mul_le_mul_right k (show x ≤ y by omega)
      generalize x * k = X at *
      generalize y * k = Y at *
      by_cases hyx : y ≤ x
      · have := hle hyx
        cases n <;> cases n' <;> simp only [hyx, if_true, if_false, hk, hp, hs, reduceCtorEq, Bool.false_eq_true] <;> omega
      · have := hle' hyx
        cases n <;> cases n' <;> simp only [hyx, if_true, if_false, hk, hp, hs', reduceCtorEq, Bool.false_eq_true] <;> omega
/-- The signed values of the finite terms, added. -/
def svs (z : Int) : List Flt → Int
  | [] => 0
  | x :: l => (if x.k = 1 then (⟨x.n, x.v, x.e⟩ : Nu).sv z else 0) + svs z l
theorem svs_append (z : Int) (l m : List Flt) : svs z (l ++ m) = svs z l + svs z m := by
  induction l with
  | nil => simp [svs]
  | cons x l ih => simp only [List.cons_append, svs, ih]; omega
theorem svs_reverse (z : Int) (l : List Flt) : svs z l.reverse = svs z l := by
  induction l with
  | nil => rfl
  | cons x l ih => rw [List.reverse_cons, svs_append, ih]; simp only [svs]; omega
/-- What holds of a sum of such terms. -/
structure GaIs (z : Int) (l : List Flt) (g : Ga) : Prop where
  sum : g.sum.sv z = svs z l
  low : z ≤ g.sum.e
  nan : g.nan = l.any fun x => x.k == 3
  inv : g.inv = false
  plus : g.plus = l.any fun x => x.k == 2 && !x.n
  minus : g.minus = l.any fun x => x.k == 2 && x.n
  seen : g.seen = l.any fun _ => true
  some_ : g.some_ = l.any fun x => x.k == 1 || (x.k != 2 && x.k != 3 && !x.n)
  other : g.other = l.any fun x => x.k == 1 || (x.k != 2 && x.k != 3 && x.n)
theorem GaIs.put {z : Int} {l : List Flt} {g : Ga} (h : GaIs z l g) {x : Flt} (hx : x.k = 1 → z ≤ x.e) : GaIs z (l ++ [x]) (g.put x.k ⟨x.n, x.v, x.e⟩) := by
  obtain ⟨h1, h2, h3, h4, h5, h6, h7, h8, h9⟩ := h
  obtain ⟨k, n, e, v⟩ := x
  simp only at hx
  unfold Ga.put
  by_cases k3 : k = 3
  · subst k3; constructor <;> simp_all [svs_append, svs]
  · by_cases k2 : k = 2
    · subst k2; constructor <;> simp_all [svs_append, svs]
    · by_cases k1 : k = 1
      · subst k1
        have := Nu.plus_sv h2 (b := ⟨n, v, e⟩) (hx rfl)
        constructor <;> simp_all [svs_append, svs]
      · have b1 : (k == 1) = false := by simp [k1]
        have b2 : (k == 2) = false := by simp [k2]
        have b3 : (k == 3) = false := by simp [k3]
        constructor <;> simp [svs_append, svs, bne, b1, b2, b3, k1, k2, k3, h1, h2, h3, h4, h5, h6, h7, h8, h9]
theorem gather_is {z : Int} (hz : z ≤ 0) {l : List Flt} (h : ∀ x ∈ l, x.k = 1 → z ≤ x.e) : GaIs z l (gatherP l) := by
  suffices H : ∀ i, GaIs z (l.take i) (gatherP (l.take i)) by have := H l.length; rwa [List.take_length] at this
  intro i
  induction i with
  | zero => constructor <;> simp [gatherP, Ga.zero, Nu.sv, svs, hz]
  | succ i ih =>
    cases hx : l[i]? with
    | none =>
      have hl : l.length ≤ i := List.getElem?_eq_none_iff.1 hx
      rw [List.take_of_length_le (by omega)] at ih ⊢
      exact ih
    | some x =>
      rw [gatherP_take hx, List.take_add_one, hx]
      exact ih.put (h x (List.mem_of_getElem? hx))
theorem cutP_scale (v k : Nat) (s : Int) : cutP (v * 2 ^ k) (s + k) false = cutP v s false := by
  unfold cutP
  by_cases h : s ≤ 0
  · rw [if_pos h]
    by_cases h' : s + k ≤ 0
    · rw [if_pos h', Nat.mul_assoc, ← Nat.pow_add, show k + (-(s + k)).toNat = (-s).toNat by omega]
    · rw [if_neg h']
      have e1 : v * 2 ^ k = v * 2 ^ (-s).toNat * 2 ^ (s + k).toNat := by rw [Nat.mul_assoc, ← Nat.pow_add, show (-s).toNat + (s + k).toNat = k by omega]
      have e2 : 2 ^ (s + k).toNat = 2 * 2 ^ (s + k - 1).toNat := by rw [show (s + k).toNat = (s + k - 1).toNat + 1 by omega, Nat.pow_succ']
      have hp : 0 < 2 ^ (s + k - 1).toNat := Nat.pow_pos (by decide)
      have e3 : v * 2 ^ k = v * 2 ^ (-s).toNat * 2 * 2 ^ (s + k - 1).toNat := by rw [e1, e2, Nat.mul_assoc, Nat.mul_assoc, Nat.mul_assoc]
      rw [e3, Nat.mul_mod_left, Nat.mul_div_cancel _ hp, ← e3, e1, Nat.mul_div_cancel _ (Nat.pow_pos (by decide))]
      simp
  · rw [if_neg h, if_neg (by omega)]
    have e1 : (s + k).toNat = s.toNat + k := by omega
    have e2 : (s + k - 1).toNat = (s - 1).toNat + k := by omega
    have hp : 0 < 2 ^ k := Nat.pow_pos (by decide)
    rw [e1, e2, Nat.pow_add, Nat.pow_add, Nat.mul_div_mul_right _ _ hp, Nat.mul_div_mul_right _ _ hp, Nat.mul_mod_mul_right]
    have : decide (v % 2 ^ (s - 1).toNat * 2 ^ k = 0) = decide (v % 2 ^ (s - 1).toNat = 0) := by
      congr 1
      simp only [Nat.mul_eq_zero, eq_iff_iff]
      exact ⟨fun h => h.resolve_right (by omega), .inl⟩
    rw [this]
theorem roundP_scale {f p r : Int} {n : Bool} {v : Nat} (k : Nat) {e : Int} (hv : 0 < v) : roundP f p r n (v * 2 ^ k) (e - k) false = roundP f p r n v e false := by
  unfold roundP
  rw [bl_mul_pow _ _ hv, show e - k + ((k + bl v : Nat) : Int) - 1 = e + bl v - 1 by omega]
  simp only [show ∀ u : Int, u - (e - k) = u - e + k from fun u => by omega, cutP_scale]
theorem Nu.round_sv {z : Int} {a b : Nu} (ha : z ≤ a.e) (hb : z ≤ b.e) (h : a.sv z = b.sv z) (f p r : Int) (q : Bool) : a.round f p r q = b.round f p r q := by
  obtain ⟨n, v, e⟩ := a
  obtain ⟨n', v', e'⟩ := b
  simp only at ha hb
  unfold Nu.sv at h
  unfold Nu.round
  simp only at h ⊢
  have p1 : 0 < 2 ^ (e - z).toNat := Nat.pow_pos (by decide)
  have p2 : 0 < 2 ^ (e' - z).toNat := Nat.pow_pos (by decide)
  have z1 : v * 2 ^ (e - z).toNat = 0 ↔ v = 0 := by rw [Nat.mul_eq_zero]; omega
  have z2 : v' * 2 ^ (e' - z).toNat = 0 ↔ v' = 0 := by rw [Nat.mul_eq_zero]; omega
  have s1 := fun hv => @roundP_scale f p r n v (e - z).toNat e hv
  have s2 := fun hv => @roundP_scale f p r n' v' (e' - z).toNat e' hv
  rw [show e - ((e - z).toNat : Int) = z by omega] at s1
  rw [show e' - ((e' - z).toNat : Int) = z by omega] at s2
  generalize v * 2 ^ (e - z).toNat = A at *
  generalize v' * 2 ^ (e' - z).toNat = B at *
  by_cases h0 : v = 0
  · have : v' = 0 := by rw [← z2]; have := z1.2 h0; cases n <;> cases n' <;> simp at h <;> omega
    rw [if_pos h0, if_pos this]
  · have hA : A ≠ 0 := fun h => h0 (z1.1 h)
    have : v' ≠ 0 := by intro h; have := z2.2 h; cases n <;> cases n' <;> simp at h <;> omega
    rw [if_neg h0, if_neg this, ← s1 (by omega), ← s2 (by omega)]
    have hB : B ≠ 0 := fun h => this (z2.1 h)
    cases n <;> cases n' <;> simp at h <;> first | omega | (obtain rfl : A = B := by omega
                                                            rfl)
theorem float_is {z : Int} {l m : List Flt} {g g' : Ga} (h : GaIs z l g) (h' : GaIs z m g') (hs : svs z l = svs z m) (hm : ∀ q : Flt → Bool, l.any q = m.any q) (f p r : Int) : g.float f p r = g'.float f p r := by
  unfold Ga.float
  rw [h.nan, h'.nan, h.inv, h'.inv, h.plus, h'.plus, h.minus, h'.minus, h.seen, h'.seen, h.some_, h'.some_, h.other, h'.other]
  simp only [hm]
  rw [Nu.round_sv h.low h'.low (by rw [h.sum, h'.sum, hs])]
theorem gather_reverse {z : Int} (hz : z ≤ 0) {l : List Flt} (h : ∀ x ∈ l, x.k = 1 → z ≤ x.e) (f p r : Int) : (gatherP l.reverse).float f p r = (gatherP l).float f p r :=
  float_is (gather_is hz fun x hx => h x (List.mem_reverse.1 hx)) (gather_is hz h) (svs_reverse z l) (fun q => List.any_reverse) f p r
theorem argsE_reverse {f p r : Int} {b : Bool} {l : List Fla} : argsE f p r b l.reverse = argsE f p r b l := by
  unfold argsE anyLarge allHold
  rw [List.any_reverse, List.all_reverse]
theorem totalP_reverse {f p r : Int} {l : List Fla} : totalP f p r l.reverse = totalP f p r l := by
  unfold totalP
  rw [List.length_reverse, argsE_reverse]
  split
  · rename_i h
    obtain ⟨h1, h2, h3, h4, h5, h6⟩ := argsE_zero h
    have hf := heldL_fine h5 h6
    have e : heldL f p l.reverse = (heldL f p l).reverse := by simp [heldL]
    rw [e, gather_reverse (z := -4194304) (by omega) (fun x hx hk => (hf x hx hk).1)]
  · rfl
/-- A result that Same and Is answer of. -/
structure Fine (x : Flt) : Prop where
  can : (canon x).2 = true
  v : bl x.v ≤ 100000
theorem fine_zero {n : Bool} : Fine ⟨0, n, 0, 0⟩ := ⟨rfl, (show bl 0 ≤ 100000 by decide)⟩
theorem fine_inf {n : Bool} : Fine ⟨2, n, 0, 0⟩ := ⟨rfl, (show bl 0 ≤ 100000 by decide)⟩
theorem fine_nan : Fine ⟨3, false, 0, 0⟩ := ⟨rfl, (show bl 0 ≤ 100000 by decide)⟩
theorem tz_lt_bl {q : Nat} (h : 0 < q) : tz q < bl q := by
  rw [bl_le]
  obtain ⟨m, hm⟩ := tz_form h
  conv => rhs; rw [hm]
  exact Nat.le_mul_of_pos_right _ (by omega)
theorem tz_rest {q : Nat} (h : 0 < q) : tz (q / 2 ^ tz q) = 0 := by
  obtain ⟨m, hm⟩ := tz_form h
  have : q / 2 ^ tz q = 2 * m + 1 := by
    conv => lhs; arg 1; rw [hm]
    exact Nat.mul_div_cancel_left _ (Nat.pow_pos (by decide))
  rw [this]
  exact tz_odd1 (by omega)
theorem fine_one {n : Bool} {v : Nat} {e : Int} (h1 : 0 < v) (h2 : tz v = 0) (h3 : -1048576 ≤ e) (h4 : e ≤ 1048576) (h5 : bl v ≤ 100000) : Fine ⟨1, n, e, v⟩ := by
  refine ⟨?_, h5⟩
  unfold canon
  simp only []
  rw [if_neg (by omega), if_neg (by omega), if_pos trivial, if_neg (by omega)]
  simp [h2]; omega
theorem mkP_fine {n : Bool} {q : Nat} {u : Int} (h1 : -1048576 ≤ u) (h2 : u + bl q ≤ 1048576) (h3 : bl q ≤ 100000) : Fine (mkP n q u) := by
  unfold mkP
  split
  · exact fine_zero
  · have hq : 0 < q := by omega
    have := tz_lt_bl hq
    have h := Nat.div_pos (Nat.le_of_lt_succ (Nat.lt_succ_of_le ((bl_le q (tz q)).1 this))) (Nat.pow_pos (n := tz q) (show 0 < 2 by decide))
    exact fine_one h (tz_rest hq) (by omega) (by omega) (Nat.le_trans (bl_mono (Nat.div_le_self _ _)) h3)
theorem roundP_fine {f p r : Int} (hf : fmOk f p = true) {n : Bool} {v : Nat} {e : Int} {st : Bool} : Fine (roundP f p r n v e st).1 := by
  obtain ⟨b1, b2, b3, b4⟩ := fmOk_spec hf
  obtain ⟨b5, b6⟩ := gOfE_le b1 b2
  unfold roundP
  simp only []
  have hu : 1 - gOfE f - (p - 1) ≤ stepP f p (e + bl v - 1) := by unfold stepP; split <;> omega
  generalize stepP f p (e + bl v - 1) = u at *
  generalize upP r n (cutP v (u - e) st).1 (cutP v (u - e) st).2 = q
  split
  · split
    · obtain ⟨m, hm⟩ : ∃ m, p.toNat = m + 1 := ⟨p.toNat - 1, by omega⟩
      have h2 : 2 ^ p.toNat = 2 * 2 ^ m := by rw [hm, Nat.pow_succ']
      have h3 : 0 < 2 ^ m := Nat.pow_pos (by decide)
      refine fine_one (by omega) (tz_odd1 (by omega)) (by simp only [gOfE] at *; omega) (by omega) ?_
      have : bl (2 ^ p.toNat - 1) ≤ p.toNat := (bl_lt _ _).2 (by omega)
      omega
    · exact fine_inf
  · exact mkP_fine (by omega) (by omega) (by omega)
theorem float_fine {f p r : Int} (hf : fmOk f p = true) {g : Ga} : Fine (g.float f p r).1 := by
  unfold Ga.float
  split
  · exact fine_nan
  · split
    · exact fine_nan
    · split
      · exact fine_inf
      · unfold Nu.round
        split
        · exact fine_zero
        · exact roundP_fine hf
theorem totalP_fine {f p r : Int} {l : List Fla} : Fine (totalP f p r l).1 := by
  unfold totalP
  split
  · rename_i h
    exact float_fine (argsE_zero h).2.2.2.2.1
  · exact fine_zero
theorem Fine.same {x : Flt} (h : Fine x) : sameP x x = true := by simp [sameP, h.can]
theorem Fine.sh {x : Flt} (h : Fine x) : Sh (nat x.v) := by
  have := nat_len_bl x.v
  have := h.v
  unfold Sh
  omega
theorem Fine.e {x : Flt} (h : Fine x) : I64 x.e := by
  have := good_md h.can
  simp only [Md, I64] at *
  omega
end Go.Proofs.YtdaecibpkhcllaaDoor
/- The law SumOrder. No condition. -/
namespace Go.Proofs.YtdaecibpkhcllaaDoor
set_option linter.unusedVariables false
set_option linter.unusedSimpArgs false
set_option maxHeartbeats 4000000
set_option maxRecDepth 10000
theorem rows_rev (l : List Fla) (i : Nat) (x : Fla) (h : l[i]? = some x) : (List.drop (i + 1) (List.map Fla.cs l)).reverse ++ [x.cs] = (List.drop i (List.map Fla.cs l)).reverse := by
  have : (l.map Fla.cs).drop i = x.cs :: (l.map Fla.cs).drop (i + 1) := by
    obtain ⟨hi, e⟩ := List.getElem?_eq_some_iff.1 (show (l.map Fla.cs)[i]? = some x.cs by simp [h])
    rw [List.drop_eq_getElem_cons hi, e]
  rw [this]; simp
theorem SumOrder_does {f p r : Int} {l : List Fla} (hl : ∀ x ∈ l, Ws x.m ∧ I64 x.e) : Does Tryd.prog Gv 3 [Fm f p, .c (.i .i64 r), Rows l] (.v (.c (.b true))) := by
  by_cases h30 : 30 < l.length
  · have d1 : (30 : Int) < l.length := by omega
    refine Does.of (nt := 139) Tryd.func3 rfl rfl rfl (by simp) ?_
    simp only [argTm, PV.ext, Ce.ext]
    refine Do.seqk fun _ k1_ => ?_
    refine Do.region [1,2,3] true ?_
    simp [go_sem, d1]
    apply k1_; clear k1_
    refine Do.seqk fun _ k2_ => ?_
    refine Do.seqk fun _ k3_ => ?_
    refine Do.region [1,2,3,28] true ?_
    simp [go_sem, d1]
    repeat (refine And.intro (by first | omega | (intros; omega) | (intros; exact And.intro (by assumption) (by omega)) | grind) ?_)
    refine DoL.gOff true 106 rfl rfl (.v (.c (.b false))) rfl ?_
    simp [go_sem, d1]
    repeat (refine And.intro (by first | omega | (intros; omega) | (intros; exact And.intro (by assumption) (by omega)) | grind) ?_)
    apply k3_; clear k3_
    refine Do.cond [1,2,3] rfl (fun h => ?_) (fun h => ?_) <;> simp [go_sem] at h ⊢
    refine Do.seqk fun _ k4_ => ?_
    refine Do.region [6] true ?_
    simp [go_sem, d1]
    refine DoL.call true 201 rfl rfl rfl rfl (by first | exact trivial | omega | (simp; done) | (simp; omega)) (awake_does) rfl (by first | exact .inl rfl | exact .inr rfl) rfl ?_
    simp [go_sem, d1]
    apply k4_; clear k4_
    refine Do.ret ?_
    simp [endQ, rets, ret1, go_sem, d1]
    repeat (refine And.intro (by first | omega | (intros; omega) | (intros; exact And.intro (by assumption) (by omega)) | grind) ?_)
    exact TLe.refl _
  · have d2 : ¬ (30 : Int) < l.length := by omega
    have hS : Does Tryd.prog Gv 6 [Rows l] (.v (.c (.b (shortP l)))) := Short15_does (l := l) (by omega)
    cases hs : shortP l with
    | false =>
      rw [hs] at hS
      refine Does.of (nt := 139) Tryd.func3 rfl rfl rfl (by simp) ?_
      simp only [argTm, PV.ext, Ce.ext]
      refine Do.seqk fun _ k1_ => ?_
      refine Do.region [1,2,3] true ?_
      simp [go_sem, d2]
      apply k1_; clear k1_
      refine Do.seqk fun _ k2_ => ?_
      refine Do.seqk fun _ k3_ => ?_
      refine Do.region [1,2,3,28] true ?_
      simp [go_sem, d2]
      repeat (refine And.intro (by first | omega | (intros; omega) | (intros; exact And.intro (by assumption) (by omega)) | grind) ?_)
      refine DoL.callg true 106 rfl rfl rfl rfl rfl (by simp [go_sem] <;> omega) (fun _ => hS) rfl (by first | exact .inl rfl | exact .inr rfl) rfl ?_
      simp [go_sem, d2]
      repeat (refine And.intro (by first | omega | (intros; omega) | (intros; exact And.intro (by assumption) (by omega)) | grind) ?_)
      apply k3_; clear k3_
      refine Do.cond [1,2,3] rfl (fun h => ?_) (fun h => ?_) <;> simp [go_sem] at h ⊢
      refine Do.seqk fun _ k4_ => ?_
      refine Do.region [6] true ?_
      simp [go_sem, d2]
      refine DoL.call true 201 rfl rfl rfl rfl (by first | exact trivial | omega | (simp; done) | (simp; omega)) (awake_does) rfl (by first | exact .inl rfl | exact .inr rfl) rfl ?_
      simp [go_sem, d2]
      apply k4_; clear k4_
      refine Do.ret ?_
      simp [endQ, rets, ret1, go_sem, d2]
      repeat (refine And.intro (by first | omega | (intros; omega) | (intros; exact And.intro (by assumption) (by omega)) | grind) ?_)
      exact TLe.refl _
    | true =>
      rw [hs] at hS
      have ho : ∀ x ∈ l, x.Ok := fun x hx => by
        have h1 : ∀ x ∈ l, x.m.length ≤ 40 := by simpa [shortP] using hs
        have := h1 x hx
        exact ⟨by simp [Sh]; omega, (hl x hx).1, (hl x hx).2⟩
      have hT := Total_does (f := f) (p := p) (r := r) (l := l) (by omega) ho
      have hT' := Total_does (f := f) (p := p) (r := r) (l := l.reverse) (by simp; omega) (fun x hx => ho x (List.mem_reverse.1 hx))
      rw [totalP_reverse] at hT'
      have hA : ¬ (l.length : Int) < 2 → ∃ x y w, l[0]? = some x ∧ l[1]? = some y ∧ Fine w.1 ∧ Does Tryd.prog Gv 10 [Fm f p, .c (.i .i64 r), Fl x.k x.n x.e x.m, Fl y.k y.n y.e y.m] (Res w) ∧ Does Tryd.prog Gv 10 [Fm f p, .c (.i .i64 r), Fl y.k y.n y.e y.m, Fl x.k x.n x.e x.m] (Res w) := fun h => by
        obtain ⟨x, hx⟩ : ∃ x, l[0]? = some x := ⟨_, List.getElem?_eq_getElem (by omega)⟩
        obtain ⟨y, hy⟩ : ∃ x, l[1]? = some x := ⟨_, List.getElem?_eq_getElem (by omega)⟩
        have ox := ho x (List.mem_of_getElem? hx)
        have oy := ho y (List.mem_of_getElem? hy)
        have h2 := SAdd_does (f := f) (p := p) (r := r) oy ox
        rw [show [y, x] = [x, y].reverse from rfl, totalP_reverse] at h2
        exact ⟨x, y, totalP f p r [x, y], hx, hy, totalP_fine, SAdd_does ox oy, h2⟩
      rw [show Rows l.reverse = .s false (List.map Fla.cs l).reverse by simp [Rows]] at hT'
      have hz := @totalP_fine f p r l
      generalize totalP f p r l = z at *
      have hsame := @Same_does z.1.k z.1.n z.1.e (nat z.1.v) z.1.k z.1.n z.1.e (nat z.1.v) hz.sh (nat_ws _) hz.e hz.sh (nat_ws _) hz.e
      rw [val_nat, show sameP ⟨z.1.k, z.1.n, z.1.e, z.1.v⟩ ⟨z.1.k, z.1.n, z.1.e, z.1.v⟩ = true from hz.same] at hsame
      refine Does.of (nt := 139) Tryd.func3 rfl rfl rfl (by simp) ?_
      simp only [argTm, PV.ext, Ce.ext]
      refine Do.seqk fun _ k1_ => ?_
      refine Do.region [1,2,3] true ?_
      simp [go_sem, d2]
      apply k1_; clear k1_
      refine Do.seqk fun _ k2_ => ?_
      refine Do.seqk fun _ k3_ => ?_
      refine Do.region [1,2,3,28] true ?_
      simp [go_sem, d2]
      repeat (refine And.intro (by first | omega | (intros; omega) | (intros; exact And.intro (by assumption) (by omega)) | grind) ?_)
      refine DoL.callg true 106 rfl rfl rfl rfl rfl (by simp [go_sem] <;> omega) (fun _ => hS) rfl (by first | exact .inl rfl | exact .inr rfl) rfl ?_
      simp [go_sem, d2]
      repeat (refine And.intro (by first | omega | (intros; omega) | (intros; exact And.intro (by assumption) (by omega)) | grind) ?_)
      apply k3_; clear k3_
      refine Do.cond [1,2,3] rfl (fun h => ?_) (fun h => ?_) <;> simp [go_sem] at h ⊢
      refine Do.skip ?_
      simp [go_sem]
      apply k2_; clear k2_
      refine Do.seqk fun _ k4_ => ?_
      refine Do.region [1,2,3,7] true ?_
      simp [go_sem, d2]
      apply k4_; clear k4_
      refine Do.seqk fun _ k5_ => ?_
      refine Do.seqk fun _ k6_ => ?_
      refine Do.region [1,2,3,7,8] true ?_
      simp [go_sem, d2]
      repeat (refine And.intro (by first | omega | (intros; omega) | (intros; exact And.intro (by assumption) (by omega)) | grind) ?_)
      apply k6_; clear k6_
      refine Do.block ?_
      refine Do.own 7 900 4 rfl rfl (by decide) ?_
      simp [go_sem]
      refine Do.loopF [1,2,3,7,8] (fun (i : Nat) => [(7, .v (.c (.r 900 (l.length - i)))), (8, .int .i64 (i - 1))]) (fun (i : Nat) => [(900, .sr 4 (List.drop i (List.map Fla.cs l)).reverse)]) (fun (i : Nat) => i ≤ l.length) (fun (i : Nat) => i) (l.length) (fun _ => by first | (simp [go_sem, mixS]; done) | (simp [go_sem, mixS]; rfl)) (St.le_of (by first | rfl | simp [keep]) (by first | rfl | simp [keep])) (Nat.le_refl _) ?_
      rintro i hi
      refine Do.seqk fun _ k7_ => ?_
      refine Do.seqk fun _ k8_ => ?_
      refine Do.region [1,2,3,7,8,34] true ?_
      simp [go_sem, d2]
      apply k8_; clear k8_
      refine Do.cond [1,2,3,7,8] rfl (fun h2 => ?_) (fun h2 => ?_) <;> simp [go_sem] at h2 ⊢
      · obtain ⟨j, rfl⟩ : ∃ j, i = j + 1 := ⟨i - 1, by omega⟩
        obtain ⟨x, hx⟩ : ∃ x, l[j]? = some x := ⟨_, List.getElem?_eq_getElem hi⟩
        have hrev := rows_rev l j x hx
        have e1 : ((j + 1 : Nat) : Int) - 1 = j := by omega
        have e2 : min (l.length - (j + 1)) (l.length - (j + 1)) = l.length - (j + 1) := by omega
        rw [e1]
        refine Do.skip ?_
        simp [go_sem]
        apply k7_; clear k7_
        refine Do.seqk fun _ k9_ => ?_
        refine Do.block ?_
        refine Do.region [1,2,3,7,8] true ?_
        simp [go_sem, hx, hrev]
        repeat (refine And.intro (by first | omega | (intros; omega) | (intros; exact And.intro (by assumption) (by omega)) | grind) ?_)
        apply k9_; clear k9_
        refine Do.region [1,2,3,7,8] true ?_
        simp [go_sem, hx, hrev]
        repeat (refine And.intro (by first | omega | (intros; omega) | (intros; exact And.intro (by assumption) (by omega)) | grind) ?_)
        refine ⟨j, St.le_of (by simp [keep]) (by simp [keep, hrev]), by omega, by simp⟩
      · obtain rfl : i = 0 := by omega
        simp only [List.drop_zero, Nat.sub_zero]
        refine Do.exit ?_
        simp [go_sem]
        apply k5_; clear k5_
        refine Do.seqk fun _ k10_ => ?_
        refine Do.region [1,2,3,7,9,10,11] true ?_
        simp [go_sem, d2]
        repeat (refine And.intro (by first | omega | (intros; omega) | (intros; exact And.intro (by assumption) (by omega)) | grind) ?_)
        refine DoL.call true 804 rfl rfl rfl rfl (by first | exact trivial | omega | (simp; done) | (simp; omega)) (hT) rfl (by first | exact .inl rfl | exact .inr rfl) rfl ?_
        simp [go_sem, d2]
        repeat (refine And.intro (by first | omega | (intros; omega) | (intros; exact And.intro (by assumption) (by omega)) | grind) ?_)
        apply k10_; clear k10_
        refine Do.seqk fun _ k11_ => ?_
        refine Do.region [1,2,3,9,10,11,12,13,14] true ?_
        simp [go_sem, d2]
        repeat (refine And.intro (by first | omega | (intros; omega) | (intros; exact And.intro (by assumption) (by omega)) | grind) ?_)
        refine DoL.sealS true 901 900 rfl ?_
        simp [go_sem]
        refine DoL.call true 904 rfl rfl rfl rfl (by first | exact trivial | omega | (simp; done) | (simp; omega)) (hT') rfl (by first | exact .inl rfl | exact .inr rfl) rfl ?_
        simp [go_sem, d2]
        repeat (refine And.intro (by first | omega | (intros; omega) | (intros; exact And.intro (by assumption) (by omega)) | grind) ?_)
        apply k11_; clear k11_
        refine Do.seqk fun _ k12_ => ?_
        refine Do.seqk fun _ k13_ => ?_
        refine Do.region [1,2,3,9,11,12,67] true ?_
        simp [go_sem, d2]
        apply k13_; clear k13_
        refine Do.cond [1,2,3,9,11,12] rfl (fun h3 => ?_) (fun h3 => ?_) <;> simp [go_sem] at h3 ⊢
        refine Do.skip ?_
        simp [go_sem]
        apply k12_; clear k12_
        refine Do.seqk fun _ k14_ => ?_
        refine Do.seqk fun _ k15_ => ?_
        refine Do.region [1,2,3,9,11,12,74] true ?_
        simp [go_sem, d2]
        repeat (refine And.intro (by first | omega | (intros; omega) | (intros; exact And.intro (by assumption) (by omega)) | grind) ?_)
        apply k15_; clear k15_
        refine Do.cond [1,2,3,9,11,12] rfl (fun h4 => ?_) (fun h4 => ?_) <;> simp [go_sem] at h4 ⊢
        · refine Do.seqk fun _ k16_ => ?_
          refine Do.region [6] true ?_
          simp [go_sem, d2]
          repeat (refine And.intro (by first | omega | (intros; omega) | (intros; exact And.intro (by assumption) (by omega)) | grind) ?_)
          refine DoL.callg true 1305 rfl rfl rfl rfl rfl (by simp [go_sem] <;> omega) (fun _ => awake_does) rfl (by first | exact .inl rfl | exact .inr rfl) rfl ?_
          simp [go_sem, d2]
          apply k16_; clear k16_
          refine Do.ret ?_
          simp [endQ, rets, ret1, go_sem, d2]
          repeat (refine And.intro (by first | omega | (intros; omega) | (intros; exact And.intro (by assumption) (by omega)) | grind) ?_)
          exact ret_b (by simp [h4.2])
        · refine Do.skip ?_
          simp [go_sem]
          apply k14_; clear k14_
          refine Do.seqk fun _ k17_ => ?_
          refine Do.seqk fun _ k18_ => ?_
          refine Do.region [1,2,3,88] true ?_
          simp [go_sem, d2]
          repeat (refine And.intro (by first | omega | (intros; omega) | (intros; exact And.intro (by assumption) (by omega)) | grind) ?_)
          refine DoL.callg true 1406 rfl rfl rfl rfl rfl (by simp [go_sem] <;> omega) (fun _ => hsame) rfl (by first | exact .inl rfl | exact .inr rfl) rfl ?_
          simp [go_sem, d2]
          repeat (refine And.intro (by first | omega | (intros; omega) | (intros; exact And.intro (by assumption) (by omega)) | grind) ?_)
          apply k18_; clear k18_
          refine Do.cond [1,2,3] rfl (fun h5 => ?_) (fun h5 => ?_) <;> simp [go_sem] at h5 ⊢
          refine Do.skip ?_
          simp [go_sem]
          apply k17_; clear k17_
          refine Do.seqk fun _ k19_ => ?_
          refine Do.seqk fun _ k20_ => ?_
          refine Do.region [1,2,3,91] true ?_
          simp [go_sem, d2]
          repeat (refine And.intro (by first | omega | (intros; omega) | (intros; exact And.intro (by assumption) (by omega)) | grind) ?_)
          apply k20_; clear k20_
          refine Do.cond [1,2,3] rfl (fun h6 => ?_) (fun h6 => ?_) <;> simp [go_sem] at h6 ⊢
          · refine Do.seqk fun _ k21_ => ?_
            refine Do.region [6] true ?_
            simp [go_sem, d2]
            refine DoL.call true 1701 rfl rfl rfl rfl (by first | exact trivial | omega | (simp; done) | (simp; omega)) (awake_does) rfl (by first | exact .inl rfl | exact .inr rfl) rfl ?_
            simp [go_sem, d2]
            apply k21_; clear k21_
            refine Do.ret ?_
            simp [endQ, rets, ret1, go_sem, d2]
            repeat (refine And.intro (by first | omega | (intros; omega) | (intros; exact And.intro (by assumption) (by omega)) | grind) ?_)
            exact TLe.refl _
          · obtain ⟨x, y, w, hx, hy, hw, hA1, hA2⟩ := hA (by omega)
            have hs2 := @Same_does w.1.k w.1.n w.1.e (nat w.1.v) w.1.k w.1.n w.1.e (nat w.1.v) hw.sh (nat_ws _) hw.e hw.sh (nat_ws _) hw.e
            rw [val_nat, show sameP ⟨w.1.k, w.1.n, w.1.e, w.1.v⟩ ⟨w.1.k, w.1.n, w.1.e, w.1.v⟩ = true from hw.same] at hs2
            refine Do.skip ?_
            simp [go_sem]
            apply k19_; clear k19_
            refine Do.seqk fun _ k22_ => ?_
            refine Do.draw [1,2,3,15,16,17] true (by kernel_rfl) ?_
            simp [go_sem, hx, hy]
            repeat (refine And.intro (by first | omega | (intros; omega) | (intros; exact And.intro (by assumption) (by omega)) | grind) ?_)
            refine DoLD.call true 1809 rfl rfl rfl rfl (by first | exact trivial | omega | (simp; done) | (simp; omega)) (hA1) rfl (by first | exact .inl rfl | exact .inr rfl) rfl ?_
            simp [go_sem, hx, hy]
            repeat (refine And.intro (by first | omega | (intros; omega) | (intros; exact And.intro (by assumption) (by omega)) | grind) ?_)
            refine And.intro (by kernel_rfl) ?_
            apply k22_; clear k22_
            refine Do.seqk fun _ k23_ => ?_
            refine Do.draw [15,16,17,18,19,20] true (by kernel_rfl) ?_
            simp [go_sem, hx, hy]
            repeat (refine And.intro (by first | omega | (intros; omega) | (intros; exact And.intro (by assumption) (by omega)) | grind) ?_)
            refine DoLD.call true 1909 rfl rfl rfl rfl (by first | exact trivial | omega | (simp; done) | (simp; omega)) (hA2) rfl (by first | exact .inl rfl | exact .inr rfl) rfl ?_
            simp [go_sem, hx, hy]
            repeat (refine And.intro (by first | omega | (intros; omega) | (intros; exact And.intro (by assumption) (by omega)) | grind) ?_)
            refine And.intro (by kernel_rfl) ?_
            apply k23_; clear k23_
            refine Do.seqk fun _ k24_ => ?_
            refine Do.region [6] true ?_
            simp [go_sem, hx, hy]
            repeat (refine And.intro (by first | omega | (intros; omega) | (intros; exact And.intro (by assumption) (by omega)) | grind) ?_)
            refine DoL.callg true 2015 rfl rfl rfl rfl rfl (by simp [go_sem] <;> omega) (fun _ => hs2) rfl (by first | exact .inl rfl | exact .inr rfl) rfl ?_
            simp [go_sem, hx, hy]
            refine DoL.callg true 2019 rfl rfl rfl rfl rfl (by simp [go_sem] <;> omega) (fun _ => awake_does) rfl (by first | exact .inl rfl | exact .inr rfl) rfl ?_
            simp [go_sem, hx, hy]
            apply k24_; clear k24_
            refine Do.ret ?_
            simp [endQ, rets, ret1, go_sem, hx, hy]
            repeat (refine And.intro (by first | omega | (intros; omega) | (intros; exact And.intro (by assumption) (by omega)) | grind) ?_)
            exact TLe.refl _
end Go.Proofs.YtdaecibpkhcllaaDoor
/- The package variables of the program, as they are laid; the row of SumLarge. No condition. -/
namespace Go.Proofs.YtdaecibpkhcllaaDoor
set_option linter.unusedVariables false
set_option linter.unusedSimpArgs false
open Go.ChangeShapes Go.WideShapes Go.ChangeAt Go.RowKit
theorem own : ownKnob Tryd.prog.godebug = Option.none := by kernel_rfl
theorem laidOut : laidOutB Tryd.prog = true := by kernel_rfl
theorem g0_name : Tryd.prog.globalNamed "math/bits.deBruijn64tab" = some 0 := by kernel_rfl
theorem g1_name : Tryd.prog.globalNamed "reckoner/fin.more" = some 1 := by kernel_rfl
/-- What is listed. -/
abbrev laidL : List (String × DataW Unit) := [("math/bits.deBruijn64tab", Rows.laid_math_bits_deBruijn64tab), ("reckoner/fin.more", Rows.laid_reckoner_fin_more)]
section
variable {H : Type} {enc : TypeId × Value → H} {P : Program} {W : World} {base : Nat} {sp : Nat → Bool} {held : Bool}
theorem array_at {t e : TypeId} {n fuel : Nat} {cs : List Value} {ds : List (DataW H)} {p : List MemPlace} (ht : P.underlying t = some (.array n e)) (hc : P.cellsOf e = 1) (h : DataW.trod enc P W base sp held fuel t cs = some (.agg ds, p)) {i : Nat} {d : DataW H} (hd : ds[i]? = some d) : ∃ v m q, cs[i]? = some v ∧ DataW.trod enc P W base sp held m e [v] = some (d, q) := by
  obtain ⟨xs, m, rfl, hx, hl, hn, hel⟩ := DataW.trod_array ht h
  simp only [Prod.mk.injEq, DataW.agg.injEq] at hx
  obtain ⟨rfl, _⟩ := hx
  rw [List.getElem?_map] at hd
  cases hxi : xs[i]? with
  | none => simp [hxi] at hd
  | some y =>
    rw [hxi] at hd
    simp only [Option.map_some, Option.some.injEq] at hd
    have hi : i < n := by rw [← hn]; exact (List.getElem?_eq_some_iff.1 hxi).1
    have h1 := hel i hi
    rw [hc, Nat.mul_one, hxi] at h1
    have hil : i < cs.length := by
      apply Classical.byContradiction
      intro hge
      rw [List.drop_of_length_le (by omega)] at h1
      cases m with
      | zero => simp [DataW.trod] at h1
      | succ m =>
        have : P.cellsOf e = 1 := hc
        cases hu : P.underlying e with
        | none => simp [DataW.trod, hu] at h1
        | some k => cases k <;> simp [DataW.trod, hu] at h1 <;> (try omega)
    rw [List.drop_eq_getElem_cons hil] at h1
    simp only [List.take_succ_cons, List.take_zero] at h1
    exact ⟨cs[i], m, y.2, List.getElem?_eq_getElem hil, by rw [h1, ← hd]⟩
theorem laidMetH.plain {l : List (String × DataW Unit)} (h : laidMetH P l W) (hne : (l.filter fun x => x.2.handleName?.isSome).isEmpty = false) : laidMet P (l.filter fun x => x.2.handleName?.isNone) W := by
  unfold laidMetH at h
  generalize (l.filter fun x => x.2.handleName?.isSome) = fl at h hne
  cases fl with
  | nil => cases hne
  | cons a r => exact h.1
end
/-- The door's own heap meets the condition. -/
abbrev doorN : Nat := 19
abbrev doorK : Nat := 8
theorem door_met (os : Os) (args : Array Value) : laidMetH Tryd.prog laidL ((World.doorLaid Tryd.prog doorN os).forCall (fun _ _ => 0) ⟨#[], args, []⟩).memory :=
  laidMetH_of_parts3 (fuel := 8) (laidMet_of_run' 8 (by kernel_rfl) (by kernel_rfl)) (by kernel_rfl) (by kernel_rfl)
theorem of_laid {W : World} (h : laidMetH Tryd.prog laidL W) : GlOk Gv W := by
  have h0 : laidMet Tryd.prog [("math/bits.deBruijn64tab", Rows.laid_math_bits_deBruijn64tab)] W := laidMetH.plain h (by kernel_rfl)
  obtain ⟨ps, ⟨g0, t0, cs0, f0, p0, q0, hg0, ht0, hv0, hd0, _⟩, _, _⟩ := h0
  obtain ⟨g1, t1, cs1, f1, p1, hg1, ht1, hv1, hd1⟩ := h.funcs (d := .agg [.iface "func" (.lit (.string [114, 101, 99, 107, 111, 110, 101, 114, 47, 102, 105, 110, 46, 109, 111, 114, 101, 36, 49])), .iface "func" (.lit (.string [114, 101, 99, 107, 111, 110, 101, 114, 47, 102, 105, 110, 46, 109, 111, 114, 101, 36, 50])), .iface "func" (.lit (.string [114, 101, 99, 107, 111, 110, 101, 114, 47, 102, 105, 110, 46, 109, 111, 114, 101, 36, 51])), .iface "func" (.lit (.string [114, 101, 99, 107, 111, 110, 101, 114, 47, 102, 105, 110, 46, 109, 111, 114, 101, 36, 52])), .iface "func" (.lit (.string [114, 101, 99, 107, 111, 110, 101, 114, 47, 102, 105, 110, 46, 109, 111, 114, 101, 36, 53]))]) (n := "reckoner/fin.more") (List.mem_cons_of_mem _ (List.mem_singleton.2 rfl))
  obtain rfl := Option.some.inj (g0_name.symm.trans hg0)
  obtain rfl := Option.some.inj (g1_name.symm.trans hg1)
  have e0 : (Rows.laid_math_bits_deBruijn64tab : DataW Unit) = .agg (Lib.deBruijn64tab.map fun k => .lit (.int .u8 (k : Nat))) := by kernel_rfl
  rw [e0] at hd0
  obtain rfl := Option.some.inj ((show (Tryd.prog.globals[0]?).map (·.type) = some 115 by kernel_rfl).symm.trans ht0)
  obtain rfl := Option.some.inj ((show (Tryd.prog.globals[1]?).map (·.type) = some 123 by kernel_rfl).symm.trans ht1)
  intro b off x hx
  match b, hx with
  | 0, hx =>
    simp only [Gv, List.getElem?_map] at hx
    cases hk : Lib.deBruijn64tab[off]? with
    | none => simp [hk] at hx
    | some k =>
      simp only [hk, Option.map_some, Option.some.injEq] at hx; subst hx
      obtain ⟨v, m, q, h1, h2⟩ := array_at Tryd.underlying115 (by kernel_rfl) hd0 (i := off) (d := .lit (.int .u8 (k : Nat))) (by simp [hk])
      obtain ⟨z, h3, h4, _⟩ := DataW.trod_int Tryd.underlying5 h2
      simp only [List.cons.injEq, and_true, Prod.mk.injEq, DataW.lit.injEq, Lit.int.injEq, true_and] at h3 h4
      subst h3
      refine ⟨rfl, .int .u8 z, ?_, fun E => ?_⟩
      · rw [World.var?_cell hg0 hv0 off]; simpa using h1
      · show Value.int .u8 z = .int .u8 (k : Nat)
        rw [h4.1]
  | 1, hx =>
    have hd1 : DataW.trod (funcToken Tryd.prog) Tryd.prog W 0 (fun _ => true) true f1 123 cs1.toList = some (.agg [.held [114, 101, 99, 107, 111, 110, 101, 114, 47, 102, 105, 110, 46, 109, 111, 114, 101, 36, 49], .held [114, 101, 99, 107, 111, 110, 101, 114, 47, 102, 105, 110, 46, 109, 111, 114, 101, 36, 50], .held [114, 101, 99, 107, 111, 110, 101, 114, 47, 102, 105, 110, 46, 109, 111, 114, 101, 36, 51], .held [114, 101, 99, 107, 111, 110, 101, 114, 47, 102, 105, 110, 46, 109, 111, 114, 101, 36, 52], .held [114, 101, 99, 107, 111, 110, 101, 114, 47, 102, 105, 110, 46, 109, 111, 114, 101, 36, 53]], p1) := hd1
    have hF : ∀ {i : Nat} {by_ : UInt8} {r : List UInt8} {f0 : FuncId}, (([DataW.held (H := List UInt8) [114, 101, 99, 107, 111, 110, 101, 114, 47, 102, 105, 110, 46, 109, 111, 114, 101, 36, 49], .held [114, 101, 99, 107, 111, 110, 101, 114, 47, 102, 105, 110, 46, 109, 111, 114, 101, 36, 50], .held [114, 101, 99, 107, 111, 110, 101, 114, 47, 102, 105, 110, 46, 109, 111, 114, 101, 36, 51], .held [114, 101, 99, 107, 111, 110, 101, 114, 47, 102, 105, 110, 46, 109, 111, 114, 101, 36, 52], .held [114, 101, 99, 107, 111, 110, 101, 114, 47, 102, 105, 110, 46, 109, 111, 114, 101, 36, 53]]))[i]? = some (.held (by_ :: r)) → ((List.range Tryd.prog.funcs.size).filter fun f => (Tryd.prog.funcs[f]?).any (·.name.toUTF8.data.toList == by_ :: r)) = [f0] → (Ce.f f0).pure = true ∧ ∃ v, W.cell? ⟨1, i, Option.none⟩ = some v ∧ ∀ E, RC E (.f f0) v := fun {i by_ r f0} hi hone => by
      obtain ⟨v, m, q, h1, h2⟩ := array_at Tryd.underlying123 (by kernel_rfl) hd1 hi
      obtain rfl := func_of_trod (f0 := f0) Tryd.underlying122 hone h2
      refine ⟨rfl, .func (.func f0) #[] #[], ?_, fun E => rfl⟩
      rw [World.var?_cell hg1 hv1 i]; simpa using h1
    rcases off with _ | _ | _ | _ | _ | off
    · simp only [Gv] at hx
      obtain rfl : Ce.f 110 = x := Option.some.inj hx
      exact hF (i := 0) rfl (by kernel_rfl)
    · simp only [Gv] at hx
      obtain rfl : Ce.f 111 = x := Option.some.inj hx
      exact hF (i := 1) rfl (by kernel_rfl)
    · simp only [Gv] at hx
      obtain rfl : Ce.f 112 = x := Option.some.inj hx
      exact hF (i := 2) rfl (by kernel_rfl)
    · simp only [Gv] at hx
      obtain rfl : Ce.f 113 = x := Option.some.inj hx
      exact hF (i := 3) rfl (by kernel_rfl)
    · simp only [Gv] at hx
      obtain rfl : Ce.f 114 = x := Option.some.inj hx
      exact hF (i := 4) rfl (by kernel_rfl)
    · simp [Gv] at hx
  | b + 2, hx => simp [Gv] at hx
end Go.Proofs.YtdaecibpkhcllaaDoor
/- The row of SumLarge. No condition. -/
namespace Go.Proofs.YtdaecibpkhcllaaDoor
set_option linter.unusedVariables false
set_option linter.unusedSimpArgs false
open Go.ChangeShapes Go.WideShapes Go.ChangeAt Go.RowKit
set_option maxRecDepth 100000
/-- A format among the arguments. -/
theorem arg_fm {H : Type} {enc : TypeId × Value → H} {W : World} {b0 : Nat} {sp : Nat → Bool} {held : Bool} {v : Value} {d : DataW H} {ps : List MemPlace} (hval : Value.okWide Tryd.prog W .any b0 23 v) (h : DataW.Trod enc Tryd.prog W 0 sp held 23 v d ps) : ∃ f p, RP (enA W fun b => b < W.heap.size) (Fm f p) v := by
  obtain ⟨ces, h1, h2⟩ := open_struct (ok := fun b => b < W.heap.size) (f := 2) (cts := [.i .i64, .i .i64]) (fun _ h => h) Tryd.underlying23 (by kernel_rfl) hval h
  cases h2 with | cons g h2 => cases h2 with | cons g' h2 => cases h2 with | nil =>
  obtain ⟨e, rfl, _⟩ := g
  obtain ⟨p, rfl, _⟩ := g'
  exact ⟨e, p, h1⟩
theorem cells_fl {ces : List Ce} (h2 : All2 CtIs [.i .i64, .b, .i .i64, .w] ces) : ∃ x : Fla, x.cs = ces ∧ Ws x.m ∧ I64 x.e := by
  cases h2 with | cons g1 h2 => cases h2 with | cons g2 h2 => cases h2 with | cons g3 h2 => cases h2 with | cons g4 h2 => cases h2 with | nil =>
  obtain ⟨k, rfl, _⟩ := g1
  obtain ⟨n, rfl⟩ := g2
  obtain ⟨e, rfl, he⟩ := g3
  obtain ⟨m, rfl, hm⟩ := g4
  exact ⟨⟨k, n, e, m⟩, rfl, hm, wf_i64 he⟩
/-- A float among the arguments. -/
theorem arg_fl {H : Type} {enc : TypeId × Value → H} {W : World} {b0 : Nat} {sp : Nat → Bool} {held : Bool} {v : Value} {d : DataW H} {ps : List MemPlace} (hval : Value.okWide Tryd.prog W .any b0 32 v) (h : DataW.Trod enc Tryd.prog W 0 sp held 32 v d ps) : ∃ x : Fla, Ws x.m ∧ I64 x.e ∧ RP (enA W fun b => b < W.heap.size) (Fl x.k x.n x.e x.m) v := by
  obtain ⟨ces, h1, h2⟩ := open_struct (ok := fun b => b < W.heap.size) (f := 2) (cts := [.i .i64, .b, .i .i64, .w]) (fun _ h => h) Tryd.underlying32 (by kernel_rfl) hval h
  obtain ⟨x, rfl, hx⟩ := cells_fl h2
  exact ⟨x, hx.1, hx.2, h1⟩
/-- Floats among the arguments. -/
theorem arg_fls {H : Type} {enc : TypeId × Value → H} {W : World} {b0 : Nat} {sp : Nat → Bool} {held : Bool} {v : Value} {d : DataW H} {ps : List MemPlace} (hval : Value.okWide Tryd.prog W .any b0 25 v) (h : DataW.Trod enc Tryd.prog W 0 sp held 25 v d ps) : ∃ l : List Fla, (∀ x ∈ l, Ws x.m ∧ I64 x.e) ∧ RP (enA W fun b => b < W.heap.size) (Rows l) v := by
  obtain ⟨rows, h1, h2⟩ := open_structs (ok := fun b => b < W.heap.size) (f := 2) (cts := [.i .i64, .b, .i .i64, .w]) (fun _ h => h) Tryd.underlying25 (by kernel_rfl) (by kernel_rfl) (by decide) hval h
  have : ∃ l : List Fla, l.map Fla.cs = rows ∧ ∀ x ∈ l, Ws x.m ∧ I64 x.e := by
    clear h1
    induction rows with
    | nil => exact ⟨[], rfl, by simp⟩
    | cons r rows ih =>
      obtain ⟨l, e, hl⟩ := ih fun r hr => h2 r (List.mem_cons_of_mem _ hr)
      have hr := h2 r (by simp)
      obtain ⟨y, rfl, hy⟩ := cells_fl hr
      exact ⟨y :: l, by simp [e], fun x hx => by
          rcases List.mem_cons.1 hx with rfl | hx
          · exact hy
          · exact hl x hx⟩
  obtain ⟨l, rfl, hl⟩ := this
  exact ⟨l, hl, h1⟩
/-- What a law that returns true leaves. -/
theorem law_calls {f : FuncId} {fn : Func} {c : Code} {args : List PV} {W : World} {vals : List Value} (h : Does Tryd.prog Gv f args (.v (.c (.b true)))) (hf : Tryd.prog.funcs[f]? = some fn) (hname : (fn.name == "runtime.NumGoroutine") = false) (hb : fn.body = some c) (hg : GlOk Gv W) (ha : All2 (RP (enA W fun b => b < W.heap.size)) args vals) :
    Calls Tryd.prog f vals.toArray W (fun e W' => e = .returned (.bool true) ∧ Below W.heap.size W W') :=
  (h.toCalls hf hname hb (fun _ h => h) hg ha).mono fun e W' ⟨v, he, hb, hr⟩ => by
    have : v = .bool true := hr
    subst this
    exact ⟨he, hb⟩
namespace sumLarge
set_option maxRecDepth 100000 in
theorem lifted (os : Os) (started : os.Started) (H : Type) (enc : TypeId × Value → H) :
    ReturnsInHanded {} Tryd.checked os 5 .any (fun w args => (Rows.sumLargeSpec.pre enc Tryd.prog Tryd.f5 [] false w args ∧ laidMetH Tryd.prog laidL w) ∧ sizedMet enc Tryd.prog Tryd.f5 (OpenSpec.ofChange Rows.sumLargeSpec) false w args)
      (Rows.sumLargeSpec.post enc Tryd.prog Tryd.f5 false true false false) := by
  refine returnsInHanded_of_change_and (C := Tryd.checked) (X := fun w _ => laidMetH Tryd.prog laidL w) (fun _ _ _ hh h => h.of_heap hh) own started (by kernel_rfl) Tryd.func5
    (ChangeSpec.witness_shaped (enc := enc) (C := Tryd.checked) (os := os) (X := fun w _ => laidMetH Tryd.prog laidL w) false (World.doorLaid Tryd.prog doorN os) #[.agg #[.int .i64 0, .int .i64 0], .int .i64 0, .agg #[.int .i64 0, .bool false, .int .i64 0, .slice Option.none 0 0], .agg #[.int .i64 0, .bool false, .int .i64 0, .slice Option.none 0 0]] doorK rfl (World.shaped_of_RefB (by kernel_rfl) (by kernel_rfl)) (by kernel_rfl) (by kernel_rfl) (by kernel_rfl) (door_met os _)) ?_
  intro W base args ds gs before hval0 hW _ _ hL _
  have hval : ∀ (j : Nat) t v, Tryd.f5.params[j]? = some t → args[j]? = some v → Value.okWide Tryd.prog W .any base t v := hval0
  have hW' := hW
  obtain ⟨p, q, hA0, hV, rfl, hfz, hnd⟩ := hW
  have hA : DataW.TrodAll enc Tryd.prog W 0 (fun _ => true) true Tryd.f5.params.toList args.toList ds p := hA0
  rw [Tryd.params5] at hA hval
  obtain ⟨v0, vs0, d0, ds0, p0, q0, hargs, rfl, rfl, h0, r0⟩ := trodAll_cons hA
  obtain ⟨v1, vs1, d1, ds1, p1, q1, rfl, rfl, rfl, h1, r1⟩ := trodAll_cons r0
  obtain ⟨v2, vs2, d2, ds2, p2, q2, rfl, rfl, rfl, h2, r2⟩ := trodAll_cons r1
  obtain ⟨v3, vs3, d3, ds3, p3, q3, rfl, rfl, rfl, h3, r3⟩ := trodAll_cons r2
  obtain ⟨rfl, rfl, rfl⟩ := trodAll_nil r3
  obtain rfl : args = #[v0, v1, v2, v3] := by cases args; simp_all
  obtain ⟨rfl, rfl⟩ := trodVars_none hV
  have lt0 : ∀ x ∈ p0, x.block < W.heap.size := by obtain ⟨m, hm⟩ := h0; exact DataW.trod_lt m _ _ _ hm
  have lt1 : ∀ x ∈ p1, x.block < W.heap.size := by obtain ⟨m, hm⟩ := h1; exact DataW.trod_lt m _ _ _ hm
  have lt2 : ∀ x ∈ p2, x.block < W.heap.size := by obtain ⟨m, hm⟩ := h2; exact DataW.trod_lt m _ _ _ hm
  have lt3 : ∀ x ∈ p3, x.block < W.heap.size := by obtain ⟨m, hm⟩ := h3; exact DataW.trod_lt m _ _ _ hm
  obtain ⟨f, fp, a0⟩ := arg_fm (hval 0 _ v0 rfl rfl) h0
  have k1 := h1
  obtain ⟨r, rfl, rfl, rfl, w1⟩ := open_int Tryd.underlying24 (hval 1 _ v1 rfl rfl) h1
  obtain ⟨x, wx, ex, a2⟩ := arg_fl (hval 2 _ v2 rfl rfl) h2
  obtain ⟨y, wy, ey, a3⟩ := arg_fl (hval 3 _ v3 rfl rfl) h3
  clear hA0 hval0
  refine (law_calls (vals := [v0, .int .i64 r, v2, v3]) (SumLarge_does (f := f) (p := fp) (r := r) wx ex wy ey) Tryd.func5 rfl rfl (of_laid hL) (.cons a0 (.cons rfl (.cons a2 (.cons a3 .nil))))).mono fun e W' ⟨he, bel⟩ => ?_
  subst he
  exact ⟨_, rfl, _, _, _, [], _, [], hW', trodAll_mk1 (shut_bool Tryd.underlying4 _), (trodAll_cons_mk (Below.trod laidOut (by kernel_rfl) (of_decide_eq_true (by kernel_rfl)) h0 bel lt0) (trodAll_cons_mk (Below.trod laidOut (by kernel_rfl) (of_decide_eq_true (by kernel_rfl)) k1 bel lt1) (trodAll_cons_mk (Below.trod laidOut (by kernel_rfl) (of_decide_eq_true (by kernel_rfl)) h2 bel lt2) (trodAll_mk1 (Below.trod laidOut (by kernel_rfl) (of_decide_eq_true (by kernel_rfl)) h3 bel lt3))))), rfl, bel.frame _, fun h => by cases h⟩
theorem over : Rows.sumLargeRow.holds Tryd.pinned (OpenSpec.ofChange Rows.sumLargeSpec) :=
  OpenClaim.holds_of_wide 5 Tryd.f5 rfl rfl rfl rfl rfl rfl rfl ⟨rfl, rfl, rfl, rfl, rfl⟩ rfl rfl rfl rfl rfl (by kernel_rfl) Tryd.func5 (by kernel_rfl)
    (of_decide_eq_true (by kernel_rfl)) (by unfold Func.isWrapper; first | (rw [if_pos (by decide +kernel)]; kernel_rfl) | (rw [if_neg (by decide +kernel)]; exact ⟨rfl, rfl⟩))
    (fun os started H enc _ => lifted os started H enc)
end sumLarge
end Go.Proofs.YtdaecibpkhcllaaDoor
/- The row of SumOrder. No condition. -/
namespace Go.Proofs.YtdaecibpkhcllaaDoor
set_option linter.unusedVariables false
set_option linter.unusedSimpArgs false
open Go.ChangeShapes Go.WideShapes Go.ChangeAt Go.RowKit
set_option maxRecDepth 100000
namespace sumOrder
set_option maxRecDepth 100000 in
theorem lifted (os : Os) (started : os.Started) (H : Type) (enc : TypeId × Value → H) :
    ReturnsInHanded {} Tryd.checked os 3 .any (fun w args => (Rows.sumOrderSpec.pre enc Tryd.prog Tryd.f3 [] false w args ∧ laidMetH Tryd.prog laidL w) ∧ sizedMet enc Tryd.prog Tryd.f3 (OpenSpec.ofChange Rows.sumOrderSpec) false w args)
      (Rows.sumOrderSpec.post enc Tryd.prog Tryd.f3 false true false false) := by
  refine returnsInHanded_of_change_and (C := Tryd.checked) (X := fun w _ => laidMetH Tryd.prog laidL w) (fun _ _ _ hh h => h.of_heap hh) own started (by kernel_rfl) Tryd.func3
    (ChangeSpec.witness_shaped (enc := enc) (C := Tryd.checked) (os := os) (X := fun w _ => laidMetH Tryd.prog laidL w) false (World.doorLaid Tryd.prog doorN os) #[.agg #[.int .i64 0, .int .i64 0], .int .i64 0, .slice Option.none 0 0] doorK rfl (World.shaped_of_RefB (by kernel_rfl) (by kernel_rfl)) (by kernel_rfl) (by kernel_rfl) (by kernel_rfl) (door_met os _)) ?_
  intro W base args ds gs before hval0 hW _ _ hL _
  have hval : ∀ (j : Nat) t v, Tryd.f3.params[j]? = some t → args[j]? = some v → Value.okWide Tryd.prog W .any base t v := hval0
  have hW' := hW
  obtain ⟨p, q, hA0, hV, rfl, hfz, hnd⟩ := hW
  have hA : DataW.TrodAll enc Tryd.prog W 0 (fun _ => true) true Tryd.f3.params.toList args.toList ds p := hA0
  rw [Tryd.params3] at hA hval
  obtain ⟨v0, vs0, d0, ds0, p0, q0, hargs, rfl, rfl, h0, r0⟩ := trodAll_cons hA
  obtain ⟨v1, vs1, d1, ds1, p1, q1, rfl, rfl, rfl, h1, r1⟩ := trodAll_cons r0
  obtain ⟨v2, vs2, d2, ds2, p2, q2, rfl, rfl, rfl, h2, r2⟩ := trodAll_cons r1
  obtain ⟨rfl, rfl, rfl⟩ := trodAll_nil r2
  obtain rfl : args = #[v0, v1, v2] := by cases args; simp_all
  obtain ⟨rfl, rfl⟩ := trodVars_none hV
  have lt0 : ∀ x ∈ p0, x.block < W.heap.size := by obtain ⟨m, hm⟩ := h0; exact DataW.trod_lt m _ _ _ hm
  have lt1 : ∀ x ∈ p1, x.block < W.heap.size := by obtain ⟨m, hm⟩ := h1; exact DataW.trod_lt m _ _ _ hm
  have lt2 : ∀ x ∈ p2, x.block < W.heap.size := by obtain ⟨m, hm⟩ := h2; exact DataW.trod_lt m _ _ _ hm
  obtain ⟨f, fp, a0⟩ := arg_fm (hval 0 _ v0 rfl rfl) h0
  have k1 := h1
  obtain ⟨r, rfl, rfl, rfl, w1⟩ := open_int Tryd.underlying24 (hval 1 _ v1 rfl rfl) h1
  obtain ⟨l, wl, a2⟩ := arg_fls (hval 2 _ v2 rfl rfl) h2
  clear hA0 hval0
  refine (law_calls (vals := [v0, .int .i64 r, v2]) (SumOrder_does (f := f) (p := fp) (r := r) wl) Tryd.func3 rfl rfl (of_laid hL) (.cons a0 (.cons rfl (.cons a2 .nil)))).mono fun e W' ⟨he, bel⟩ => ?_
  subst he
  exact ⟨_, rfl, _, _, _, [], _, [], hW', trodAll_mk1 (shut_bool Tryd.underlying4 _), (trodAll_cons_mk (Below.trod laidOut (by kernel_rfl) (of_decide_eq_true (by kernel_rfl)) h0 bel lt0) (trodAll_cons_mk (Below.trod laidOut (by kernel_rfl) (of_decide_eq_true (by kernel_rfl)) k1 bel lt1) (trodAll_mk1 (Below.trod laidOut (by kernel_rfl) (of_decide_eq_true (by kernel_rfl)) h2 bel lt2)))), rfl, bel.frame _, fun h => by cases h⟩
theorem over : Rows.sumOrderRow.holds Tryd.pinned (OpenSpec.ofChange Rows.sumOrderSpec) :=
  OpenClaim.holds_of_wide 3 Tryd.f3 rfl rfl rfl rfl rfl rfl rfl ⟨rfl, rfl, rfl, rfl, rfl⟩ rfl rfl rfl rfl rfl (by kernel_rfl) Tryd.func3 (by kernel_rfl)
    (of_decide_eq_true (by kernel_rfl)) (by unfold Func.isWrapper; first | (rw [if_pos (by decide +kernel)]; kernel_rfl) | (rw [if_neg (by decide +kernel)]; exact ⟨rfl, rfl⟩))
    (fun os started H enc _ => lifted os started H enc)
end sumOrder
end Go.Proofs.YtdaecibpkhcllaaDoor
/- The law SumOrder holds, for every input: a sum does not depend on the order of its terms. Conditions: the two listed package variables hold what the program's text lays (tied by the card). -/
namespace Go.Proofs.YtdaecibpkhcllaaDoor
set_option linter.unusedVariables false
set_option linter.unusedSimpArgs false
open Go
theorem sumOrder_holds : Rows.SumOrderCardSaid :=
  Claim7.holds_tied_plain_at .later [] [.data, .funcs] true Rows.sumOrderCard.stood.harness false
    sumOrder.over (fun _ h => by cases h) (by kernel_rfl) (fun _ h => by cases h) sumOrder_row_tie rfl ⟨rfl, rfl⟩ (by kernel_rfl) rfl
    (fun f fn hf hfn => by
      obtain rfl : f = 3 := Option.some.inj ((show Tryd.prog.funcNamed "reckoner/reckonerlaw17.SumOrder" = some 3 by kernel_rfl).symm.trans hf) |>.symm
      obtain rfl : fn = Tryd.f3 := (Option.some.inj (Tryd.func3.symm.trans hfn)).symm
      exact ⟨by kernel_rfl, fun j t ht => by
        have hm : t ∈ Tryd.f3.params.toList := by simpa using Array.mem_of_getElem? ht
        have hall : (Tryd.f3.params.toList.all fun u => !Tryd.prog.wantsStandIn u) = true := by kernel_rfl
        exact (show Tryd.prog.wantsStandIn t = false by simpa using List.all_eq_true.1 hall t hm)⟩)
    (by kernel_rfl)
#print axioms sumOrder_holds
end Go.Proofs.YtdaecibpkhcllaaDoor

/- What 'stepM' says of stores, the machine does. No condition. What 'stepM' says of addresses, slices and new memory, the machine does. No condition. What 'stepM' says of new memory, the machine does. No condition. What 'stepM' says of append, the machine does. No condition. What 'stepM' says, the machine does. No condition. What 'stepM' says, the machine does. No condition. Walks on pure values: code, operations, calls. No condition. Walks on pure values: code, calls, functions. No condition. -/
import Derived.Test.YtbhokdhkfodpfaaGreatDoorMa
/- What 'stepM' says of stores, the machine does. No condition. -/
namespace Go.Proofs.YtbhokdhkfodpfaaGreatDoor
set_option linter.unusedVariables false
set_option linter.unusedSimpArgs false
section
variable {P : Program} {G : Gl} {cx : Cx} {m : Nat → Option Nat} {st : St} {a : Act} {W : World} {E : En}
theorem allPure_spec : ∀ {cs : List Ce}, allPure cs = true → ∀ c ∈ cs, c.pure = true
  | [], _, c, hc => by simp at hc
  | d :: cs, h, c, hc => by
    simp only [allPure, Bool.and_eq_true] at h
    rcases List.mem_cons.1 hc with rfl | hc
    · exact h.1
    · exact allPure_spec h.2 c hc
theorem run_storeAt {t : TypeId} {ti : TI} (ht : tiOf P t = some ti) {b off : Nat} {y : Value} {cur : Array Value} {e : TypeId} (hb : W.heap[b]? = some (.cells cur e (0, 0)))
    (hs : y.cells.size = ti.size) (hl : off + ti.size ≤ cur.size) (h1 : ∀ v ∈ y.cells.toList, v.oneCell' = true) :
    (Instr.storeAt t (.pointer (some ⟨b, off, none⟩)) y).run P W = .ok () (W.setRow b (cur.toList.take off ++ y.cells.toList ++ cur.toList.drop (off + ti.size)).toArray) := by
  obtain ⟨i, z, d, g1, g2, g3, g4, g5, g6, g7, g8⟩ := tiOf_spec ht
  have := run_storeCells_at P b off e y.cells.toList 0 cur W hb (by simp; omega) h1
  simp only [Nat.add_zero, Array.length_toList, hs] at this
  simp [Instr.storeAt, Instr.sureAddr, storeVar, sizeOf, typeInfo, g1, g3, hs, this]
theorem RC_all_one {cs : List Ce} {vs : List Value} (h : All2 (RC E) cs vs) : ∀ v ∈ vs, v.oneCell' = true := by
  intro v hv
  obtain ⟨i, hi⟩ := List.getElem?_of_mem hv
  obtain ⟨c, _, hc⟩ := h.get' hi
  exact RC.one hc
theorem seg_get {l new : List Value} {off q : Nat} (hl : off + new.length ≤ l.length) : (l.take off ++ new ++ l.drop (off + new.length))[q]? = if off ≤ q ∧ q < off + new.length then new[q - off]? else l[q]? := by
  rw [List.append_assoc, List.getElem?_append, List.length_take, Nat.min_eq_left (by omega)]
  by_cases h1 : q < off
  · rw [if_pos h1, if_neg (by omega), List.getElem?_take, if_pos h1]
  · rw [if_neg h1, List.getElem?_append]
    by_cases h2 : q < off + new.length
    · rw [if_pos (by omega), if_pos ⟨by omega, h2⟩]
    · rw [if_neg (by omega), if_neg (by omega), List.getElem?_drop]; congr 1; omega
theorem exts_length : ∀ {cs : List Ce}, (exts cs).length = cs.length
  | [] => rfl
  | c :: cs => by simp [exts, exts_length]
theorem exts_RC : ∀ {cs : List Ce} {vs : List Value}, All2 (RC E) cs vs → All2 (RC E) (exts cs) vs
  | [], _, h => by obtain rfl := h.nil_iff; exact .nil
  | c :: cs, _, h => by obtain ⟨v, l, rfl, h1, h2⟩ := h.cons_iff; exact .cons h1.ext (exts_RC h2)
theorem some_unique {α : Type} {o : Option α} {x y : α} (h : o = some x) (h' : o = some y) : y = x := by rw [h] at h'; exact (Option.some.inj h').symm
theorem storeM_run {t : TypeId} {ti : TI} (ht : tiOf P t = some ti) (h : RelM G cx m st a W) {x y : TV} {v u : Value} (hx : RT (en cx m st.ob W) x v) (hy : RT (en cx m st.ob W) y u) {new : List Ce} (hn : y.cells = some new) {out : Out}
    (ho : storeM (fun j => lk j st.ob) ti new x = some out) (hp : out.pre) :
    out.v = none ∧ ∃ j o' W', out.ef = .upd j o' ∧ (Instr.storeAt t v u).run P W = .ok () W' ∧ RelM G cx m ⟨st.tm, put j o' st.ob⟩ a W' := by
  have hu : All2 (RC (en cx m st.ob W)) new u.cells.toList := by
    cases y with
    | v pv => exact PV.cells_RC hn hy
    | _ => simp [TV.cells] at hn
  have hul : u.cells.size = new.length := by have := hu.length; simp at this; omega
  unfold storeM at ho
  split at ho
  · rename_i j off
    split at ho
    · rename_i cs hj
      split at ho
      · rename_i hc
        injection ho with ho; subst ho
        obtain ⟨b, h1, h2⟩ := hx.2 cs hj
        subst h2
        obtain ⟨b', vs, e, g1, g2, g3⟩ := h.ob j _ hj
        obtain rfl := some_unique (show m j = some b from h1) g1
        have hvl : vs.size = cs.length := by have := g3.length; simp at this; omega
        have hrun := run_storeAt (y := u) ht (off := off) g2 (by omega) (by omega) (RC_all_one hu)
        rw [← hc.1, ← hul] at hrun
        refine ⟨rfl, j, _, _, rfl, hrun, ?_⟩
        have hsz : (vs.toList.take off ++ u.cells.toList ++ vs.toList.drop (off + u.cells.size)).toArray.size = vs.size := by simp; omega
        have he := en_upd h (o' := .box (over cs off new)) hj h1 g2 hsz rfl rfl (Nat.le_refl _)
        refine h.write hj h1 g2 hsz rfl rfl (Nat.le_refl _) ⟨b', _, e, h1, setRow_heap W b' vs _ e (0, 0) g2, ?_⟩
        have := (All2.over g3 hu off).mono (fun c v hc => RC.mono he (fun _ _ => trivial) hc)
        simpa using this
      · cases ho
    · cases ho
  · rename_i j n i off
    split at ho
    · rename_i l hj
      split at ho
      · rename_i w
        split at ho
        · rename_i hc
          injection ho with ho; subst ho
          obtain ⟨hl, hi⟩ := hp
          obtain ⟨q1, b, q2, q3⟩ := hx.2 _ hj (by simp only [Ob.len]; omega)
          subst q3
          rcases h.ob j _ hj with ⟨g1, g2⟩ | ⟨b', vs, e, g1, g2, g3⟩
          · simp [g1] at hl; omega
          obtain rfl := some_unique (show m j = some b from q2) g1
          obtain ⟨u', us', e1, e2, e3⟩ := hu.cons_iff
          obtain rfl := e3.nil_iff
          have hi' : i < vs.size := by
            have := g3 i _ (getD_some (d := 0) (show i < l.length by omega))
            exact (Array.getElem?_eq_some_iff.1 this).1
          have hrun := run_storeAt (y := u) (W := W) ht (off := i) g2 (by simp [hul, hc.2]) (by omega) (RC_all_one hu)
          have e0 : i * Ob.sz (.wr l) + off = i := by simp [Ob.sz, hc.1]
          rw [e0]
          refine ⟨rfl, j, _, _, rfl, hrun, ?_⟩
          have hsz : (vs.toList.take i ++ u.cells.toList ++ vs.toList.drop (i + ti.size)).toArray.size = vs.size := by simp [e1, hc.2]; omega
          refine h.write hj q2 g2 hsz rfl rfl (by simp [Ob.len]) (.inr ⟨b', _, e, q2, setRow_heap W b' vs _ e (0, 0) g2, fun k x hk => ?_⟩)
          have hlen : i + (u.cells.toList).length ≤ vs.toList.length := by simp [hul]; omega
          have := seg_get (q := k) hlen
          rw [e1] at this
          simp only [List.length_singleton] at this
          rw [List.getElem?_toArray, e1, hc.2, this]
          by_cases hki : k = i
          · subst hki
            simp only [List.getElem?_set] at hk
            simp at hk
            have e2' : u' = .int .u64 w := e2
            simp [e2', hk.2]
          · rw [List.getElem?_set_ne (Ne.symm hki)] at hk
            have h7 := g3 k x hk
            rw [if_neg (by omega)]
            simpa using h7
        · cases ho
      · cases ho
    · rename_i sz l hj
      have hu := exts_RC hu
      have hul : u.cells.size = (exts new).length := by rw [exts_length]; exact hul
      have hen := exts_length (cs := new)
      clear hn
      revert hu hul hen
      generalize exts new = xnew at ho ⊢
      intro hu hul hen
      have key : ∀ (new' : List Ce), xnew.length = ti.size → allPure xnew = true → off + xnew.length ≤ sz → new' = over (l.getD i []) off xnew → l.length = n ∧ i < n → 
          (none : Option TV) = none ∧ ∃ j_1 o' W', Eff.upd j (.sr sz (l.set i new')) = .upd j_1 o' ∧ (Instr.storeAt t v u).run P W = .ok () W' ∧ RelM G cx m ⟨st.tm, put j_1 o' st.ob⟩ a W' := by
        intro new' c1 c2 c3 c4 hp
        subst c4
        obtain ⟨hl, hi⟩ := hp
        obtain ⟨q1, b, q2, q3⟩ := hx.2 _ hj (by simp only [Ob.len]; omega)
        subst q3
        have hgi := getD_some (d := []) (show i < l.length by omega)
        rcases h.ob j _ hj with ⟨g1, g2⟩ | ⟨b', vs, e, g1, g2, g3⟩
        · simp [g1] at hl; omega
        obtain rfl := some_unique (show m j = some b from q2) g1
        obtain ⟨g4, us, g5, g6⟩ := g3 i _ hgi
        have husl : us.length = sz := by rw [← g5.2.length, g4]
        have hfit : i * sz + sz ≤ vs.size := by
          rcases Nat.eq_zero_or_pos sz with hz | hz
          · subst hz
            simp
          · have := g6 (sz - 1) (us.getD (sz - 1) undef) (getD_some (by omega))
            have := (Array.getElem?_eq_some_iff.1 this).1
            omega
        have hrun := run_storeAt (y := u) (W := W) ht (off := i * sz + off) g2 (by omega) (by omega) (RC_all_one hu)
        refine ⟨rfl, j, _, _, rfl, hrun, ?_⟩
        have hlen : i * sz + off + (u.cells.toList).length ≤ vs.toList.length := by simp [hul]; omega
        have hsz : (vs.toList.take (i * sz + off) ++ u.cells.toList ++ vs.toList.drop (i * sz + off + ti.size)).toArray.size = vs.size := by simp [hul]; omega
        have he := en_upd h (o' := .sr sz (l.set i (over (l.getD i []) off xnew))) hj q2 g2 hsz rfl rfl (by simp [Ob.len])
        refine h.write hj q2 g2 hsz rfl rfl (by simp [Ob.len]) (.inr ⟨b', _, e, q2, setRow_heap W b' vs _ e (0, 0) g2, fun k cs hk => ?_⟩)
        have hseg : ∀ q, (vs.toList.take (i * sz + off) ++ u.cells.toList ++ vs.toList.drop (i * sz + off + ti.size)).toArray[q]? = if i * sz + off ≤ q ∧ q < i * sz + off + xnew.length then u.cells.toList[q - (i * sz + off)]? else vs[q]? := fun q => by
          have := seg_get (q := q) hlen
          simp only [Array.length_toList, hul] at this
          rw [List.getElem?_toArray, ← c1, this]; simp
        by_cases hki : k = i
        · subst hki
          rw [List.getElem?_set_self (by omega : k < l.length)] at hk
          injection hk with hk
          subst hk
          refine ⟨by rw [over_length (by omega)]; exact g4, us.take off ++ u.cells.toList ++ us.drop (off + u.cells.toList.length), ⟨?_, (All2.over g5.2 hu off).mono (fun c v hc => RC.mono he (fun _ _ => trivial) hc)⟩, fun q w hq => ?_⟩
          · intro c hc
            unfold over at hc
            simp only [List.mem_append] at hc
            rcases hc with (hc | hc) | hc
            · exact g5.1 c (List.mem_of_mem_take hc)
            · exact allPure_spec c2 c hc
            · exact g5.1 c (List.mem_of_mem_drop hc)
          · rw [hseg]
            have hl2 : off + (u.cells.toList).length ≤ us.length := by simp [hul]; omega
            rw [seg_get hl2] at hq
            have hul' : u.cells.toList.length = xnew.length := by simp [hul]
            rw [hul'] at hq
            by_cases hc : off ≤ q ∧ q < off + xnew.length
            · rw [if_pos hc] at hq
              rw [if_pos (by omega), show k * sz + q - (k * sz + off) = q - off by omega]; exact hq
            · rw [if_neg hc] at hq
              rw [if_neg (by omega)]; exact g6 q w hq
        · rw [List.getElem?_set_ne (Ne.symm hki)] at hk
          obtain ⟨k4, ks, k5, k6⟩ := g3 k cs hk
          refine ⟨k4, ks, k5.mono he, fun q w hq => ?_⟩
          have hql : q < sz := by rw [← k4, k5.2.length]; exact (List.getElem?_eq_some_iff.1 hq).1
          rw [hseg, if_neg]
          · exact k6 q w hq
          · intro ⟨z1, z2⟩
            rcases Nat.lt_or_ge k i with hlt | hge
            · have : k * sz + sz ≤ i * sz := by have := Nat.mul_le_mul_right sz (show k + 1 ≤ i by omega); rw [Nat.succ_mul] at this; exact this
              omega
            · have : i * sz + sz ≤ k * sz := by have := Nat.mul_le_mul_right sz (show i + 1 ≤ k by omega); rw [Nat.succ_mul] at this; exact this
              omega
      split at ho
      · rename_i hc
        split at ho
        · rename_i hd
          injection ho with ho; subst ho
          refine key xnew (by omega) hc.2 (by omega) ?_ hp
          have hgi := getD_some (d := []) (show i < l.length from hp.1 ▸ hp.2)
          rcases h.ob j _ hj with ⟨g1, g2⟩ | ⟨b', vs, e, g1, g2, g3⟩
          · exact absurd (hp.1 ▸ hp.2) (by simp [g1])
          obtain ⟨g4, _⟩ := g3 i _ hgi
          unfold over; rw [hd.1]; simp [show xnew.length = sz by omega, ← g4]
        · split at ho
          · rename_i hd
            injection ho with ho; subst ho
            exact key _ (by omega) hc.2 (by omega) rfl hp
          · cases ho
      · cases ho
    · cases ho
  · cases ho
end
end Go.Proofs.YtbhokdhkfodpfaaGreatDoor
/- What 'stepM' says of addresses, slices and new memory, the machine does. No condition. -/
namespace Go.Proofs.YtbhokdhkfodpfaaGreatDoor
set_option linter.unusedVariables false
set_option linter.unusedSimpArgs false
section
variable {P : Program} {G : Gl} {cx : Cx} {m : Nat → Option Nat} {st : St} {a : Act} {W : World}
theorem indexM_run {t e : TypeId} {te : TI} (ht : P.underlying t = some (.slice e)) (he : tiOf P e = some te) (h : RelM G cx m st a W) {x : TV} {v : Value} (hx : RT (en cx m st.ob W) x v) {k : IntKind} {i : Int} {out : Out}
    (ho : indexM (fun j => lk j st.ob) te i x = some out) (hp : out.pre) :
    out.ef = .none ∧ ∃ y u, out.v = some y ∧ (Instr.indexAt t v (.int k i)).run P W = .ok u W ∧ RT (en cx m st.ob W) y u := by
  obtain ⟨ii, z, d, g1, g2, g3, g4, g5, g6, g7, g8⟩ := tiOf_spec he
  unfold indexM at ho
  split at ho
  · rename_i fr l
    split at ho
    · rename_i hs
      injection ho with ho; subst ho
      obtain ⟨a', c, h1, h2, h3⟩ := hx
      subst h1
      obtain ⟨ad, h4, h5, h6, h7⟩ := h3 i.toNat _ (getD_some (d := 0) (show i.toNat < l.length by have := hp.1; have := hp.2; omega))
      subst h4
      refine ⟨rfl, _, .pointer (some (ad.add (i.toNat * te.size))), rfl, ?_, ad.add (i.toNat * te.size), rfl, by rw [add_block]; exact h5, [.int .u64 ((l.getD i.toNat 0 : Nat) : Int)], ⟨by simp [Ce.pure], .cons (show RC _ (.n (l.getD i.toNat 0)) _ from rfl) .nil⟩, ?_⟩
      · simp [Instr.indexAt, asIntOf, underlying, ht, hp.1, hp.2, sizeOf, typeInfo, g1, g3]
      · intro q u hq
        cases q with
        | zero => simp at hq; subst hq; rw [hs, Nat.mul_one, addr_add, Nat.add_zero]; exact h7
        | succ q => simp at hq
    · cases ho
  · rename_i fr l
    injection ho with ho; subst ho
    obtain ⟨a', c, sz, h1, h2, h3⟩ := hx
    subst h1
    obtain ⟨p1, p2, p3⟩ := hp
    obtain ⟨h4, ad, h5, h6, h7, vs, h8, h9⟩ := h3 i.toNat _ (getD_some (d := []) (show i.toNat < l.length by omega))
    subst h5
    refine ⟨rfl, _, .pointer (some (ad.add (i.toNat * te.size))), rfl, ?_, ad.add (i.toNat * te.size), rfl, by rw [add_block]; exact h6, vs, h8, by rw [← p3, h4]; exact h9⟩
    simp [Instr.indexAt, asIntOf, underlying, ht, p1, p2, sizeOf, typeInfo, g1, g3]
  · rename_i j n
    split at ho
    · rename_i o hj
      split at ho
      · cases ho
      · split at ho
        · rename_i hb hs
          injection ho with ho; subst ho
          obtain ⟨p1, p2, p3⟩ := hp
          obtain ⟨q1, q2⟩ := hx.2 o hj (by omega)
          rcases q2 with ⟨z1, z2, z3⟩ | ⟨b, cap, e', q3, q4, q5, q6⟩
          · omega
          subst q4
          refine ⟨rfl, _, .pointer (some ((⟨b, 0, none⟩ : Addr).add (i.toNat * te.size))), rfl, ?_, ?_⟩
          · simp [Instr.indexAt, asIntOf, underlying, ht, p2, p3, sizeOf, typeInfo, g1, g3]
          · refine ⟨rfl, fun o' ho' hle => ?_⟩
            have : o' = o := some_unique hj ho'
            subst this
            exact ⟨p1, b, q3, by rw [addr_add0, hs]; simp⟩
        · cases ho
    · cases ho
  · cases ho
theorem run_bound {k : IntKind} {i : Int} {y : Nat} {code : BoundsCode} (h0 : 0 ≤ i) (h : i ≤ y) : (Instr.sliceBound (.int k i) y code).run P W = .ok i.toNat W := by
  simp [Instr.sliceBound, asIntOf, h0, h]
/-- The bounds of a slice expression. -/
def Bnd (len cap : Nat) (lo hi : Int) (vlo vhi vmx : Option Value) (M : Nat) : Prop :=
  (vlo = none ∧ lo = 0 ∨ vlo = some (.int .i64 lo)) ∧ 0 ≤ lo ∧ lo ≤ hi ∧ hi ≤ len ∧ len ≤ cap ∧
  ((vmx = none ∧ M = cap ∧ (vhi = none ∧ hi = len ∨ vhi = some (.int .i64 hi))) ∨ (vmx = some (.int .i64 M) ∧ vhi = some (.int .i64 hi) ∧ hi ≤ M ∧ M ≤ len))
theorem run_bounds {len cap M : Nat} {lo hi : Int} {vlo vhi vmx : Option Value} (h : Bnd len cap lo hi vlo vhi vmx M) : (Instr.sliceBounds true len cap vlo vhi vmx).run P W = .ok (lo.toNat, hi.toNat, M) W := by
  obtain ⟨h1, g1, g2, g3, g4, h2⟩ := h
  have b1 : ∀ code, (Instr.sliceBound (.int .i64 lo) hi.toNat code).run P W = .ok lo.toNat W := fun code => run_bound g1 (by omega)
  have b2 : ∀ code, (Instr.sliceBound (.int .i64 hi) cap code).run P W = .ok hi.toNat W := fun code => run_bound (by omega) (by omega)
  rcases h2 with ⟨rfl, rfl, h3⟩ | ⟨rfl, rfl, g5, g6⟩
  · rcases h3 with ⟨rfl, rfl⟩ | rfl
    · rcases h1 with ⟨rfl, rfl⟩ | rfl
      · simp [Instr.sliceBounds]
      · simp only [Int.toNat_natCast] at b1
        simp [Instr.sliceBounds, b1]
    · rcases h1 with ⟨rfl, rfl⟩ | rfl
      · simp [Instr.sliceBounds, b2]
      · simp [Instr.sliceBounds, b1, b2]
  · have b3 : ∀ code, (Instr.sliceBound (.int .i64 (M : Int)) cap code).run P W = .ok M W := fun code => by rw [run_bound (by omega) (by omega)]; simp
    have b4 : ∀ code, (Instr.sliceBound (.int .i64 hi) M code).run P W = .ok hi.toNat W := fun code => run_bound (by omega) (by omega)
    rcases h1 with ⟨rfl, rfl⟩ | rfl
    · simp [Instr.sliceBounds, b3, b4]
    · simp [Instr.sliceBounds, b1, b3, b4]
theorem run_slice {t e : TypeId} {te : TI} (ht : P.underlying t = some (.slice e)) (he : tiOf P e = some te) {ad : Option Addr} {len cap M : Nat} {lo hi : Int} {vlo vhi vmx : Option Value} (h : Bnd len cap lo hi vlo vhi vmx M) :
    (Instr.sliceAt t (.slice ad len cap) vlo vhi vmx).run P W = .ok (.slice (if M = lo.toNat then ad else ad.map (·.add (lo.toNat * te.size))) (hi.toNat - lo.toNat) (M - lo.toNat)) W ∧ hi.toNat ≤ M := by
  obtain ⟨ii, z, d, g1, g2, g3, g4, g5, g6, g7, g8⟩ := tiOf_spec he
  refine ⟨by simp [Instr.sliceAt, Instr.slice, underlying, ht, run_bounds h, sizeOf, typeInfo, g1, g3], ?_⟩
  obtain ⟨h1, g1, g2, g3, g4, h2⟩ := h
  rcases h2 with ⟨_, rfl, _⟩ | ⟨_, _, g5, g6⟩ <;> omega
theorem sliceM_run {t e : TypeId} {te : TI} (ht : P.underlying t = some (.slice e)) (he : tiOf P e = some te) {E : En} {x : TV} {v : Value} (hx : RT E x v) {n lo hi : Int} {mx : Option Int} {vlo vhi vmx : Option Value} {out : Out}
    (hn : lenTV x = some n) (h1 : vlo = none ∧ lo = 0 ∨ vlo = some (.int .i64 lo)) (h2 : (vmx = none ∧ mx = none ∧ (vhi = none ∧ hi = n ∨ vhi = some (.int .i64 hi))) ∨ ∃ y, vmx = some (.int .i64 y) ∧ mx = some y ∧ vhi = some (.int .i64 hi))
    (ho : sliceM te.size lo hi mx x = some out) (hp : out.pre) :
    out.ef = .none ∧ ∃ y u, out.v = some y ∧ (Instr.sliceAt t v vlo vhi vmx).run P W = .ok u W ∧ RT E y u := by
  have bn : ∀ (len cap : Nat), (len : Int) = n → len ≤ cap → 0 ≤ lo → lo ≤ hi → hi ≤ len → (∀ x, mx = some x → hi ≤ x ∧ x ≤ len) → ∃ M, Bnd len cap lo hi vlo vhi vmx M := by
    intro len cap q1 q2 q3 q4 q5 q6
    rcases h2 with ⟨rfl, rfl, h3⟩ | ⟨y, rfl, rfl, rfl⟩
    · exact ⟨cap, h1, q3, q4, q5, q2, .inl ⟨rfl, rfl, by rw [q1]; exact h3⟩⟩
    · have := q6 y rfl
      exact ⟨y.toNat, h1, q3, q4, q5, q2, .inr ⟨by congr 2; omega, rfl, by omega, by omega⟩⟩
  unfold sliceM at ho
  split at ho
  · rename_i fr l
    split at ho
    case isFalse => cases ho
    rename_i hsz
    injection ho with ho; subst ho
    obtain ⟨p1, p2, p3, p4⟩ := hp
    obtain ⟨a', c, q1, q2, q3⟩ := hx
    subst q1
    simp only [lenTV, Option.some.injEq] at hn
    obtain ⟨M, hB⟩ := bn l.length c hn q2 p1 p2 p3 p4
    obtain ⟨r1, r2⟩ := run_slice (W := W) (ad := a') ht he hB
    have hll : (List.take (hi.toNat - lo.toNat) (List.drop lo.toNat l)).length = hi.toNat - lo.toNat := by simp; omega
    refine ⟨rfl, _, _, rfl, r1, _, _, by rw [hll], by rw [hll]; omega, fun i x hi' => ?_⟩
    rw [List.getElem?_take] at hi'
    split at hi'
    · rename_i hlt
      rw [List.getElem?_drop] at hi'
      obtain ⟨ad, h4, h5, h6, h7⟩ := q3 _ _ hi'
      subst h4
      refine ⟨ad.add (lo.toNat * te.size), by rw [if_neg (by omega)]; rfl, by rw [add_block]; exact h5, fun hf => by rw [add_block]; exact h6 hf, ?_⟩
      rw [hsz, Nat.mul_one, addr_add]; exact h7
    · cases hi'
  · rename_i fr l
    injection ho with ho; subst ho
    obtain ⟨p1, p2, p3, p4, hsz'⟩ := hp
    obtain ⟨a', c, sz, q1, q2, q3⟩ := hx
    subst q1
    simp only [lenTV, Option.some.injEq] at hn
    obtain ⟨M, hB⟩ := bn l.length c hn q2 p1 p2 p3 p4
    obtain ⟨r1, r2⟩ := run_slice (W := W) (ad := a') ht he hB
    have hll : (List.take (hi.toNat - lo.toNat) (List.drop lo.toNat l)).length = hi.toNat - lo.toNat := by simp; omega
    refine ⟨rfl, _, _, rfl, r1, _, _, te.size, by rw [hll], by rw [hll]; omega, fun i cs hi' => ?_⟩
    rw [List.getElem?_take] at hi'
    split at hi'
    · rename_i hlt
      rw [List.getElem?_drop] at hi'
      obtain ⟨h3, ad, h4, h5, h6, vs, h7, h8⟩ := q3 _ _ hi'
      subst h4
      have hcs := hsz' cs (List.mem_of_getElem? hi')
      refine ⟨hcs, ad.add (lo.toNat * te.size), by rw [if_neg (by omega)]; rfl, by rw [add_block]; exact h5, fun hf => by rw [add_block]; exact h6 hf, vs, h7, ?_⟩
      rw [addr_add, ← Nat.add_mul, ← hcs, h3]; exact h8
    · cases hi'
  · injection ho with ho; subst ho
    obtain ⟨p1, p2, p3⟩ := hp
    have hx' : v = .slice none 0 0 := hx
    subst hx'
    simp only [lenTV, Option.some.injEq] at hn
    obtain ⟨M, hB⟩ := bn 0 0 (by omega) (by omega) (by omega) (by omega) (by omega) (fun x hx => by have := p3 x hx; omega)
    obtain ⟨r1, r2⟩ := run_slice (W := W) (ad := none) ht he hB
    refine ⟨rfl, _, _, rfl, r1, ?_⟩
    obtain ⟨_, _, _, _, _, h2⟩ := hB
    have hM : M = 0 := by rcases h2 with ⟨_, rfl, _⟩ | ⟨_, _, g5, g6⟩ <;> omega
    show Value.slice _ _ _ = Value.slice _ _ _
    rw [hM, p1, p2]; rfl
  · cases ho
theorem placesOf_get : ∀ {fs : List Field} {l : List (Nat × Nat)}, placesOf P fs = some l → ∀ {i : Nat} {x : Nat × Nat}, l[i]? = some x → ∃ f ti, fs[i]? = some f ∧ P.info? f.type = some ti ∧ x = (f.offset, ti.size)
  | [], l, h, i, x, hx => by simp only [placesOf, Option.some.injEq] at h; subst h; simp at hx
  | f :: fs, l, h, i, x, hx => by
    simp only [placesOf] at h
    split at h
    · rename_i ti l' h1 h2
      injection h with h; subst h
      cases i with
      | zero => simp at hx; exact ⟨f, ti, rfl, h1, hx.symm⟩
      | succ i =>
        obtain ⟨f', ti', g1, g2, g3⟩ := placesOf_get h2 (i := i) (by simpa using hx)
        exact ⟨f', ti', by simpa using g1, g2, g3⟩
    · cases h
theorem fieldM_run {s : TypeId} {a1 b1 : Nat} {z : List Ce} {fs : List (Nat × Nat)} (ht : tiOf P s = some ⟨a1, b1, z, .struct fs⟩) {f off sz : Nat} (hf : fs[f]? = some (off, sz)) (hsz : sz ≠ 0) (h : RelM G cx m st a W) {x : TV} {v : Value} (hx : RT (en cx m st.ob W) x v) {out : Out}
    (ho : fieldM (fun j => lk j st.ob) off x = some out) (hp : out.pre) :
    out.ef = .none ∧ ∃ y u, out.v = some y ∧ (Instr.fieldAt s v f).run P W = .ok u W ∧ RT (en cx m st.ob W) y u := by
  obtain ⟨g, h1, h2⟩ := tiOf_struct ht
  obtain ⟨fd, ti, g1, g2, g3⟩ := placesOf_get h2 hf
  simp only [Prod.mk.injEq] at g3
  obtain ⟨rfl, rfl⟩ := g3
  have run : ∀ ad : Addr, (Instr.fieldAt s (.pointer (some ad)) f).run P W = .ok (.pointer (some (ad.add fd.offset))) W := fun ad => by
    have : g[f]? = some fd := by simpa using g1
    simp [Instr.fieldAt, underlying, h1, this, Instr.sureAddr, fieldPlace, sizeOf, typeInfo, g2, hsz]
  unfold fieldM at ho
  split at ho
  · split at ho
    · rename_i cs hj
      injection ho with ho; subst ho
      obtain ⟨b, q1, q2⟩ := hx.2 cs hj
      subst q2
      refine ⟨rfl, _, _, rfl, run _, rfl, fun cs' hcs' => ⟨b, q1, by rw [addr_add0]⟩⟩
    · cases ho
  · split at ho
    · rename_i ob hj
      injection ho with ho; subst ho
      have hp' : ob.len = _ := hp
      obtain ⟨q1, b, q2, q3⟩ := hx.2 ob hj (by omega)
      subst q3
      refine ⟨rfl, _, _, rfl, run _, rfl, fun o' ho' hle => ?_⟩
      have : o' = ob := some_unique hj ho'
      subst this
      exact ⟨q1, b, q2, by rw [addr_add0, Nat.add_assoc]⟩
    · cases ho
  · injection ho with ho; subst ho
    have hx' : v = .pointer (some _) := hx
    subst hx'
    exact ⟨rfl, _, _, rfl, run _, by rw [addr_add0]; rfl⟩
  · injection ho with ho; subst ho
    obtain ⟨ad, q1, q2, vs, q3, q4⟩ := hx
    subst q1
    refine ⟨rfl, _, _, rfl, run _, _, rfl, by rw [add_block]; exact q2, vs.drop fd.offset, ⟨fun c hc => q3.1 c (List.mem_of_mem_drop hc), q3.2.drop _⟩, fun q u hq => ?_⟩
    rw [addr_add]; exact q4 _ _ (by simpa using hq)
  · cases ho
end
end Go.Proofs.YtbhokdhkfodpfaaGreatDoor
/- What 'stepM' says of new memory, the machine does. No condition. -/
namespace Go.Proofs.YtbhokdhkfodpfaaGreatDoor
set_option linter.unusedVariables false
set_option linter.unusedSimpArgs false
section
variable {P : Program} {G : Gl} {cx : Cx} {m : Nat → Option Nat} {st : St} {a : Act} {W : World} {E : En}
theorem shape_new {W : World} {vs : Array Value} {e : TypeId} {fr : Nat × Nat} : (W.alloc (.cells vs e fr)).shape? W.heap.size = some (e, vs.size) := by
  unfold World.shape?; rw [heap_alloc_new]
/-- A new box. -/
theorem RelM.box (h : RelM G cx m st a W) {lab : Nat} (hf : st.free lab = true) {cs : List Ce} {vs : Array Value} (e : TypeId) (hc : All2 (RC (en cx m st.ob W)) cs vs.toList) (hl : csHas lab cs = false) :
    RelM G cx (upd m lab (some W.heap.size)) ⟨st.tm, put lab (.box cs) st.ob⟩ a (W.alloc (.cells vs e (0, 0))) ∧
    RT (en cx (upd m lab (some W.heap.size)) (put lab (.box cs) st.ob) (W.alloc (.cells vs e (0, 0)))) (.v (.c (.p lab 0))) (.pointer (some ⟨W.heap.size, 0, none⟩)) := by
  have he := en_new h (lab := lab) (.box cs) (.cells vs e (0, 0))
  refine ⟨h.new hf _ _ ⟨W.heap.size, vs, e, upd_self _ _ _, heap_alloc_new, hc.mono' fun c hcm v hv => RC.mono he (fun j hj e => ?_) hv⟩, rfl, fun cs' hcs => ⟨W.heap.size, upd_self _ _ _, rfl⟩⟩
  subst e
  exact csHas_labs hl (List.mem_flatMap.2 ⟨c, hcm, hj⟩)
/-- A new row of words. -/
theorem RelM.row (h : RelM G cx m st a W) {lab : Nat} (hf : st.free lab = true) {l : List Nat} {vs : Array Value} (e : TypeId) (hl : vs.size = l.length) (hc : ∀ (i : Nat) (x : Nat), l[i]? = some x → vs[i]? = some (Value.int .u64 (x : Nat))) :
    RelM G cx (upd m lab (some W.heap.size)) ⟨st.tm, put lab (.wr l) st.ob⟩ a (W.alloc (.cells vs e (0, 0))) ∧
    RT (en cx (upd m lab (some W.heap.size)) (put lab (.wr l) st.ob) (W.alloc (.cells vs e (0, 0)))) (.v (.c (.r lab l.length))) (.slice (some ⟨W.heap.size, 0, none⟩) l.length l.length) := by
  refine ⟨h.new hf _ _ (.inr ⟨W.heap.size, vs, e, upd_self _ _ _, heap_alloc_new, hc⟩), rfl, fun o ho hle => ?_⟩
  have ho' : lk lab (put lab (.wr l) st.ob) = some o := ho
  rw [lk_put_self] at ho'
  injection ho' with ho'
  subst ho'
  refine ⟨rfl, .inr ⟨W.heap.size, l.length, e, upd_self _ _ _, rfl, Nat.le_refl _, ?_⟩⟩
  show (W.alloc _).shape? _ = _
  rw [shape_new, hl]; simp [Ob.sz]
/-- A new row of structs. -/
theorem RelM.srow (h : RelM G cx m st a W) {lab : Nat} (hf : st.free lab = true) {sz : Nat} {l : List (List Ce)} {vs : Array Value} (e : TypeId) (hl : vs.size = l.length * sz)
    (hc : ∀ i cs, l[i]? = some cs → cs.length = sz ∧ ∃ us, RCs (en cx m st.ob W) cs us ∧ ∀ q u, us[q]? = some u → vs[i * sz + q]? = some u) :
    RelM G cx (upd m lab (some W.heap.size)) ⟨st.tm, put lab (.sr sz l) st.ob⟩ a (W.alloc (.cells vs e (0, 0))) ∧
    RT (en cx (upd m lab (some W.heap.size)) (put lab (.sr sz l) st.ob) (W.alloc (.cells vs e (0, 0)))) (.v (.c (.r lab l.length))) (.slice (some ⟨W.heap.size, 0, none⟩) l.length l.length) := by
  have he := en_new h (lab := lab) (.sr sz l) (.cells vs e (0, 0))
  refine ⟨h.new hf _ _ (.inr ⟨W.heap.size, vs, e, upd_self _ _ _, heap_alloc_new, fun i cs hi => ?_⟩), rfl, fun o ho hle => ?_⟩
  · obtain ⟨h1, us, h2, h3⟩ := hc i cs hi
    exact ⟨h1, us, h2.mono he, h3⟩
  · have ho' : lk lab (put lab (.sr sz l) st.ob) = some o := ho
    rw [lk_put_self] at ho'
    injection ho' with ho'
    subst ho'
    refine ⟨rfl, .inr ⟨W.heap.size, l.length, e, upd_self _ _ _, rfl, Nat.le_refl _, ?_⟩⟩
    show (W.alloc _).shape? _ = _
    rw [shape_new, hl]; rfl
theorem run_newVar {t : TypeId} (v : Value) : (newVar t v).run P W = .ok ⟨W.heap.size, 0, none⟩ (W.alloc (.cells v.cells t (0, 0))) := by
  simp [newVar, newRow]
/-- The cells of so many zeros. -/
theorem zeros_get {z : Array Value} {n i q : Nat} (hi : i < n) (hq : q < z.size) : ((Array.range (n * z.size)).map fun j => z[j % z.size]!)[i * z.size + q]? = z[q]? := by
  have h1 : i * z.size + q < n * z.size := by have := Nat.mul_le_mul_right z.size (show i + 1 ≤ n by omega); rw [Nat.succ_mul] at this; omega
  rw [Array.getElem?_map, Array.getElem?_range, if_pos h1]
  simp only [Option.map_some]
  rw [Nat.mul_comm, Nat.mul_add_mod, Nat.mod_eq_of_lt hq]
  simp [hq]
theorem isWord_spec {te : TI} (hw : isWord te = true) : te.size = 1 ∧ te.zero = [.n 0] ∧ te.kind = .int .u64 := by
  unfold isWord at hw
  split at hw
  · rename_i k h1 h2
    simp only [Bool.and_eq_true, beq_iff_eq] at hw
    obtain ⟨rfl, h3⟩ := hw
    exact ⟨h3, h2, h1⟩
  · cases hw
theorem run_make_gen {t e : TypeId} {te : TI} (ht : P.underlying t = some (.slice e)) (he : tiOf P e = some te) (n : Int) (h0 : 0 ≤ n) (hb : te.bytes * n ≤ 281474976710656) (hn : n ≤ 281474976710656) :
    ∃ z : Array Value, z.size = te.size ∧ (∀ E, RCs E te.zero z.toList) ∧ (0 < te.size → (Instr.makeSlice t (.int .i64 n) (.int .i64 n)).run P W = .ok (.slice (some ⟨W.heap.size, 0, none⟩) n.toNat n.toNat) (W.alloc (.cells ((Array.range (n.toNat * te.size)).map fun j => z[j % te.size]!) e (0, 0)))) := by
  obtain ⟨ii, z, d, g1, g2, g3, g4, g5, g6, g7, g8⟩ := tiOf_spec he
  refine ⟨z.cells, g7, g6, fun hpos => ?_⟩
  have hw : IntKind.i64.wrap n = n := wrap_in (by rw [inK_i64]; omega)
  have hb' : ¬ (te.bytes * n > 2 ^ 48) := by have : (2 : Int) ^ 48 = 281474976710656 := rfl; omega
  have c2 : ¬ n < 0 := by omega
  have c3 : ¬ (281474976710656 : Int) < te.bytes * n := by omega
  by_cases hz : n.toNat * te.size = 0
  · simp [Instr.makeSlice, run_underlying_ ht, asInt, asIntOf, run_typeInfo_ g1, hw, g4, c2, c3, run_sizeOf_ g1, g3, hz, newRow, show Array.range 0 = #[] from rfl]
  · simp [Instr.makeSlice, run_underlying_ ht, asInt, asIntOf, run_typeInfo_ g1, hw, g4, c2, c3, run_sizeOf_ g1, g3, hz, newRow, g7, run_zeroValue_ g1 g5]
theorem fill_range (place : Nat → Option (Nat × Nat)) (sz : Nat) (hpl : ∀ i, place i = some (i * sz, sz)) {ρ : Operand → Option TV} {val : Operand → Value} (hρ : ∀ x v, ρ x = some v → RT E v (val x)) : ∀ (parts : List (Nat × Operand)) (k : Nat) (l : List (List Ce)) (cells : Array Value) (n : Nat),
    cells.size = n * sz → k + parts.length = n →
    rowsOf ρ sz k parts = some l → ∃ out, Instr.fill place cells (parts.map fun (i, x) => (i, val x)) = some out ∧ out.size = n * sz ∧ (∀ q, q < k * sz → out[q]? = cells[q]?) ∧
      ∀ i cs, l[i]? = some cs → cs.length = sz ∧ ∃ us, RCs E cs us ∧ ∀ q u, us[q]? = some u → out[(k + i) * sz + q]? = some u
  | [], k, l, cells, n, hs, hn, h => by
    simp only [rowsOf, Option.some.injEq] at h; subst h
    exact ⟨cells, rfl, hs, fun _ _ => rfl, fun i cs hi => by simp at hi⟩
  | (i, x) :: parts, k, l, cells, n, hs, hn, h => by
    simp only [rowsOf] at h
    split at h
    · rename_i hik
      subst hik
      split at h
      · rename_i v l' h1 h2
        split at h
        · rename_i cs h3
          split at h
          · rename_i h4
            injection h with h; subst h
            have hv : All2 (RC E) (exts cs) (val x).cells.toList := by
              cases v with
              | v pv => exact exts_RC (PV.cells_RC h3 (hρ _ _ h1))
              | _ => simp [TV.cells] at h3
            have hxl := exts_length (cs := cs)
            have hvl : (val x).cells.size = sz := by have := hv.length; simp at this; omega
            have hin : i * sz + sz ≤ cells.size := by rw [hs]; have := Nat.mul_le_mul_right sz (show i + 1 ≤ n by simp at hn; omega); rw [Nat.succ_mul] at this; exact this
            have hfo := fold_over (i * sz) (val x).cells.toList 0 cells (by simp [hvl]; omega)
            have hlen : i * sz + ((val x).cells.toList).length ≤ cells.toList.length := by simp [hvl]; omega
            obtain ⟨out, g1, g2, g3, g4⟩ := fill_range place sz hpl hρ parts (i + 1) l' ((val x).cells.toList.zipIdx.foldl (fun (cs : Array Value) (x : Value × Nat) => cs.setIfInBounds (i * sz + x.2) x.1) cells) n (by
              have := congrArg List.length hfo
              simp only [Array.length_toList, List.length_append, List.length_take, List.length_drop] at this
              simp only [hvl] at this; rw [this]; omega) (by simp at hn ⊢; omega) h2
            have hget : ∀ q, ((val x).cells.toList.zipIdx.foldl (fun (cs : Array Value) (x : Value × Nat) => cs.setIfInBounds (i * sz + x.2) x.1) cells)[q]? = if i * sz ≤ q ∧ q < i * sz + sz then (val x).cells.toList[q - i * sz]? else cells[q]? := fun q => by
              rw [← Array.getElem?_toList, hfo, Nat.add_zero, seg_get hlen]
              simp [hvl]
            refine ⟨out, ?_, g2, fun q hq => ?_, fun j cs' hj => ?_⟩
            · simp only [List.map_cons, Instr.fill, hpl, hvl]
              rw [if_neg (by simp; omega), ← g1]
              congr 1
              rw [← Array.foldl_toList, Array.toList_zipIdx]
            · rw [g3 q (by rw [Nat.succ_mul]; omega), hget, if_neg (by omega)]
            · cases j with
              | zero =>
                simp at hj; subst hj
                refine ⟨by omega, (val x).cells.toList, ⟨allPure_spec h4.2, hv⟩, fun q u hq => ?_⟩
                have hq' : q < sz := by have := (List.getElem?_eq_some_iff.1 hq).1; simp [hvl] at this; exact this
                rw [Nat.add_zero, g3 _ (by rw [Nat.succ_mul]; omega), hget, if_pos (by omega), show i * sz + q - i * sz = q by omega]
                exact hq
              | succ j =>
                obtain ⟨w1, us, w2, w3⟩ := g4 j cs' (by simpa using hj)
                exact ⟨w1, us, w2, fun q u hq => by have := w3 q u hq; rwa [show i + 1 + j = i + (j + 1) by omega] at this⟩
          · cases h
        · cases h
      · cases h
    · cases h
theorem words_rows {ρ : Operand → Option TV} : ∀ (parts : List (Nat × Operand)) (k : Nat) (l : List Nat), wordsOf ρ k parts = some l → rowsOf ρ 1 k parts = some (l.map fun w => [Ce.n w])
  | [], k, l, h => by simp only [wordsOf, Option.some.injEq] at h; subst h; rfl
  | (i, x) :: parts, k, l, h => by
    simp only [wordsOf] at h
    split at h
    · rename_i hik
      split at h
      · rename_i w l' h1 h2
        injection h with h; subst h
        simp [rowsOf, hik, h1, words_rows parts _ _ h2, TV.cells, PV.cells, allPure, Ce.pure, exts, Ce.ext]
      · cases h
    · cases h
theorem rowsOf_length {ρ : Operand → Option TV} {sz : Nat} : ∀ (parts : List (Nat × Operand)) (k : Nat) (l : List (List Ce)), rowsOf ρ sz k parts = some l → l.length = parts.length
  | [], k, l, h => by simp only [rowsOf, Option.some.injEq] at h; subst h; rfl
  | (i, x) :: parts, k, l, h => by
    simp only [rowsOf] at h
    split at h
    · split at h
      · split at h
        · split at h
          · injection h with h; subst h
            rename_i l' _ h2 _ _ _ _
            simp [rowsOf_length parts _ _ h2]
          · cases h
        · cases h
      · cases h
    · cases h
end
end Go.Proofs.YtbhokdhkfodpfaaGreatDoor
/- What 'stepM' says of append, the machine does. No condition. -/
namespace Go.Proofs.YtbhokdhkfodpfaaGreatDoor
set_option linter.unusedVariables false
set_option linter.unusedSimpArgs false
section
variable {P : Program} {G : Gl} {cx : Cx} {m : Nat → Option Nat} {st : St} {a : Act} {W : World} {E : En}
/-- The elements that stand in cells. -/
def Els (E : En) (sz : Nat) (l : List (List Ce)) (get : Nat → Option Value) : Prop :=
  ∀ (i : Nat) cs, l[i]? = some cs → cs.length = sz ∧ ∃ us, RCs E cs us ∧ ∀ q u, us[q]? = some u → get (i * sz + q) = some u
/-- A slice that reads as these elements. -/
def Src (E : En) (sz : Nat) (v : Value) (l : List (List Ce)) : Prop :=
  ∃ a c, v = .slice a l.length c ∧ l.length ≤ c ∧ (l ≠ [] → ∃ ad, a = some ad ∧ Els E sz l fun q => E.W.cell? (ad.add q))
theorem Els.mono {E' : En} {L : Nat → Prop} (he : EnLe L E E') {sz : Nat} {l : List (List Ce)} {g g' : Nat → Option Value} (hg : ∀ q u, q < l.length * sz → g q = some u → g' q = some u) (h : Els E sz l g) : Els E' sz l g' := fun i cs hi => by
  obtain ⟨h1, us, h2, h3⟩ := h i cs hi
  refine ⟨h1, us, h2.mono he, fun q u hq => hg _ _ ?_ (h3 q u hq)⟩
  have hq' : q < sz := by rw [← h1, h2.2.length]; exact (List.getElem?_eq_some_iff.1 hq).1
  have := Nat.mul_le_mul_right sz (show i + 1 ≤ l.length by have := (List.getElem?_eq_some_iff.1 hi).1; omega)
  rw [Nat.succ_mul] at this; omega
theorem Els.there {sz : Nat} {l : List (List Ce)} {g : Nat → Option Value} (h : Els E sz l g) (k : Nat) (hk : k < l.length * sz) : ∃ u, g k = some u := by
  have hsz : 0 < sz := by rcases Nat.eq_zero_or_pos sz with e | e; subst e; simp at hk; exact e
  have hi : k / sz < l.length := by rw [Nat.div_lt_iff_lt_mul hsz]; exact hk
  obtain ⟨h1, us, h2, h3⟩ := h (k / sz) _ (getD_some (d := []) hi)
  have hq : k % sz < us.length := by rw [← h2.2.length, h1]; exact Nat.mod_lt _ hsz
  have := h3 (k % sz) _ (getD_some (d := undef) hq)
  rw [Nat.mul_comm, Nat.div_add_mod] at this
  exact ⟨_, this⟩
theorem Els.append {sz : Nat} {l l' : List (List Ce)} {xs ys : List Value} (h : Els E sz l fun q => xs[q]?) (h' : Els E sz l' fun q => ys[q]?) (hx : xs.length = l.length * sz) : Els E sz (l ++ l') fun q => (xs ++ ys)[q]? := fun i cs hi => by
  rw [List.getElem?_append] at hi
  split at hi
  · rename_i hlt
    obtain ⟨h1, us, h2, h3⟩ := h i cs hi
    refine ⟨h1, us, h2, fun q u hq => ?_⟩
    have : xs[i * sz + q]? = some u := h3 q u hq
    show (xs ++ ys)[i * sz + q]? = some u
    rw [List.getElem?_append, if_pos (List.getElem?_eq_some_iff.1 this).1]; exact this
  · rename_i hge
    obtain ⟨h1, us, h2, h3⟩ := h' _ cs hi
    refine ⟨h1, us, h2, fun q u hq => ?_⟩
    have : ys[(i - l.length) * sz + q]? = some u := h3 q u hq
    show (xs ++ ys)[i * sz + q]? = some u
    have e1 : i * sz = l.length * sz + (i - l.length) * sz := by rw [← Nat.add_mul]; congr 1; omega
    rw [List.getElem?_append, if_neg (by omega), hx, show i * sz + q - l.length * sz = (i - l.length) * sz + q by omega]; exact this
/-- The cells that 'append' reads. -/
theorem src_cells {sz : Nat} {v : Value} {l : List (List Ce)} (h : Src E sz v l) (hW : E.W = W) : ∃ vs : List Value, vs.length = l.length * sz ∧ (Builtin.firstCells sz l.length v).run P W = .ok vs.toArray W ∧ Els E sz l fun q => vs[q]? := by
  obtain ⟨a', c, h1, h2, h3⟩ := h
  subst h1 hW
  by_cases hl : l = []
  · subst hl
    refine ⟨[], by simp, ?_, fun i cs hi => by simp at hi⟩
    cases a' with
    | none => simp [Builtin.firstCells]
    | some ad => simp [Builtin.firstCells, loadCells, loadCellsFrom]
  · obtain ⟨ad, h4, h5⟩ := h3 hl
    subst h4
    have hr := run_loadCells (P := P) E.W ad (l.length * sz) (fun j => (E.W.cell? (ad.add j)).getD undef) (fun j hj => by obtain ⟨u, hu⟩ := h5.there j hj; simp [hu])
    refine ⟨(List.range (l.length * sz)).map fun j => (E.W.cell? (ad.add j)).getD undef, by simp, by simp [Builtin.firstCells, hr], fun i cs hi => ?_⟩
    obtain ⟨g1, us, g2, g3⟩ := h5 i cs hi
    refine ⟨g1, us, g2, fun q u hq => ?_⟩
    have hc := g3 q u hq
    have hq' : q < sz := by rw [← g1, g2.2.length]; exact (List.getElem?_eq_some_iff.1 hq).1
    have hlt : i * sz + q < l.length * sz := by
      have := Nat.mul_le_mul_right sz (show i + 1 ≤ l.length by have := (List.getElem?_eq_some_iff.1 hi).1; omega)
      rw [Nat.succ_mul] at this; omega
    simp [List.getElem?_range hlt, hc]
theorem growBy_le : ∀ (k n c : Nat), Builtin.growBy n k c ≤ max c (n + (n + 768) / 4 + k * 0)
  | 0, n, c => by simp [Builtin.growBy]; omega
  | k + 1, n, c => by
    simp only [Builtin.growBy]
    split
    · omega
    · have := growBy_le k n (c + (c + 768) / 4)
      omega
theorem nextcap_le (need cap : Nat) (h : cap < need) : Builtin.nextslicecap need cap ≤ 2 * need + 192 := by
  unfold Builtin.nextslicecap
  split
  · omega
  · split
    · omega
    · have := growBy_le 4 need cap; omega
/-- An object as a row of structs. -/
structure AsRow (o : Ob) (sz : Nat) (l : List (List Ce)) : Prop where
  box : o.isBox = false
  size : o.sz = sz
  len : o.len = l.length
  view : ∀ (E : En) (j : Nat), RO E j o ↔ ((l = [] ∧ E.m j = none) ∨ ∃ (b : Nat) (vs : Array Value) (e : TypeId), E.m j = some b ∧ E.W.heap[b]? = some (.cells vs e (0, 0)) ∧ Els E sz l fun q => vs[q]?)
theorem asRow_sr (sz : Nat) (l : List (List Ce)) : AsRow (.sr sz l) sz l := ⟨rfl, rfl, rfl, fun E j => Iff.rfl⟩
theorem els_words {E : En} {l : List Nat} {g : Nat → Option Value} : Els E 1 (l.map fun w => [Ce.n w]) g ↔ ∀ (i : Nat) (x : Nat), l[i]? = some x → g i = some (Value.int .u64 (x : Nat)) := by
  constructor
  · intro h i x hi
    obtain ⟨h1, us, h2, h3⟩ := h i [.n x] (by simp [hi])
    obtain ⟨u, us', e, h4, h5⟩ := h2.2.cons_iff
    subst e
    have h4' : u = .int .u64 x := h4
    have := h3 0 u rfl
    simpa [h4'] using this
  · intro h i cs hi
    rw [List.getElem?_map] at hi
    cases hl : l[i]? with
    | none => simp [hl] at hi
    | some x =>
      simp [hl] at hi; subst hi
      refine ⟨rfl, [.int .u64 (x : Nat)], ⟨by simp [Ce.pure], .cons (show RC _ (.n x) _ from rfl) .nil⟩, fun q u hq => ?_⟩
      cases q with
      | zero => simp at hq; subst hq; simpa using h i x hl
      | succ q => simp at hq
theorem asRow_wr (l : List Nat) : AsRow (.wr l) 1 (l.map fun w => [Ce.n w]) := ⟨rfl, rfl, by simp [Ob.len], fun E j => by
  simp only [RO, els_words, List.map_eq_nil_iff]⟩
theorem en_drew : EnLe (fun _ => True) (en cx m st.ob W) (en cx m st.ob W.drew) :=
  ⟨fun b ⟨h1, h2, h3⟩ => ⟨h1, h2, h3⟩, fun _ _ => rfl, Nat.le_refl _, fun j _ o ho => ⟨o, ho, rfl, rfl, Nat.le_refl _, fun _ => ⟨rfl, fun _ _ => rfl⟩⟩⟩
theorem append_core {t u e e' ty : TypeId} {te : TI} (ht : P.underlying t = some (.slice e)) (hu : P.underlying u = some (.slice e')) (he : tiOf P e = some te) (hby : te.bytes ≤ 64) (hsz : 0 < te.size)
    (h : RelM G cx m st a W) {j n : Nat} {o o' : Ob} {l l' : List (List Ce)} (hj : lk j st.ob = some o) (ho : AsRow o te.size l) (ho' : AsRow o' te.size (l ++ l')) {v x : Value} (hv : RT (en cx m st.ob W) (.v (.c (.r j n))) v) (hn : l.length = n)
    (hx : Src (en cx m st.ob W) te.size x l') (hlen : (l ++ l').length < 1099511627776) :
    ∃ m' W' z, (Builtin.append_ #[t, u] ty #[v, x]).run P W = .ok z W' ∧ RelM G cx m' ⟨st.tm, put j o' st.ob⟩ a W' ∧ RT (en cx m' (put j o' st.ob) W') (.v (.c (.r j (l ++ l').length))) z := by
  obtain ⟨ii, z, d, g1, g2, g3, g4, g5, g6, g7, g8⟩ := tiOf_spec he
  obtain ⟨q1, q2⟩ := hv.2 o hj (by rw [ho.len]; omega)
  have hlx : ∃ ax cx', x = .slice ax l'.length cx' := by obtain ⟨ax, c, e1, _⟩ := hx; exact ⟨ax, c, e1⟩
  have hlenOf : (Builtin.lenOf x).run P W = .ok l'.length W := by obtain ⟨ax, c, e1⟩ := hlx; subst e1; simp [Builtin.lenOf]
  obtain ⟨new, hnl, hnew, hnels⟩ := src_cells (P := P) (W := W) hx rfl
  have hrow := (ho.view _ _).1 (h.ob j o hj)
  have hnewone : ∀ v ∈ new, v.oneCell' = true := by
    intro v hv
    obtain ⟨k, hk⟩ := List.getElem?_of_mem hv
    have hkl : k < l'.length * te.size := by rw [← hnl]; exact (List.getElem?_eq_some_iff.1 hk).1
    have hi : k / te.size < l'.length := by rw [Nat.div_lt_iff_lt_mul hsz]; exact hkl
    obtain ⟨h1, us, h2, h3⟩ := hnels (k / te.size) _ (getD_some (d := []) hi)
    have hq : k % te.size < us.length := by rw [← h2.2.length, h1]; exact Nat.mod_lt _ hsz
    have : new[k / te.size * te.size + k % te.size]? = _ := h3 (k % te.size) _ (getD_some (d := undef) hq)
    rw [Nat.mul_comm, Nat.div_add_mod, hk] at this
    injection this with this
    rw [this]
    exact RC_all_one h2.2 _ (List.mem_of_getElem? (getD_some (d := undef) hq))
  have hlen' : l.length + l'.length < 1099511627776 := by simpa using hlen
  -- what it does where there is room
  have inplace : ∀ (b cap : Nat) (ty' : TypeId), m j = some b → v = .slice (some ⟨b, 0, none⟩) n cap → W.shape? b = some (ty', cap * te.size) → n + l'.length ≤ cap → ∃ m' W' z, (Builtin.append_ #[t, u] ty #[v, x]).run P W = .ok z W' ∧ RelM G cx m' ⟨st.tm, put j o' st.ob⟩ a W' ∧ RT (en cx m' (put j o' st.ob) W') (.v (.c (.r j (l ++ l').length))) z := by
    intro b cap ty' hb hv' hsh hroom
    subst hv'
    rcases hrow with ⟨z1, z2⟩ | ⟨b', vs, e2, r1, r2, r3⟩
    · have z2' : m j = none := z2
      rw [z2'] at hb; cases hb
    obtain rfl := some_unique (show m j = some b from hb) r1
    have r2' : W.heap[b']? = some (.cells vs e2 (0, 0)) := r2
    have hvs : vs.size = cap * te.size := by unfold World.shape? at hsh; rw [r2'] at hsh; simp at hsh; exact hsh.2
    have hfit : n * te.size + new.length ≤ vs.size := by
      rw [hvs, hnl, ← Nat.add_mul]; exact Nat.mul_le_mul_right _ hroom
    have hst := run_storeCells_at P b' (n * te.size) e2 new 0 vs W r2' (by omega) hnewone
    simp only [Nat.add_zero] at hst
    refine ⟨m, W.setRow b' (vs.toList.take (n * te.size) ++ new ++ vs.toList.drop (n * te.size + new.length)).toArray, .slice (some ⟨b', 0, none⟩) (n + l'.length) cap, ?_, ?_⟩
    · simp [Builtin.append_, underlying, ht, hu, run_sizeOf_ g1, g3, hlenOf, hroom, hnew, addr_add0, hst]
    · have hsz2 : (vs.toList.take (n * te.size) ++ new ++ vs.toList.drop (n * te.size + new.length)).toArray.size = vs.size := by simp; omega
      have hlo : o.len ≤ o'.len := by rw [ho.len, ho'.len]; simp
      have hss : o'.sz = o.sz := by rw [ho.size, ho'.size]
      have hbb : o'.isBox = o.isBox := by rw [ho.box, ho'.box]
      have hen := en_upd h (o' := o') hj hb r2' hsz2 hss hbb hlo
      refine ⟨h.write hj hb r2' hsz2 hss hbb hlo ((ho'.view _ _).2 (.inr ⟨b', _, e2, hb, setRow_heap W b' vs _ e2 (0, 0) r2', ?_⟩)), rfl, fun o2 ho2 hle => ?_⟩
      · have e1 : Els (en cx m (put j o' st.ob) (W.setRow b' (vs.toList.take (n * te.size) ++ new ++ vs.toList.drop (n * te.size + new.length)).toArray)) te.size (l ++ l') fun q => (vs.toList.take (n * te.size) ++ new)[q]? := by
          refine Els.append ?_ (hnels.mono hen fun q u _ hq => hq) (by simp; rw [hn]; omega)
          refine r3.mono hen fun q u hq hu => ?_
          rw [List.getElem?_take, if_pos (by rw [← hn]; exact hq)]
          simpa using hu
        refine e1.mono (EnLe.refl (L := fun _ => True) _) fun q u hq hu => ?_
        rw [List.getElem?_toArray, List.getElem?_append, if_pos (List.getElem?_eq_some_iff.1 hu).1]; exact hu
      · have : o2 = o' := by have h2 : lk j (put j o' st.ob) = some o2 := ho2; rw [lk_put_self] at h2; injection h2 with h2; exact h2.symm
        subst this
        refine ⟨ho'.len, .inr ⟨b', cap, e2, hb, by simp [hn], by simp; omega, ?_⟩⟩
        show (W.setRow _ _).shape? _ = _
        unfold World.shape?
        rw [setRow_heap W b' vs _ e2 (0, 0) r2']
        simp only [hsz2, hvs, ho'.size]
  -- what it does where there is none
  have grows : ∀ (cap : Nat) (old : List Value), (∀ W', W'.heap = W.heap → (Builtin.firstCells te.size n v).run P W' = .ok old.toArray W') → old.length = n * te.size → Els (en cx m st.ob W) te.size l (fun q => old[q]?) → (∃ base, v = .slice base n cap) → n ≤ cap → ¬ n + l'.length ≤ cap → ∃ m' W' z, (Builtin.append_ #[t, u] ty #[v, x]).run P W = .ok z W' ∧ RelM G cx m' ⟨st.tm, put j o' st.ob⟩ a W' ∧ RT (en cx m' (put j o' st.ob) W') (.v (.c (.r j (l ++ l').length))) z := by
    intro cap old hold holdl helo hv' hncap hroom
    obtain ⟨base, hv'⟩ := hv'
    subst hv'
    have hcap : cap < n + l'.length := by omega
    have hnx := nextcap_le (n + l'.length) cap hcap
    have hbytes : ¬ 281474976710656 < Builtin.nextslicecap (n + l'.length) cap * te.bytes := by
      have := Nat.mul_le_mul hnx hby
      omega
    have hmax : ¬ (((n + l'.length : Nat) : Int) > IntKind.i64.max ∧ (False ∨ te.bytes = 0)) := by
      rintro ⟨h1, _⟩
      simp [IntKind.max, IntKind.signed, IntKind.bits] at h1; omega
    have hnew2 : (Builtin.firstCells te.size l'.length x).run P W.drew = .ok new.toArray W.drew := by
      have hx2 : Src (en cx m st.ob W.drew) te.size x l' := by
        obtain ⟨ax, c, e1, e2, e3⟩ := hx
        exact ⟨ax, c, e1, e2, fun hne => let ⟨ad, f1, f2⟩ := e3 hne; ⟨ad, f1, f2.mono en_drew fun q u _ hq => hq⟩⟩
      obtain ⟨ax, c, e1⟩ := hlx
      subst e1
      cases ax with
      | none => 
        simp only [Builtin.firstCells, Sem.run_pure, Result.ok.injEq, and_true] at hnew ⊢; exact hnew
      | some ad =>
        have hth : ∀ j, j < l'.length * te.size → W.cell? (ad.add j) = some ((W.cell? (ad.add j)).getD undef) := fun j hj => by
          have hne : l' ≠ [] := by rintro rfl; simp at hj
          obtain ⟨_, _, e1, _, e3⟩ := hx
          injection e1 with e1
          obtain ⟨ad', f1, f2⟩ := e3 hne
          rw [← e1] at f1; injection f1 with f1; subst f1
          obtain ⟨u, hu⟩ := f2.there j hj
          have hu' : W.cell? (ad.add j) = some u := hu
          simp [hu']
        have r1 := run_loadCells (P := P) W ad (l'.length * te.size) (fun j => (W.cell? (ad.add j)).getD undef) hth
        have r2 := run_loadCells (P := P) W.drew ad (l'.length * te.size) (fun j => (W.cell? (ad.add j)).getD undef) hth
        simp only [Builtin.firstCells] at hnew ⊢
        rw [r1] at hnew
        injection hnew with hnew
        rw [r2, hnew]
    have hold2 := hold W.drew rfl
    have hneed : n + l'.length = (l ++ l').length := by simp [hn]
    obtain ⟨nc, hnc, hncge⟩ : ∃ nc, (Question.appendCap (n + l'.length) cap e).cut (W.tape W.drawn (Question.appendCap (n + l'.length) cap e)) = nc ∧ n + l'.length ≤ nc := ⟨_, rfl, by simp [Question.cut]⟩
    obtain ⟨rest, hrest, hrl⟩ : ∃ rest : Array Value, Builtin.zeroCells z.cells (nc - (n + l'.length)) = rest ∧ rest.size = (nc - (n + l'.length)) * te.size := ⟨_, rfl, by simp [Builtin.zeroCells, g7]⟩
    refine ⟨upd m j (some W.heap.size), W.drew.alloc (.cells (old.toArray ++ new.toArray ++ rest) e (0, 0)), .slice (some ⟨W.heap.size, 0, none⟩) (n + l'.length) nc, ?_, ?_⟩
    · have hf : (Question.appendCap (n + l'.length) cap e).forced = false := rfl
      have hbytes' : ¬ (281474976710656 < Builtin.nextslicecap (n + l'.length) cap * te.bytes) := hbytes
      have hmax1 : IntKind.i64.max = 9223372036854775807 := rfl
      have hmax' : ¬ ((9223372036854775807 : Int) < (n : Int) + (l'.length : Int) ∧ te.bytes = 0) := by rintro ⟨h1, _⟩; omega
      simp [Builtin.append_, underlying, ht, hu, run_sizeOf_ g1, g3, g4, hlenOf, hroom, run_typeInfo_ g1, hbytes', hmax1, hmax', hf, hnc, hold2, hnew2, run_zeroValue_ g1 g5, newRow, hrest]
      congr 2
      apply Array.ext'
      simp
    · have hlo : o.len < o'.len := by rw [ho.len, ho'.len, List.length_append]; omega
      have hss : o'.sz = o.sz := by rw [ho.size, ho'.size]
      have hbb : o'.isBox = o.isBox := by rw [ho.box, ho'.box]
      have hd := h.heap (W' := W.drew) rfl rfl rfl rfl
      have hen := en_grow hd (o' := o') (.cells (old.toArray ++ new.toArray ++ rest) e (0, 0)) hj hss hbb hlo
      have hen2 := en_drew (cx := cx) (m := m) (st := st) (W := W)
      refine ⟨hd.grow _ hj hss hbb hlo ((ho'.view _ _).2 (.inr ⟨W.heap.size, _, e, upd_self _ _ _, heap_alloc_new, ?_⟩)), rfl, fun o2 ho2 hle => ?_⟩
      · have e1 := ((helo.mono hen2 (fun q u _ hq => hq)).append (hnels.mono hen2 (fun q u _ hq => hq)) (by rw [holdl, hn]))
        refine e1.mono hen fun q u hq hu => ?_
        rw [← Array.getElem?_toList]
        simp only [Array.toList_append, List.append_assoc]
        rw [← List.append_assoc, List.getElem?_append, if_pos (List.getElem?_eq_some_iff.1 hu).1]; exact hu
      · have : o2 = o' := by have h2 : lk j (put j o' st.ob) = some o2 := ho2; rw [lk_put_self] at h2; injection h2 with h2; exact h2.symm
        subst this
        refine ⟨ho'.len, .inr ⟨W.heap.size, nc, e, upd_self _ _ _, by rw [hneed], by rw [← hneed]; exact hncge, ?_⟩⟩
        refine (shape_new (W := W.drew)).trans ?_
        congr 2
        simp only [Array.size_append, List.size_toArray, holdl, hnl, hrl, ho'.size]
        rw [← Nat.add_mul, ← Nat.add_mul]; congr 1; omega
  rcases q2 with ⟨z1, z2, z3⟩ | ⟨b, cap, e1, z1, z2, z3, z4⟩
  · -- nil
    have hl0 : l = [] := by apply List.length_eq_zero_iff.1; omega
    by_cases hroom : n + l'.length ≤ 0
    · have hl0' : l' = [] := by apply List.length_eq_zero_iff.1; omega
      subst z2
      have z3' : m j = none := z3
      refine ⟨m, W, .slice none (n + l'.length) 0, ?_, ?_⟩
      · have hn0 : n = 0 := z1
        have hl0'' : l'.length = 0 := by rw [hl0']; rfl
        have hnew0 : (Builtin.firstCells te.size 0 x).run P W = .ok new.toArray W := by rw [← hl0'']; exact hnew
        simp [Builtin.append_, underlying, ht, hu, run_sizeOf_ g1, g3, hlenOf, hl0'', hnew0, hn0]
      · subst hl0 hl0'
        have hlo : o.len ≤ o'.len := by rw [ho.len, ho'.len]; simp
        have hss : o'.sz = o.sz := by rw [ho.size, ho'.size]
        have hbb : o'.isBox = o.isBox := by rw [ho.box, ho'.box]
        have hen : EnLe (fun _ => True) (en cx m st.ob W) (en cx m (put j o' st.ob) W) := by
          refine ⟨fun c ⟨g1, g2, g3⟩ => ⟨g1, g2, fun k o2 hk => ?_⟩, fun _ _ => rfl, Nat.le_refl _, fun k _ o2 ho2 => ?_⟩
          · by_cases hkj : k = j
            · subst hkj; exact g3 k o hj
            · rw [lk_put_ne _ _ hkj] at hk; exact g3 k o2 hk
          · by_cases hkj : k = j
            · subst hkj
              have : o2 = o' := by have h2 : lk k (put k o' st.ob) = some o2 := ho2; rw [lk_put_self] at h2; injection h2 with h2; exact h2.symm
              subst this
              exact ⟨o, hj, hss, hbb, hlo, fun _ => ⟨rfl, fun _ _ => rfl⟩⟩
            · have h2 : lk k st.ob = some o2 := by rw [← lk_put_ne o' st.ob hkj]; exact ho2
              exact ⟨o2, h2, rfl, rfl, Nat.le_refl _, fun _ => ⟨rfl, fun _ _ => rfl⟩⟩
        refine ⟨h.move hen (fun _ _ _ _ _ => trivial) (Nat.le_refl _) rfl rfl rfl (fun _ _ _ => rfl) (fun k o2 hk => ?_) (fun k k' o1 o2 b g1 g2 g3 g4 => ?_) (fun k o2 b g1 g2 => ?_) (fun o2 ho2 => by
          by_cases hkj : 7777777 = j
          · subst hkj; obtain ⟨_, b, e, _⟩ := h.pin o hj; rw [z3'] at e; cases e
          · rw [lk_put_ne _ _ hkj] at ho2; exact h.pin o2 ho2), rfl, fun o2 ho2 hle => ?_⟩
        · by_cases hkj : k = j
          · subst hkj; rw [lk_put_self] at hk; injection hk with hk; subst hk
            exact (ho'.view _ _).2 (.inl ⟨rfl, z3'⟩)
          · rw [lk_put_ne _ _ hkj] at hk
            exact RO.mono hen (fun _ _ => trivial) rfl (fun _ _ => rfl) (h.ob k o2 hk)
        · have hk : ∀ {k : Nat} {o2 : Ob}, lk k (put j o' st.ob) = some o2 → m k = some b → lk k st.ob = some o2 := fun {k o2} q1 q2 => by
            by_cases hkj : k = j
            · subst hkj; rw [z3'] at q2; cases q2
            · rwa [lk_put_ne _ _ hkj] at q1
          exact h.inj k k' o1 o2 b (hk g1 g3) (hk g2 g4) g3 g4
        · by_cases hkj : k = j
          · subst hkj; rw [z3'] at g2; cases g2
          · rw [lk_put_ne _ _ hkj] at g1; exact h.own k o2 b g1 g2
        · have : o2 = o' := by have h2 : lk j (put j o' st.ob) = some o2 := ho2; rw [lk_put_self] at h2; injection h2 with h2; exact h2.symm
          subst this
          exact ⟨ho'.len, .inl ⟨by simp, by simp at hn; simp [← hn], z3'⟩⟩
    · refine grows 0 [] (fun W' _ => ?_) (by simp [z1]) (fun i cs hi => by rw [hl0] at hi; simp at hi) ⟨none, by rw [z1]; exact z2⟩ (by omega) hroom
      subst z2
      simp [Builtin.firstCells]
  · rw [ho.size] at z4
    by_cases hroom : n + l'.length ≤ cap
    · exact inplace b cap e1 z1 z2 z4 hroom
    · rcases hrow with ⟨y1, y2⟩ | ⟨b', vs, e2, r1, r2, r3⟩
      · have y2' : m j = none := y2
        have z1' : m j = some b := z1
        rw [y2'] at z1'; cases z1'
      obtain rfl := some_unique (show m j = some b from z1) r1
      have r2' : W.heap[b']? = some (.cells vs e2 (0, 0)) := r2
      have hth : ∀ (W' : World), W'.heap = W.heap → ∀ k, k < n * te.size → W'.cell? ((⟨b', 0, none⟩ : Addr).add k) = some ((vs[k]?).getD undef) := fun W' hW k hk => by
        obtain ⟨u', hu'⟩ := r3.there k (by rw [hn]; exact hk)
        rw [addr_add0]
        simp only [World.cell?, hW, r2', Nat.zero_add]
        have hu2 : vs[k]? = some u' := hu'
        simp [hu2]
      refine grows cap ((List.range (n * te.size)).map fun k => (vs[k]?).getD undef) (fun W' hW => ?_) (by simp) (r3.mono (EnLe.refl (L := fun _ => True) _) fun q u hq hu => ?_) ⟨_, z2⟩ z3 hroom
      · subst z2
        have := run_loadCells (P := P) W' ⟨b', 0, none⟩ (n * te.size) (fun k => (vs[k]?).getD undef) (hth W' hW)
        simp [Builtin.firstCells, this]
      · rw [List.getElem?_map, List.getElem?_range (by rw [← hn]; exact hq)]
        simp [show vs[q]? = some u from hu]
end
end Go.Proofs.YtbhokdhkfodpfaaGreatDoor
/- What 'stepM' says, the machine does. No condition. -/
namespace Go.Proofs.YtbhokdhkfodpfaaGreatDoor
set_option linter.unusedVariables false
set_option linter.unusedSimpArgs false
def Eff.app (lab : Nat) (ob : List (Nat × Ob)) : Eff → List (Nat × Ob)
  | .none => ob
  | .new o => put lab o ob
  | .upd j o => put j o ob
def Eff.isNew : Eff → Bool
  | .new _ => true
  | _ => false
/-- The cells of a new box do not name it. -/
def Eff.fresh (lab : Nat) : Eff → Bool
  | .new (.box cs) => !csHas lab cs
  | _ => true
/-- What an operation that is done leaves. -/
def Did (G : Gl) (cx : Cx) (m : Nat → Option Nat) (st : St) (a : Act) (lab : Nat) (out : Out) (r : Next) (W W' : World) : Prop :=
  (out.ef = .none ∧ W' = W ∧ ∃ x v, out.v = some x ∧ r = .value v ∧ RT (en cx m st.ob W) x v) ∨
  (out.ef ≠ .none ∧ ∃ m', RelM G cx m' ⟨st.tm, out.ef.app lab st.ob⟩ a W' ∧ ((∃ x v, out.v = some x ∧ r = .value v ∧ RT (en cx m' (out.ef.app lab st.ob) W') x v) ∨ (out.v = none ∧ r = .skip)))
section
variable {P : Program} {G : Gl} {cx : Cx} {m : Nat → Option Nat} {st : St} {a : Act} {W : World}
theorem did_none {lab : Nat} {p : Prop} {x : TV} {v : Value} (hx : RT (en cx m st.ob W) x v) : Did G cx m st a lab ⟨p, some x, .none⟩ (.value v) W W :=
  .inl ⟨rfl, rfl, x, v, rfl, rfl, hx⟩
theorem bnd_val {ρ : Operand → Option TV} {val : Operand → Value} {E : En} (hρ : ∀ x v, ρ x = some v → RT E v (val x)) {d n : Int} {o : Option Operand} (h : bnd ρ d o = some n) : (o.map val = none ∧ n = d) ∨ o.map val = some (.int .i64 n) := by
  cases o with
  | none => simp only [bnd, Option.some.injEq] at h; exact .inl ⟨rfl, h.symm⟩
  | some x =>
    simp only [bnd] at h
    split at h
    · rename_i k hk
      injection h with h; subst h
      exact .inr (by simp [rt_i (hρ _ _ hk)])
    · cases h
theorem src_word {E : En} {l : List Nat} {fr : Bool} {v : Value} (h : RT E (.v (.c (.w fr l))) v) : Src E 1 v (l.map fun w => [Ce.n w]) := by
  obtain ⟨a, c, h1, h2, h3⟩ := h
  refine ⟨a, c, by simpa using h1, by simpa using h2, fun hne => ?_⟩
  cases l with
  | nil => simp at hne
  | cons x l =>
    obtain ⟨ad, h4, _⟩ := h3 0 x rfl
    refine ⟨ad, h4, els_words.2 fun i y hi => ?_⟩
    obtain ⟨ad', h5, _, _, h6⟩ := h3 i y hi
    rw [h4] at h5; injection h5 with h5; subst h5; exact h6
theorem src_z {E : En} {sz : Nat} {v : Value} (h : RT E (.v (.c .z)) v) : Src E sz v [] := by
  have h' : v = .slice none 0 0 := h
  subst h'
  exact ⟨none, 0, rfl, Nat.le_refl _, fun hne => absurd rfl hne⟩
theorem src_row (h : RelM G cx m st a W) {j n sz : Nat} {o : Ob} {l : List (List Ce)} (hj : lk j st.ob = some o) (ho : AsRow o sz l) (hn : l.length = n) {v : Value} (hv : RT (en cx m st.ob W) (.v (.c (.r j n))) v) : Src (en cx m st.ob W) sz v l := by
  obtain ⟨q1, q2⟩ := hv.2 o hj (by rw [ho.len]; omega)
  rcases q2 with ⟨z1, z2, z3⟩ | ⟨b, cap, e1, z1, z2, z3, z4⟩
  · have hl : l = [] := by apply List.length_eq_zero_iff.1; omega
    subst hl; subst z2
    exact ⟨none, 0, rfl, Nat.le_refl _, fun hne => absurd rfl hne⟩
  · refine ⟨_, cap, by rw [hn]; exact z2, by omega, fun hne => ⟨_, rfl, ?_⟩⟩
    rcases (ho.view _ _).1 (h.ob j o hj) with ⟨y1, y2⟩ | ⟨b', vs, e2, r1, r2, r3⟩
    · exact absurd y1 hne
    obtain rfl := some_unique (show m j = some b from z1) r1
    refine r3.mono (EnLe.refl (L := fun _ => True) _) fun q u _ hq => ?_
    show W.cell? _ = some u
    rw [addr_add0]
    simp only [World.cell?]
    rw [show W.heap[b']? = _ from r2]
    simpa using hq
theorem src_structs {E : En} {sz : Nat} {l : List (List Ce)} {fr : Bool} {v : Value} (h : RT E (.v (.s fr l)) v) (hsz : ∀ cs ∈ l, cs.length = sz) : Src E sz v l := by
  obtain ⟨a, c, sz', h1, h2, h3⟩ := h
  refine ⟨a, c, h1, h2, fun hne => ?_⟩
  cases l with
  | nil => exact absurd rfl hne
  | cons x l =>
    obtain ⟨h4, ad, h5, _⟩ := h3 0 x rfl
    have hs : sz' = sz := by rw [← h4]; exact hsz x (by simp)
    subst hs
    refine ⟨ad, h5, fun i cs hi => ?_⟩
    obtain ⟨g1, ad', g2, _, _, vs, g3, g4⟩ := h3 i cs hi
    rw [h5] at g2; injection g2 with g2; subst g2
    exact ⟨g1, vs, g3, fun q u hq => by have := g4 q u hq; rwa [addr_add] at this⟩
theorem appendM_run {t u ty : TypeId} (h : RelM G cx m st a W) {s x : TV} {v y : Value} (hs : RT (en cx m st.ob W) s v) (hx : RT (en cx m st.ob W) x y) {out : Out} (ho : appendM P (fun j => lk j st.ob) t u s x = some out) (hp : out.pre) :
    ∃ j o' z m' W', out.ef = .upd j o' ∧ (Builtin.append_ #[t, u] ty #[v, y]).run P W = .ok z W' ∧ RelM G cx m' ⟨st.tm, put j o' st.ob⟩ a W' ∧ ∃ r, out.v = some r ∧ RT (en cx m' (put j o' st.ob) W') r z := by
  unfold appendM at ho
  split at ho
  · rename_i a1 b1 z1 e a2 b2 z2 e' j n h1 h2
    split at ho
    · rename_i te l h3 hj
      split at ho
      · rename_i hw
        obtain ⟨w1, wz, w2⟩ := isWord_spec hw.1
        split at ho
        · rename_i p l' hsrc
          injection ho with ho; subst ho
          obtain ⟨p1, p2, p3⟩ := hp
          have hby := hw.2
          have hsrc' : Src (en cx m st.ob W) te.size y (l'.map fun w => [Ce.n w]) := by
            rw [w1]
            unfold wsrc at hsrc
            split at hsrc
            · simp only [Option.some.injEq, Prod.mk.injEq] at hsrc; obtain ⟨_, rfl⟩ := hsrc; exact src_word hx
            · simp only [Option.some.injEq, Prod.mk.injEq] at hsrc; obtain ⟨_, rfl⟩ := hsrc; exact src_z hx
            · split at hsrc
              · rename_i hj2
                simp only [Option.some.injEq, Prod.mk.injEq] at hsrc; obtain ⟨rfl, rfl⟩ := hsrc
                exact src_row h hj2 (asRow_wr _) (by simpa using p1) hx
              · cases hsrc
            · cases hsrc
          obtain ⟨m', W', z, r1, r2, r3⟩ := append_core (ty := ty) (o' := .wr (l ++ l')) (tiOf_slice h1) (tiOf_slice h2) h3 hby (by omega) h hj (by rw [w1]; exact asRow_wr l) (by rw [w1, ← List.map_append]; exact asRow_wr _) hs (by simpa using p2) hsrc' (by simpa using p3)
          exact ⟨j, _, z, m', W', rfl, r1, r2, _, rfl, by simpa using r3⟩
        · cases ho
      · cases ho
    · rename_i te sz l h3 hj
      split at ho
      · rename_i hc
        split at ho
        · rename_i p l' hsrc
          injection ho with ho; subst ho
          obtain ⟨p1, p2, p3⟩ := hp
          obtain ⟨c1, c2, c3⟩ := hc
          subst c1
          have hsrc' : Src (en cx m st.ob W) te.size y l' := by
            unfold ssrc at hsrc
            split at hsrc
            · simp only [Option.some.injEq, Prod.mk.injEq] at hsrc; obtain ⟨rfl, rfl⟩ := hsrc; exact src_structs hx p1
            · simp only [Option.some.injEq, Prod.mk.injEq] at hsrc; obtain ⟨_, rfl⟩ := hsrc; exact src_z hx
            · split at hsrc
              · rename_i hj2
                split at hsrc
                · rename_i hss
                  simp only [Option.some.injEq, Prod.mk.injEq] at hsrc; obtain ⟨rfl, rfl⟩ := hsrc
                  subst hss
                  exact src_row h hj2 (asRow_sr _ _) p1 hx
                · cases hsrc
              · cases hsrc
            · cases hsrc
          obtain ⟨m', W', z, r1, r2, r3⟩ := append_core (ty := ty) (o' := .sr te.size (l ++ l')) (tiOf_slice h1) (tiOf_slice h2) h3 c2 c3 h hj (asRow_sr _ _) (asRow_sr _ _) hs p2 hsrc' p3
          exact ⟨j, _, z, m', W', rfl, r1, r2, _, rfl, r3⟩
        · cases ho
      · cases ho
    · cases ho
  · cases ho
end
end Go.Proofs.YtbhokdhkfodpfaaGreatDoor
/- What 'stepM' says, the machine does. No condition. -/
namespace Go.Proofs.YtbhokdhkfodpfaaGreatDoor
set_option linter.unusedVariables false
set_option linter.unusedSimpArgs false
section
variable {P : Program} {G : Gl} {cx : Cx} {m : Nat → Option Nat} {st : St} {a : Act} {W : World}
set_option maxHeartbeats 2000000 in
theorem stepM_run (h : RelM G cx m st a W) {lab : Nat} {o : Oper} {out : Out} (ho : stepM P G lab (opv st.tm) (fun j => lk j st.ob) o.op = some out) (hp : out.pre)
    (hf : out.ef.isNew = true → st.free lab = true) (hfr : out.ef.fresh lab = true) : ∃ r W', (execOp a.eval o).run P W = .ok r W' ∧ Did G cx m st a lab out r W W' := by
  obtain ⟨dst, op, type, pos, after, guard⟩ := o
  simp only [] at ho
  have none_ : ∀ {out : Out} {s : Sem Value}, (∀ o' : Oper, o'.op = op → execOp a.eval o' = (do pure (.value (← s)))) → (out.ef = .none ∧ ∃ y u, out.v = some y ∧ s.run P W = .ok u W ∧ RT (en cx m st.ob W) y u) → ∃ r W', (execOp a.eval { dst := dst, op := op, type := type, pos := pos, after := after, guard := guard }).run P W = .ok r W' ∧ Did G cx m st a lab out r W W' := by
    rintro out s hs ⟨h1, y, u, h2, h3, h4⟩
    exact ⟨.value u, W, by rw [hs _ rfl]; simp [h3], .inl ⟨h1, rfl, y, u, h2, rfl, h4⟩⟩
  have new_ : ∀ {o : Ob} {x : TV} {p : Prop} {v : Value} {W' : World} {s : Sem Value}, (∀ o' : Oper, o'.op = op → execOp a.eval o' = (do pure (.value (← s)))) → s.run P W = .ok v W' → (∃ m', RelM G cx m' ⟨st.tm, put lab o st.ob⟩ a W' ∧ RT (en cx m' (put lab o st.ob) W') x v) → ∃ r W', (execOp a.eval { dst := dst, op := op, type := type, pos := pos, after := after, guard := guard }).run P W = .ok r W' ∧ Did G cx m st a lab ⟨p, some x, .new o⟩ r W W' := by
    rintro o x p v W' s hs hr ⟨m', h1, h2⟩
    exact ⟨.value v, W', by rw [hs _ rfl]; simp [hr], .inr ⟨by simp, m', h1, .inl ⟨x, v, rfl, rfl, h2⟩⟩⟩
  cases op with
  | alloc t =>
    simp only [stepM] at ho
    split at ho
    · rename_i ti ht
      injection ho with ho; subst ho
      obtain ⟨i, z, d, g1, g2, g3, g4, g5, g6, g7, g8⟩ := tiOf_spec ht
      obtain ⟨r1, r2⟩ := h.box (hf rfl) (vs := z.cells) t (g6 _).2 (by simpa [Eff.fresh] using hfr)
      exact new_ (s := Instr.alloc t true (.tuple #[])) (fun o' e => by simp [execOp, e]) (by simp [Instr.alloc, run_zeroValue_ g1 g5, run_newVar]) ⟨_, r1, r2⟩
    · cases ho
  | box t x =>
    simp only [stepM] at ho
    split at ho
    · rename_i ti v ht hx
      split at ho
      · rename_i cs hcs
        split at ho
        · rename_i hl
          injection ho with ho; subst ho
          have hv : All2 (RC (en cx m st.ob W)) cs (a.eval x).cells.toList := by
            cases v with
            | v pv => exact PV.cells_RC hcs (h.opv hx)
            | _ => simp [TV.cells] at hcs
          obtain ⟨r1, r2⟩ := h.box (hf rfl) (vs := (a.eval x).cells) t hv (by simpa [Eff.fresh] using hfr)
          exact new_ (s := Instr.box t (a.eval x)) (fun o' e => by simp [execOp, e]) (by simp [Instr.box, run_newVar]) ⟨_, r1, r2⟩
        · cases ho
      · cases ho
    · cases ho
  | load t x =>
    simp only [stepM] at ho
    split at ho
    · rename_i ti v ht hx
      exact none_ (s := Instr.loadAt t (a.eval x)) (fun o' e => by simp [execOp, e]) (loadM_run ht h (h.opv hx) ho hp)
    · cases ho
  | store t x y =>
    simp only [stepM] at ho
    split at ho
    · rename_i ti v w ht hx hy
      split at ho
      · rename_i cs hcs
        obtain ⟨h1, j, o', W', h2, h3, h4⟩ := storeM_run ht h (h.opv hx) (h.opv hy) hcs ho hp
        exact ⟨.skip, W', by simp [execOp, h3], .inr ⟨by rw [h2]; simp, m, by rw [h2]; exact h4, .inr ⟨h1, rfl⟩⟩⟩
      · cases ho
    · cases ho
  | nilCheck x =>
    simp only [stepM] at ho
    split at ho
    · rename_i j off hx
      split at ho
      · rename_i cs hj
        injection ho with ho; subst ho
        have hv := h.opv hx
        obtain ⟨b, h1, h2⟩ := hv.2 cs hj
        exact ⟨.value (a.eval x), W, by simp [execOp, h2], did_none hv⟩
      · cases ho
    · rename_i cs hx
      injection ho with ho; subst ho
      have hv := h.opv hx
      obtain ⟨ad, h1, h2⟩ := hv
      exact ⟨.value (a.eval x), W, by simp [execOp, h1], did_none (h.opv hx)⟩
    · cases ho
  | makeSlice t x y =>
    simp only [stepM] at ho
    split at ho
    · rename_i a1 b1 z1 e n n' ht hx hy
      have e1 := rt_i (h.opv hx)
      have e2 := rt_i (h.opv hy)
      split at ho
      · rename_i te he
        split at ho
        · rename_i hw
          injection ho with ho; subst ho
          obtain ⟨p1, p2, p3, p4⟩ := hp
          subst p2
          obtain ⟨w1, wz, w2⟩ := isWord_spec hw
          obtain ⟨z, q1, q2, q3⟩ := run_make_gen (P := P) (W := W) (tiOf_slice ht) he n p1 p3 p4
          have hz0 : z[0]? = some (.int .u64 0) := by
            have q2' := (q2 (en cx m st.ob W)).2
            rw [wz] at q2'
            obtain ⟨u, us, e3, e4, e5⟩ := q2'.cons_iff
            have e4' : u = .int .u64 ((0 : Nat) : Int) := e4
            rw [← Array.getElem?_toList, e3, e4']; rfl
          obtain ⟨r1, r2⟩ := h.row (hf rfl) (l := List.replicate n.toNat 0) (vs := (Array.range (n.toNat * te.size)).map fun j => z[j % te.size]!) e (by simp [w1]) (fun i x hi => by
            rw [List.getElem?_replicate] at hi
            split at hi
            · rename_i hlt
              injection hi with hi; subst hi
              have := zeros_get (z := z) (n := n.toNat) (i := i) (q := 0) hlt (by omega)
              simp only [q1, w1, Nat.mul_one, Nat.add_zero] at this ⊢
              rw [this]; exact hz0
            · cases hi)
          simp only [List.length_replicate] at r2
          exact new_ (s := Instr.makeSlice t (a.eval x) (a.eval y)) (fun o' e => by simp [execOp, e]) (by rw [e1, e2]; exact q3 (by omega)) ⟨_, r1, r2⟩
        · split at ho
          · rename_i hw hpos
            injection ho with ho; subst ho
            obtain ⟨p1, p2, p3, p4⟩ := hp
            subst p2
            obtain ⟨z, q1, q2, q3⟩ := run_make_gen (P := P) (W := W) (tiOf_slice ht) he n p1 p3 p4
            obtain ⟨r1, r2⟩ := h.srow (hf rfl) (sz := te.size) (l := List.replicate n.toNat te.zero) (vs := (Array.range (n.toNat * te.size)).map fun j => z[j % te.size]!) e (by simp) (fun i cs hi => by
              rw [List.getElem?_replicate] at hi
              split at hi
              · rename_i hlt
                injection hi with hi; subst hi
                have hl : te.zero.length = te.size := by rw [(q2 (en cx m st.ob W)).2.length]; simpa using q1
                refine ⟨hl, z.toList, q2 _, fun q u hq => ?_⟩
                have hq' : q < z.size := by have := (List.getElem?_eq_some_iff.1 hq).1; simpa using this
                have := zeros_get (z := z) (n := n.toNat) (i := i) (q := q) hlt hq'
                rw [q1] at this
                rw [this]; simpa using hq
              · cases hi)
            simp only [List.length_replicate] at r2
            exact new_ (s := Instr.makeSlice t (a.eval x) (a.eval y)) (fun o' e => by simp [execOp, e]) (by rw [e1, e2]; exact q3 hpos) ⟨_, r1, r2⟩
          · cases ho
      · cases ho
    · cases ho
  | buildSlice t n parts =>
    simp only [stepM] at ho
    split at ho
    · rename_i a1 b1 z1 e ht
      split at ho
      · rename_i te he
        split at ho
        · rename_i hlen
          obtain ⟨ii, z, d, g1, g2, g3, g4, g5, g6, g7, g8⟩ := tiOf_spec he
          have key : ∀ (l : List (List Ce)), rowsOf (opv st.tm) te.size 0 parts.toList = some l → 0 < te.size → n * te.size ≤ 16777216 → ∃ vs : Array Value, (Instr.buildSlice t n (parts.map fun (i, x) => (i, a.eval x))).run P W = .ok (.slice (some ⟨W.heap.size, 0, none⟩) n n) (W.alloc (.cells vs e (0, 0))) ∧ vs.size = n * te.size ∧ Els (en cx m st.ob W) te.size l fun q => vs[q]? := by
            intro l hl hpos hle
            obtain ⟨vs, f1, f2, f3, f4⟩ := fill_range (E := en cx m st.ob W) (fun i => some (i * te.size, te.size)) te.size (fun i => rfl) (fun x v hx => h.opv hx) parts.toList 0 l ((Array.range (n * te.size)).map fun j => (if n * te.size = 0 then #[] else z.cells)[j % (if n * te.size = 0 then (#[] : Array Value) else z.cells).size]!) n (by simp) (by omega) hl
            refine ⟨vs, ?_, f2, fun i cs hi => by have := f4 i cs hi; simpa using this⟩
            have f1' : Instr.fill (fun i => some (i * te.size, te.size)) ((Array.range (n * te.size)).map fun j => (if n * te.size = 0 then #[] else z.cells)[j % (if n * te.size = 0 then (#[] : Array Value) else z.cells).size]!) ((parts.map fun (i, x) => (i, a.eval x)).toList) = some vs := by rw [← f1]; simp
            by_cases hz : n * te.size = 0
            · have hn0 : n = 0 := by rcases Nat.mul_eq_zero.1 hz with e | e; exact e; omega
              subst hn0
              have hp0 : parts = #[] := by apply Array.ext'; simpa using hlen
              subst hp0
              simp only [Nat.zero_mul, if_true] at f1'
              have f2' : vs = #[] := by
                simp [Instr.fill, show Array.range 0 = #[] from rfl] at f1'
                exact f1'
              subst f2'
              simp [Instr.buildSlice, run_underlying_ (tiOf_slice ht), run_sizeOf_ g1, g3, newRow, Instr.fill, show Array.range 0 = #[] from rfl]
            · simp only [hz, if_false] at f1'
              have hz1 : n ≠ 0 := fun e => hz (by rw [e]; simp)
              simp [Instr.buildSlice, run_underlying_ (tiOf_slice ht), run_sizeOf_ g1, g3, hz1, show te.size ≠ 0 by omega, run_zeroValue_ g1 g5, show ¬ 16777216 < n * te.size by omega, newRow]
              simp at f1'
              simp [f1']
              exact fun e => absurd e hz
          split at ho
          · rename_i hw
            obtain ⟨w1, wz, w2⟩ := isWord_spec hw
            split at ho
            · rename_i l hl
              injection ho with ho; subst ho
              have hp' : n ≤ 16777216 := hp
              have hr := words_rows _ _ _ hl
              have hll : l.length = n := by have := rowsOf_length _ _ _ hr; simp only [List.length_map] at this; omega
              obtain ⟨vs, k1, k2, k3⟩ := key _ (by rw [w1]; exact hr) (by omega) (by rw [w1]; omega)
              rw [w1] at k3 k2
              obtain ⟨r1, r2⟩ := h.row (hf rfl) (l := l) (vs := vs) e (by omega) (els_words.1 k3)
              rw [hll] at r2
              exact new_ (s := Instr.buildSlice t n (parts.map fun (i, x) => (i, a.eval x))) (fun o' e => by simp [execOp, e]) k1 ⟨_, r1, r2⟩
            · cases ho
          · split at ho
            · rename_i l hl
              injection ho with ho; subst ho
              obtain ⟨p1, p2⟩ := hp
              have hll : l.length = n := by have := rowsOf_length _ _ _ hl; omega
              obtain ⟨vs, k1, k2, k3⟩ := key _ hl p1 p2
              obtain ⟨r1, r2⟩ := h.srow (hf rfl) (sz := te.size) (l := l) (vs := vs) e (by rw [hll]; exact k2) k3
              rw [hll] at r2
              exact new_ (s := Instr.buildSlice t n (parts.map fun (i, x) => (i, a.eval x))) (fun o' e => by simp [execOp, e]) k1 ⟨_, r1, r2⟩
            · cases ho
        · cases ho
      · cases ho
    · cases ho
  | slice t x lo hi mx =>
    simp only [stepM] at ho
    split at ho
    · rename_i a1 b1 z1 e v ht hx
      split at ho
      · rename_i te n he hn
        split at ho
        · rename_i l hh hl hhh
          have q1 := bnd_val (fun x v hx => h.opv hx) hl
          have q2 := bnd_val (fun x v hx => h.opv hx) hhh
          split at ho
          · exact none_ (s := Instr.sliceAt t (a.eval x) (lo.map a.eval) (hi.map a.eval) ((none : Option Operand).map a.eval)) (fun o' e => by simp [execOp, e])
              (sliceM_run (W := W) (tiOf_slice ht) he (h.opv hx) hn q1 (.inl ⟨rfl, rfl, q2⟩) ho hp)
          · rename_i y
            split at ho
            · rename_i mm hi' hy
              refine none_ (s := Instr.sliceAt t (a.eval x) (lo.map a.eval) ((some hi').map a.eval) ((some y).map a.eval)) (fun o' e => by simp [execOp, e])
                (sliceM_run (W := W) (tiOf_slice ht) he (h.opv hx) hn q1 (.inr ⟨mm, by simp [rt_i (h.opv hy)], rfl, q2.resolve_left (by simp)⟩) ho hp)
            · cases ho
        · cases ho
      · cases ho
    · cases ho
  | indexAddr t x ix =>
    simp only [stepM] at ho
    split at ho
    · rename_i a1 b1 z1 e v k i ht hx hix
      split at ho
      · rename_i te he
        refine none_ (s := Instr.indexAt t (a.eval x) (a.eval ix)) (fun o' e => by simp [execOp, e]) ?_
        rw [rt_i (h.opv hix)]
        exact indexM_run (tiOf_slice ht) he h (h.opv hx) ho hp
      · cases ho
    · rename_i a1 b1 z1 n e b off k i ht hx hix
      split at ho
      · rename_i te he
        split at ho
        · cases ho
        · rename_i hn
          injection ho with ho; subst ho
          obtain ⟨p1, p2⟩ := hp
          obtain ⟨ii, z, d, g1, g2, g3, g4, g5, g6, g7, g8⟩ := tiOf_spec he
          refine none_ (s := Instr.indexAt t (a.eval x) (a.eval ix)) (fun o' e => by simp [execOp, e]) ⟨rfl, _, _, rfl, ?_, show _ = _ from rfl⟩
          rw [rt_i (h.opv hix), show a.eval x = .pointer (some ⟨b, off, none⟩) from h.opv hx]
          simp [Instr.indexAt, asIntOf, underlying, tiOf_array ht, Instr.sureAddr, p1, p2, run_sizeOf_ g1, g3, addr_add0]
      · cases ho
    · cases ho
  | fieldAddr s x f =>
    simp only [stepM] at ho
    split at ho
    · rename_i a1 b1 z1 fs v ht hx
      split at ho
      · rename_i off sz hfs
        split at ho
        · cases ho
        · rename_i hsz
          exact none_ (s := Instr.fieldAt s (a.eval x) f) (fun o' e => by simp [execOp, e]) (fieldM_run ht hfs hsz h (h.opv hx) ho hp)
      · cases ho
    · cases ho
  | call c =>
    obtain ⟨callee, az, ts⟩ := c
    cases callee with
    | builtin bi =>
      cases bi with
      | len =>
        simp only [stepM] at ho
        split at ho
        · rename_i x t hx ht
          split at ho
          · rename_i a1 b1 z1 e j n ht' hx'
            split at ho
            · rename_i ob hj
              split at ho
              · cases ho
              · rename_i hb
                injection ho with ho; subst ho
                have hv := h.opv hx'
                have hp' : ob.len = n := hp
                obtain ⟨q1, q2⟩ := hv.2 ob hj (by omega)
                have hval : ∃ bs c, a.eval x = .slice bs n c := by
                  rcases q2 with ⟨z1, z2, z3⟩ | ⟨b, cap, e1, z1, z2, z3, z4⟩
                  · exact ⟨_, _, by rw [z2, z1]⟩
                  · exact ⟨_, _, z2⟩
                obtain ⟨bs, c, hval⟩ := hval
                have has : az.map a.eval = #[a.eval x] := by apply Array.ext'; simp [hx]
                have hts : ts = #[t] := by apply Array.ext'; simp [ht]
                refine ⟨.value (.int .i64 n), W, ?_, did_none (show RT _ (TV.int .i64 n) _ from rfl)⟩
                simp [execOp, resolve, invoke, builtin, Builtin.len_, has, hts, underlying, tiOf_slice ht', hval, goInt]
            · cases ho
          · cases ho
        · cases ho
      | append =>
        simp only [stepM] at ho
        split at ho
        · rename_i x y t u hx ht
          split at ho
          · rename_i v w hx' hy'
            obtain ⟨j, o', z, m', W', h1, h2, h3, r, h4, h5⟩ := appendM_run (ty := type) h (h.opv hx') (h.opv hy') ho hp
            have has : az.map a.eval = #[a.eval x, a.eval y] := by apply Array.ext'; simp [hx]
            have hts : ts = #[t, u] := by apply Array.ext'; simp [ht]
            refine ⟨.value z, W', ?_, .inr ⟨by rw [h1]; simp, m', by rw [h1]; exact h3, .inl ⟨r, z, h4, rfl, by rw [h1]; exact h5⟩⟩⟩
            simp [execOp, resolve, invoke, builtin, has, hts, h2]
          · cases ho
        · cases ho
      | _ => simp [stepM] at ho
    | _ => simp [stepM] at ho
  | _ => simp [stepM] at ho
end
end Go.Proofs.YtbhokdhkfodpfaaGreatDoor
/- Walks on pure values: code, operations, calls. No condition. -/
namespace Go.Proofs.YtbhokdhkfodpfaaGreatDoor
set_option linter.unusedVariables false
set_option linter.unusedSimpArgs false
/-- The slots of an operation's operands. -/
def tmpsOf : List Operand → List Nat
  | [] => []
  | .tmp t :: r => t :: tmpsOf r
  | _ :: r => tmpsOf r
def opTmps : Op → List Nat
  | .move x | .assign x | .unOp _ _ x | .load _ x | .convert _ _ x | .extract x _ | .fieldAddr _ x _ | .nilCheck x => tmpsOf [x]
  | .binOp _ _ x y _ | .indexAddr _ x y | .index _ x y => tmpsOf [x, y]
  | .call c => tmpsOf c.args.toList
  | _ => []
/-- What stands under a test, taken as it is. -/
def unw (ts : List Nat) : List (Nat × TV) → List (Nat × TV)
  | [] => []
  | (t, .gd c x) :: r => (t, if t ∈ ts then x else .gd c x) :: unw ts r
  | x :: r => x :: unw ts r
/-- The tests under which it stands. -/
def tests : List Nat → List (Nat × TV) → Prop
  | [], _ => True
  | t :: ts, tm => (match lk t tm with
    | some (.gd c _) => c = true
    | _ => True) ∧ tests ts tm
/-- Is the test of an operation met? -/
def gOf (ops : List Oper) (tm : List (Nat × TV)) (j : Nat) (want : Bool) : Option Bool :=
  match ops[j]? with
  | some ⟨some d, _, _, _, _, _⟩ => match lk d tm with
    | some (.v (.c (.b g))) => some (g == want)
    | some (.gd c (.v (.c (.b g)))) => some (c && (g == want))
    | _ => none
  | _ => none
def setv (d : Option Nat) (v : Option TV) (tm : List (Nat × TV)) : List (Nat × TV) :=
  match d, v with
  | some d, some v => put d v tm
  | some d, none => del d tm
  | none, _ => tm
def dstOk (nt : Nat) (d : Option Nat) : Bool :=
  match d with
  | some d => decide (d < nt)
  | none => true
def isPick : Op → Bool
  | .pick .. => true
  | _ => false
/-- One operation that is not a call of a function: what it asks, and the state behind it. -/
def stepO (P : Program) (G : Gl) (nt : Nat) (md : Bool) (ops : List Oper) (lab : Nat) (st : St) (o : Oper) : Option (Prop × St) :=
  if dstOk nt o.dst then (match o.guard with
  | none => match stepV P md (opv st.tm) o.op with
    | some (p, v) => some (p, ⟨setv o.dst (some v) st.tm, st.ob⟩)
    | none => match stepM P G lab (opv st.tm) (fun j => lk j st.ob) o.op with
      | some ⟨p, v, ef⟩ => if ef.isNew then (if st.free lab && ef.fresh lab then some (p, ⟨setv o.dst v st.tm, ef.app lab st.ob⟩) else none) else some (p, ⟨setv o.dst v st.tm, ef.app lab st.ob⟩)
      | none => none
  | some (j, want) => match gOf ops st.tm j want with
    | some g => if isPick o.op then (match stepV P md (opv st.tm) o.op with
        | some (p, v) => some (g = true → p, ⟨setv o.dst (some (.gd g v)) st.tm, st.ob⟩)
        | none => none)
      else (match stepV P md (opv (unw (opTmps o.op) st.tm)) o.op with
      | some (p, v) => some (g = true → tests (opTmps o.op) st.tm ∧ p, ⟨setv o.dst (some (.gd g v)) st.tm, st.ob⟩)
      | none => match stepM P G lab (opv (unw (opTmps o.op) st.tm)) (fun j => lk j st.ob) o.op with
        | some ⟨p, some v, .none⟩ => some (g = true → tests (opTmps o.op) st.tm ∧ p, ⟨setv o.dst (some (.gd g v)) st.tm, st.ob⟩)
        | _ => none)
    | none => none) else none
/-- So many operations, up to the first that is not taken. -/
def steps (P : Program) (G : Gl) (nt : Nat) (md : Bool) (ops : List Oper) : Nat → Nat → List Oper → St → Prop × St × List Oper
  | 0, _, l, st => (True, st, l)
  | _ + 1, _, [], st => (True, st, [])
  | n + 1, lab, o :: l, st => match stepO P G nt md ops lab st o with
    | some (p, st') => match steps P G nt md ops n (lab + 1) l st' with
      | (q, st'', l') => (p ∧ q, st'', l')
    | none => (True, st, o :: l)
/-- Operations in the order of the text. -/
def DoL (P : Program) (G : Gl) (nt : Nat) (ops : List Oper) (l : List Oper) (st : St) (Q : St → Prop) : Prop :=
  ∀ (cx : Cx) (a : Act) (W : World), cx.nt = nt → Rel G cx st a W → ∀ Q' : Exit → Act → World → Prop, (∀ st' a' W', Q st' → Rel G cx st' a' W' → Q' .normal a' W') → wpList P ops.toArray Q' l a W
def Do (P : Program) (G : Gl) (nt : Nat) (c : Code) (st : St) (Q : Exit → St → Prop) : Prop :=
  ∀ (cx : Cx) (a : Act) (W : World), cx.nt = nt → Rel G cx st a W → c.wp P (fun e a' W' => ∃ st', Q e st' ∧ Rel G cx st' a' W') a W
section
variable {P : Program} {G : Gl} {nt : Nat} {ops l : List Oper} {st : St} {Q : St → Prop} {QE : Exit → St → Prop} {cx : Cx} {a : Act} {W : World} {m : Nat → Option Nat}
theorem lk_unw (ts : List Nat) (t : Nat) : ∀ tm : List (Nat × TV), lk t (unw ts tm) = (lk t tm).map fun x => match x with
    | .gd c y => if t ∈ ts then y else .gd c y
    | x => x
  | [] => rfl
  | (k, x) :: r => by
    cases x <;> simp only [unw, lk] <;> (by_cases h : k = t <;> simp [h, lk_unw ts t r])
theorem tests_spec : ∀ {ts : List Nat} {tm : List (Nat × TV)}, tests ts tm → ∀ {t c x}, lk t tm = some (.gd c x) → t ∈ ts → c = true
  | [], tm, _, t, c, x, _, ht => by cases ht
  | s :: ts, tm, h, t, c, x, hx, ht => by
    simp only [tests] at h
    rcases List.mem_cons.1 ht with rfl | ht
    · have := h.1; rw [hx] at this; exact this
    · exact tests_spec h.2 hx ht
theorem RelM.unw (h : RelM G cx m st a W) {ts : List Nat} (ht : tests ts st.tm) : RelM G cx m ⟨unw ts st.tm, st.ob⟩ a W :=
  { h with
    tm := fun t x hx => by
      rw [lk_unw] at hx
      cases hl : lk t st.tm with
      | none => simp [hl] at hx
      | some y =>
        obtain ⟨v, hv, hr⟩ := h.tm t y hl
        refine ⟨v, hv, ?_⟩
        simp only [hl, Option.map_some, Option.some.injEq] at hx
        cases y with
        | gd c y =>
          simp only [] at hx
          split at hx
          · rename_i hts
            subst hx
            exact hr.1 (tests_spec ht hl hts)
          · subst hx; exact hr
        | _ => simp only [] at hx; subst hx; exact hr }
theorem dstOk_spec {d : Option Nat} (h : dstOk nt d = true) : ∀ k, d = some k → k < nt := by
  intro k hk; subst hk; simpa [dstOk] using h
/-- A value into the slot of an operation. -/
theorem Rel.put (h : RelM G cx m st a W) (hn : cx.nt = nt) {d : Option Nat} (hd : dstOk nt d = true) {x : TV} {v : Value} (hx : RT (en cx m st.ob W) x v) : Rel G cx ⟨setv d (some x) st.tm, st.ob⟩ (a.put d v) W := by
  cases d with
  | none => exact ⟨m, h⟩
  | some d => exact ⟨m, h.slot (by rw [hn]; exact dstOk_spec hd d rfl) hx⟩
theorem Rel.skip (h : RelM G cx m st a W) (d : Option Nat) (v : Value) : Rel G cx ⟨setv d none st.tm, st.ob⟩ (a.put d v) W := by
  cases d with
  | none => exact ⟨m, h⟩
  | some d => exact ⟨m, h.forget d v⟩
theorem wanted_none {o : Oper} (h : o.guard = none) (y : Nat → Option Bool) : Region.wanted o y = true := by simp [Region.wanted, h]
theorem gOf_spec (h : RelM G cx m st a W) {j : Nat} {want g : Bool} (hg : gOf ops st.tm j want = some g) {o : Oper} (ho : o.guard = some (j, want)) : Region.wanted o (yielded ops.toArray a.tmps) = g := by
  unfold gOf at hg
  split at hg
  · rename_i d op ty ps af gu hj
    have hy : ∀ v, a.tmps[d]? = some v → yielded ops.toArray a.tmps j = (match v with | .bool b => some b | _ => none) := by
      intro v hv
      unfold yielded
      simp [hj, hv]
      cases v <;> rfl
    split at hg
    · rename_i b hl
      injection hg with hg; subst hg
      obtain ⟨v, hv, hr⟩ := h.tm d _ hl
      have hr' : v = .bool b := hr
      subst hr'
      simp only [Region.wanted, ho, hy _ hv]
      cases b <;> cases want <;> rfl
    · rename_i c b hl
      injection hg with hg; subst hg
      obtain ⟨v, hv, hr1, hr2⟩ := h.tm d _ hl
      cases c with
      | true =>
        have hr' : v = .bool b := hr1 rfl
        subst hr'
        simp only [Region.wanted, ho, hy _ hv]
        cases b <;> cases want <;> rfl
      | false =>
        have hr' : v = undef := hr2 rfl
        subst hr'
        simp only [Region.wanted, ho, hy _ hv]
        cases want <;> rfl
    · cases hg
  · cases hg
/-- One step. -/
theorem step1_core {md : Bool} {lab : Nat} {o : Oper} {p : Prop} {st' : St} (h : stepO P G nt md ops lab st o = some (p, st')) (hp : p) (hn : cx.nt = nt) (hr : RelM G cx m st a W) (Q' : Exit → Act → World → Prop) (K : Act → World → Prop) (hK : ∀ a' W', Rel G cx st' a' W' → K a' W') :
    if Region.wanted o (yielded ops.toArray a.tmps) = true then o.wp P a W K Q' else K (a.put o.dst undef) W := by
  unfold stepO at h
  split at h
  case isFalse => cases h
  rename_i hd
  split at h
  · rename_i hg
    rw [wanted_none hg, if_pos rfl]
    unfold Oper.wp
    split at h
    · rename_i p' v hv
      simp only [Option.some.injEq, Prod.mk.injEq] at h; obtain ⟨rfl, rfl⟩ := h
      obtain ⟨z, h1, h2⟩ := stepV_run (P := P) (W := W) hv hp (fun x v hx => hr.opv hx)
      rw [h1]
      exact hK _ _ (Rel.put hr hn hd h2)
    · split at h
      · rename_i p' v ef hv
        have key : (ef.isNew = true → st.free lab = true) → ef.fresh lab = true → some (p', St.mk (setv o.dst v st.tm) (ef.app lab st.ob)) = some (p, st') → o.upon P a K Q' ((execOp a.eval o).run P W) := by
          intro k1 k2 k3
          simp only [Option.some.injEq, Prod.mk.injEq] at k3; obtain ⟨rfl, rfl⟩ := k3
          obtain ⟨r, W', h1, hd'⟩ := stepM_run hr hv hp k1 k2
          rw [h1]
          rcases hd' with ⟨e0, e00, x, u, e1, e2, e3⟩ | ⟨e0, m', h2, h3⟩
          · simp only [] at e0 e1; subst e0 e00 e1 e2
            exact hK _ _ (Rel.put hr hn hd e3)
          rcases h3 with ⟨x, u, e1, e2, e3⟩ | ⟨e1, e2⟩
          · simp only [] at e1; subst e1 e2
            exact hK _ _ (Rel.put h2 hn hd e3)
          · simp only [] at e1; subst e1 e2
            exact hK _ _ (Rel.skip h2 o.dst _)
        split at h
        · split at h
          · rename_i hnew hfree
            simp only [Bool.and_eq_true] at hfree
            exact key (fun _ => hfree.1) hfree.2 h
          · cases h
        · rename_i hnew
          exact key (fun e => absurd e hnew) (by cases ef <;> first | rfl | (simp [Eff.isNew] at hnew)) h
      · cases h
  · rename_i j want hg
    split at h
    · rename_i g hgo
      have hwant := gOf_spec hr hgo hg
      rw [hwant]
      have skip_ : ∀ {v : TV} , g = false → K (a.put o.dst undef) W → K (a.put o.dst undef) W := fun _ h => h
      have relf : ∀ (v : TV), g = false → Rel G cx ⟨setv o.dst (some (.gd g v)) st.tm, st.ob⟩ (a.put o.dst undef) W := fun v hgf => Rel.put hr hn hd (show RT _ (.gd g v) undef from ⟨(fun e => by rw [hgf] at e; cases e), fun _ => rfl⟩)
      split at h
      · split at h
        · rename_i p' v hv
          simp only [Option.some.injEq, Prod.mk.injEq] at h; obtain ⟨rfl, rfl⟩ := h
          cases hgg : g with
          | true =>
            simp only [if_true]
            obtain ⟨z, h1, h2⟩ := stepV_run (P := P) (W := W) hv (hp hgg) (fun x v hx => hr.opv hx)
            unfold Oper.wp; rw [h1]
            subst hgg
            exact hK _ _ (Rel.put hr hn hd ⟨fun _ => h2, fun e => by cases e⟩)
          | false =>
            simp only [Bool.false_eq_true, if_false]
            exact hK _ _ (relf v hgg)
        · cases h
      · split at h
        · rename_i p' v hv
          simp only [Option.some.injEq, Prod.mk.injEq] at h; obtain ⟨rfl, rfl⟩ := h
          cases hgg : g with
          | true =>
            simp only [if_true]
            have hr2 := hr.unw (hp hgg).1
            obtain ⟨z, h1, h2⟩ := stepV_run (P := P) (W := W) hv (hp hgg).2 (fun x v hx => hr2.opv hx)
            unfold Oper.wp; rw [h1]
            subst hgg
            exact hK _ _ (Rel.put hr hn hd ⟨fun _ => h2, fun e => by cases e⟩)
          | false =>
            simp only [Bool.false_eq_true, if_false]
            exact hK _ _ (relf v hgg)
        · split at h
          · rename_i p' v hv
            simp only [Option.some.injEq, Prod.mk.injEq] at h; obtain ⟨rfl, rfl⟩ := h
            cases hgg : g with
            | true =>
              simp only [if_true]
              have hr2 := hr.unw (hp hgg).1
              obtain ⟨r, W', h1, hd'⟩ := stepM_run hr2 hv (hp hgg).2 (fun e => by cases e) rfl
              rcases hd' with ⟨_, e00, x, u, e1, e2, e3⟩ | ⟨e0, _⟩
              · simp only [Option.some.injEq] at e1; subst e00 e1 e2
                unfold Oper.wp; rw [h1]
                subst hgg
                exact hK _ _ (Rel.put hr hn hd ⟨fun _ => e3, fun e => by cases e⟩)
              · exact absurd rfl e0
            | false =>
              simp only [Bool.false_eq_true, if_false]
              exact hK _ _ (relf v hgg)
          · cases h
    · cases h
theorem DoL.step1 {md : Bool} {lab : Nat} {o : Oper} {p : Prop} {st' : St} (h : stepO P G nt md ops lab st o = some (p, st')) (hp : p) (next : DoL P G nt ops l st' Q) : DoL P G nt ops (o :: l) st Q :=
  fun cx a W hn ⟨_, hr⟩ Q' hQ => wpList_step fun K hK => step1_core h hp hn hr Q' K fun a' W' hs => hK _ _ (next cx _ _ hn hs Q' hQ)
end
end Go.Proofs.YtbhokdhkfodpfaaGreatDoor
/- Walks on pure values: code, calls, functions. No condition. -/
namespace Go.Proofs.YtbhokdhkfodpfaaGreatDoor
set_option linter.unusedVariables false
set_option linter.unusedSimpArgs false
/-- So many operations, up to the first that is not taken: what is asked on the way, and then. -/
def runs (P : Program) (G : Gl) (nt : Nat) (md : Bool) (ops : List Oper) (Q : St → Prop) : Nat → List Oper → St → Prop
  | _, [], st => Q st
  | lab, o :: l, st => match stepO P G nt md ops lab st o with
    | some (p, st') => p ∧ runs P G nt md ops Q (lab + 1) l st'
    | none => DoL P G nt ops (o :: l) st Q
def thenQ (K : St → Prop) (Q : Exit → St → Prop) : Exit → St → Prop
  | .normal, s => K s
  | e, s => Q e s
def blockQ (id : Nat) (Q : Exit → St → Prop) : Exit → St → Prop
  | .exit i, s => if i = id then Q .normal s else Q (.exit i) s
  | e, s => Q e s
/-- The state with these slots alone. -/
def St.only (ks : List Nat) (st : St) : St := ⟨keep ks st.tm, st.ob⟩
/-- A state that says no more than another. -/
def St.le (s t : St) : Prop := (∀ k x, lk k s.tm = some x → lk k t.tm = some x) ∧ ∀ k x, lk k s.ob = some x → lk k t.ob = some x
section
variable {P : Program} {G : Gl} {nt : Nat} {ops l : List Oper} {st : St} {Q : St → Prop} {QE : Exit → St → Prop} {cx : Cx} {a : Act} {W : World} {m : Nat → Option Nat}
theorem DoL.run {md : Bool} : ∀ {l : List Oper} {lab : Nat} {st : St}, runs P G nt md ops Q lab l st → DoL P G nt ops l st Q
  | [], lab, st, h => fun cx a W hn hr Q' hQ => hQ st a W h hr
  | o :: l, lab, st, h => by
    simp only [runs] at h
    split at h
    · rename_i p st' he
      exact DoL.step1 he h.1 (DoL.run h.2)
    · exact h
theorem Rel.le {s t : St} (h : Rel G cx t a W) (hl : s.le t) : Rel G cx s a W := by
  obtain ⟨m, h⟩ := h
  exact ⟨m, (h.sub s.tm hl.1).fewer s.ob hl.2⟩
theorem St.only_le (ks : List Nat) (st : St) : (st.only ks).le st := ⟨(fun k x hx => by
  simp only [St.only, lk_keep] at hx
  split at hx
  · exact hx
  · cases hx), fun _ _ h => h⟩
theorem St.le_of {s t : St} (h1 : keep (s.tm.map (·.1)) t.tm = s.tm) (h2 : keep (s.ob.map (·.1)) t.ob = s.ob) : s.le t := by
  refine ⟨fun k x hx => ?_, fun k x hx => ?_⟩
  · rw [← h1, lk_keep] at hx
    split at hx
    · exact hx
    · cases hx
  · rw [← h2, lk_keep] at hx
    split at hx
    · exact hx
    · cases hx
theorem Do.mono {c : Code} {Q Q' : Exit → St → Prop} (h : Do P G nt c st Q) (hq : ∀ e s, Q e s → Q' e s) : Do P G nt c st Q' :=
  fun cx a W hn hr => Code.wp_mono (fun _ _ _ ⟨s, h1, h2⟩ => ⟨s, hq _ _ h1, h2⟩) (h cx a W hn hr)
theorem Do.le {c : Code} {s t : St} (hl : s.le t) (h : Do P G nt c s QE) : Do P G nt c t QE :=
  fun cx a W hn hr => h cx a W hn (hr.le hl)
theorem Do.skip (h : QE .normal st) : Do P G nt .skip st QE := fun cx a W hn hr => wp_skip ⟨st, h, hr⟩
theorem Do.ret (h : QE .ret st) : Do P G nt .ret st QE := fun cx a W hn hr => wp_ret ⟨st, h, hr⟩
theorem Do.exit {id : Nat} (h : QE (.exit id) st) : Do P G nt (.exit id) st QE := fun cx a W hn hr => wp_exit ⟨st, h, hr⟩
theorem Do.seq {x y : Code} (h : Do P G nt x st (thenQ (fun s => Do P G nt y s QE) QE)) : Do P G nt (.seq x y) st QE :=
  fun cx a W hn hr => wp_seq (Code.wp_mono (fun e a' W' ⟨s, h1, h2⟩ => by
    cases e with
    | normal => exact h1 cx a' W' hn h2
    | _ => exact ⟨s, h1, h2⟩) (h cx a W hn hr))
/-- The rest under a name of its own. -/
theorem Do.seqk {x y : Code} (h : ∀ K : St → Prop, (∀ s, Do P G nt y s QE → K s) → Do P G nt x st (thenQ K QE)) : Do P G nt (.seq x y) st QE := Do.seq (h _ fun _ h => h)
theorem Do.block {id : Nat} {c : Code} (h : Do P G nt c st (blockQ id QE)) : Do P G nt (.block id c) st QE :=
  fun cx a W hn hr => wp_block (Code.wp_mono (fun e a' W' ⟨s, h1, h2⟩ => by
    cases e with
    | exit i =>
      simp only [blockQ] at h1
      simp only [Exit.inBlock]
      split
      · rename_i hi; rw [if_pos hi] at h1; exact ⟨s, h1, h2⟩
      · rename_i hi; rw [if_neg hi] at h1; exact ⟨s, h1, h2⟩
    | _ => exact ⟨s, h1, h2⟩) (h cx a W hn hr))
theorem Do.region {id : Nat} {l : List Oper} (ks : List Nat) (md : Bool) (h : runs P G nt md l (fun s => QE .normal (s.only ks)) (id * 100) l st) : Do P G nt (.region id l.toArray false) st QE :=
  fun cx a W hn hr => wp_region_lit (DoL.run h cx a W hn hr _ fun s a' W' h1 h2 => ⟨_, h1, h2.le (St.only_le ks s)⟩)
theorem Do.cond {c : Operand} {x y : Code} {t : Bool} (ks : List Nat) (hc : opv st.tm c = some (.v (.c (.b t)))) (ht : t = true → Do P G nt x (st.only ks) QE) (hf : t = false → Do P G nt y (st.only ks) QE) : Do P G nt (.cond c x y) st QE := by
  intro cx a W hn hr
  obtain ⟨m, hm⟩ := hr
  have hv : a.eval c = .bool t := hm.opv hc
  exact wp_cond_split hv (fun e => ht e cx a W hn (Rel.le ⟨m, hm⟩ (St.only_le ks st))) (fun e => hf e cx a W hn (Rel.le ⟨m, hm⟩ (St.only_le ks st)))
/-- Behind a round. -/
def Round {α : Type} (S : α → St) (I : α → Prop) (μ : α → Nat) (x : α) (s : St) : Prop := ∃ y, (S y).le s ∧ I y ∧ μ y < μ x
/-- A loop: what holds at each round's head, and a measure that each round lowers. -/
theorem Do.loop {α : Type} {c : Code} (S : α → St) (I : α → Prop) (μ : α → Nat) (x : α) (h0 : (S x).le st) (hI : I x)
    (hround : ∀ x, I x → Do P G nt c (S x) (thenQ (Round S I μ x) QE)) : Do P G nt (.loop c) st QE := by
  intro cx a W hn hr b k cs
  have key : ∀ n x, μ x = n → I x → ∀ a W, Rel G cx (S x) a W → ∃ e a' w', (∃ st', QE e st' ∧ Rel G cx st' a' w') ∧ Arrives P (lone (b.at a (.code c :: .inLoop c :: k)) cs W) b k cs e a' w' := by
    intro n
    induction n using Nat.strongRecOn with
    | _ n ih =>
      intro x hx hI a W hr
      obtain ⟨e, a₁, w₁, ⟨s, hq, hs⟩, harr⟩ := hround x hI cx a W hn hr b (.inLoop c :: k) cs
      cases e with
      | normal =>
        obtain ⟨y, h1, h2, h3⟩ := hq
        obtain ⟨e₂, a₂, w₂, hq₂, harr₂⟩ := ih (μ y) (hx ▸ h3) y rfl h2 a₁ w₁ (hs.le h1)
        exact ⟨e₂, a₂, w₂, hq₂, .of_steps (Steps.trans harr (.one step_inLoop)) harr₂⟩
      | exit id => exact ⟨_, a₁, w₁, ⟨s, hq, hs⟩, .pass (x := .inLoop c) rfl (fun _ _ => .inl (by simp)) harr⟩
      | goto l => exact ⟨_, a₁, w₁, ⟨s, hq, hs⟩, .pass (x := .inLoop c) rfl (fun _ _ => .inl (by simp)) harr⟩
      | ret => exact ⟨_, a₁, w₁, ⟨s, hq, hs⟩, .pass (x := .inLoop c) rfl (fun _ _ => .inl (by simp)) harr⟩
      | panic ch => exact ⟨_, a₁, w₁, ⟨s, hq, hs⟩, .pass (x := .inLoop c) rfl (fun _ _ => .inl (by simp)) harr⟩
      | outgrown => exact ⟨_, a₁, w₁, ⟨s, hq, hs⟩, .pass (x := .inLoop c) rfl (fun _ _ => .inl (by simp)) harr⟩
  obtain ⟨e, a', w', hq, harr⟩ := key _ x rfl hI a W (hr.le h0)
  exact ⟨e, a', w', hq, .of_steps (.one step_loop) harr⟩
end
/-- A value as one that came in. -/
def PV.ext : PV → PV
  | .c x => .c x.ext
  | .a cs => .a (exts cs)
  | .s _ l => .s false l
/-- The package variables, as they lie. -/
def GlOk (G : Gl) (W : World) : Prop := ∀ b off x, (G b)[off]? = some x → x.pure = true ∧ ∃ v, W.cell? ⟨b, off, none⟩ = some v ∧ ∀ E, RC E x v
/-- Where the arguments of a call are read. -/
def enA (W : World) (ok : Nat → Prop) : En := ⟨W, ok, 0, fun _ => none, fun _ => none⟩
/-- Where its results are read. -/
def enR (W W' : World) (ok : Nat → Prop) : En := ⟨W', fun b => (ok b ∨ W.heap.size ≤ b) ∧ b < W'.heap.size, W.heap.size, fun _ => none, fun _ => none⟩
/-- What a call computes. -/
def Does (P : Program) (G : Gl) (f : FuncId) (args : List PV) (ret : TV) : Prop :=
  ∀ (W : World) (ok : Nat → Prop) (vals : List Value), (∀ b, ok b → b < W.heap.size) → GlOk G W → All2 (RP (enA W ok)) args vals →
    ((callFunc f vals.toArray).run P W = .ok (.enter f vals.toArray) W ∧ Calls P f vals.toArray W (fun e W' => ∃ v, e = .returned v ∧ RowKit.Below W.heap.size W W' ∧ RT (enR W W' ok) ret v)) ∨
    ∃ v, (callFunc f vals.toArray).run P W = .ok (.value v) W ∧ RT (enR W W ok) ret v
end Go.Proofs.YtbhokdhkfodpfaaGreatDoor

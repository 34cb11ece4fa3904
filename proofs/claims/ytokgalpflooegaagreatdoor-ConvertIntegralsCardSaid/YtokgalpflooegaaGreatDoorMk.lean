/- A box under another label; a pointer to cells, taken as one, within a region. No condition. Pairs of floats: the rounded sum, and what it drops. No condition. The law SumPairs. No condition. Products of floats, plain. No condition. Sums of products of floats, plain. No condition. A rounding without flags: the number is one of the format. No condition. A part of a row of the call's own, given to a call; functions whose result is a row of words of the caller's. No condition. Division by the schoolbook: what its loops hold. No condition. -/
import Derived.Test.YtokgalpflooegaaGreatDoorMj
import Derived.Test.YtokgalpflooegaaGreatDoorMg
import Derived.Test.YtokgalpflooegaaGreatDoorMi
/- A box under another label; a pointer to cells, taken as one, within a region. No condition. -/
namespace Go.Proofs.YtokgalpflooegaaGreatDoor
set_option linter.unusedVariables false
set_option linter.unusedSimpArgs false
section
variable {P : Program} {G : Gl} {nt : Nat} {st : St} {cx : Cx} {a : Act} {W W' : World} {m : Nat → Option Nat} {QE : Exit → St → Prop} {ops l : List Oper} {Q : St → Prop}
theorem lk_all {α : Type} {p : Nat × α → Bool} {j : Nat} {x : α} : ∀ {l : List (Nat × α)}, l.all p = true → lk j l = some x → p (j, x) = true
  | [], _, h => by simp [lk] at h
  | (k, y) :: r, ha, h => by
    simp only [List.all_cons, Bool.and_eq_true] at ha
    simp only [lk] at h
    split at h
    · rename_i e; injection h with h; subst h; subst e; exact ha.1
    · exact lk_all ha.2 h
/-- A box under another label. -/
theorem RelM.rename (h : RelM G cx m st a W) {la lb t : Nat} {cs : List Ce} (ht : lk t st.tm = some (.v (.c (.p la 0)))) (ha : lk la st.ob = some (.box cs)) (hf : st.free lb = true) (h1 : ((del t st.tm).all fun x => !x.2.labs.contains la) = true) (h2 : (st.ob.all fun x => !x.2.labs.contains la) = true) (hp : la ≠ 7777777) :
    RelM G cx (upd m lb (m la)) ⟨put t (.v (.c (.p lb 0))) st.tm, put lb (.box cs) (del la st.ob)⟩ a W := by
  obtain ⟨f1, f2, f3⟩ := St.free_spec hf
  have hlb : lk lb st.ob = none := f2
  have hne : la ≠ lb := fun e => by rw [e, hlb] at ha; cases ha
  have hd : ∀ k o, lk k (put lb (.box cs) (del la st.ob)) = some o → (k = lb ∧ o = .box cs) ∨ (k ≠ lb ∧ k ≠ la ∧ lk k st.ob = some o) := fun k o hk => by
    rw [lk_put] at hk
    split at hk
    · rename_i e; injection hk with hk; exact .inl ⟨e, hk.symm⟩
    · rename_i e
      rw [lk_del] at hk
      split at hk
      · cases hk
      · rename_i e2; exact .inr ⟨e, e2, hk⟩
  have he : EnLe (fun j => j ≠ la ∧ j ≠ lb) (en cx m st.ob W) (en cx (upd m lb (m la)) (put lb (.box cs) (del la st.ob)) W) := by
    refine ⟨fun b ⟨g1, g2, g3⟩ => ⟨g1, g2, fun j o hj => ?_⟩, fun _ _ => rfl, Nat.le_refl _, fun j hj o' ho' => ?_⟩
    · rcases hd j o hj with ⟨rfl, rfl⟩ | ⟨k1, k2, k3⟩
      · rw [upd_self]; exact g3 la _ ha
      · rw [upd_ne _ _ k1]; exact g3 j o k3
    · rcases hd j o' ho' with ⟨e, _⟩ | ⟨k1, k2, k3⟩
      · exact absurd e hj.2
      · exact ⟨o', k3, rfl, rfl, Nat.le_refl _, fun _ => ⟨upd_ne _ _ k1, fun _ _ => rfl⟩⟩
  have hlab : ∀ j o, lk j st.ob = some o → ∀ k ∈ o.labs, k ≠ la ∧ k ≠ lb := fun j o hj k hk => by
    refine ⟨fun e => ?_, fun e => f3 j o hj (e ▸ hk)⟩
    have := lk_all h2 hj
    subst e
    simp at this; exact this hk
  have hro := h.ob la _ ha
  refine { h with tm := fun s x hx => ?_, ob := fun j o hj => ?_, inj := fun j j' o o' b g1 g2 g3 g4 => ?_, own := fun j o b g1 g2 => ?_, pin := fun o ho => ?_ }
  · rw [lk_put] at hx
    split at hx
    · rename_i e
      injection hx with hx; subst hx; subst e
      obtain ⟨v, hv, q1, q2⟩ := h.tm _ _ ht
      refine ⟨v, hv, q1, fun cs' hcs' => ?_⟩
      obtain ⟨b, q3, q4⟩ := q2 cs ha
      exact ⟨b, by show upd m lb (m la) lb = some b; rw [upd_self]; exact q3, q4⟩
    · rename_i e
      obtain ⟨v, hv, hr⟩ := h.tm s x hx
      refine ⟨v, hv, RT.mono he (fun j hj => ⟨fun e2 => ?_, fun e2 => f1 s x hx (e2 ▸ hj)⟩) hr⟩
      have hx2 : lk s (del t st.tm) = some x := by rw [lk_del, if_neg e]; exact hx
      have := lk_all h1 hx2
      subst e2
      simp at this; exact this hj
  · rcases hd j o hj with ⟨rfl, rfl⟩ | ⟨k1, k2, k3⟩
    · obtain ⟨b, vs, e, q1, q2, q3⟩ := hro
      refine ⟨b, vs, e, by show upd m j (m la) j = some b; rw [upd_self]; exact q1, q2, q3.mono' fun c hc v hv => RC.mono he (fun k hk => hlab la _ ha k ?_) hv⟩
      exact List.mem_flatMap.2 ⟨c, hc, hk⟩
    · exact RO.mono he (hlab j o k3) (upd_ne _ _ k1) (fun _ _ => rfl) (h.ob j o k3)
  · rcases hd j o g1 with ⟨rfl, rfl⟩ | ⟨k1, k2, k3⟩ <;> rcases hd j' o' g2 with ⟨rfl, rfl⟩ | ⟨u1, u2, u3⟩
    · rfl
    · rw [upd_self] at g3; rw [upd_ne _ _ u1] at g4
      exact absurd (h.inj la j' _ _ b ha u3 g3 g4) (Ne.symm u2)
    · rw [upd_self] at g4; rw [upd_ne _ _ k1] at g3
      exact absurd (h.inj j la _ _ b k3 ha g3 g4) k2
    · rw [upd_ne _ _ k1] at g3; rw [upd_ne _ _ u1] at g4
      exact h.inj j j' o o' b k3 u3 g3 g4
  · rcases hd j o g1 with ⟨rfl, rfl⟩ | ⟨k1, k2, k3⟩
    · rw [upd_self] at g2
      have := h.own la _ b ha g2
      exact ⟨this.1, this.2.elim .inl fun e => absurd e.2.2 hp⟩
    · rw [upd_ne _ _ k1] at g2; exact h.own j o b k3 g2
  · rcases hd _ o ho with ⟨e, _⟩ | ⟨k1, k2, k3⟩
    · exact absurd e.symm (St.free_pin hf)
    · obtain ⟨g1, b, g2, g3, g4⟩ := h.pin o k3
      exact ⟨g1, b, by rw [upd_ne _ _ k1]; exact g2, g3, g4⟩
theorem Do.rename {c : Code} (la lb t : Nat) {cs : List Ce} (ht : lk t st.tm = some (.v (.c (.p la 0)))) (ha : lk la st.ob = some (.box cs)) (hf : st.free lb = true) (h1 : ((del t st.tm).all fun x => !x.2.labs.contains la) = true) (h2 : (st.ob.all fun x => !x.2.labs.contains la) = true) (hp : la ≠ 7777777) (h : Do P G nt c ⟨put t (.v (.c (.p lb 0))) st.tm, put lb (.box cs) (del la st.ob)⟩ QE) : Do P G nt c st QE :=
  fun cx a W hn ⟨_, hr⟩ => h cx a W hn ⟨_, hr.rename ht ha hf h1 h2 hp⟩
/-- An object that nobody asks for any more. -/
theorem Do.drop {c : Code} (la : Nat) (h : Do P G nt c ⟨st.tm, del la st.ob⟩ QE) : Do P G nt c st QE :=
  fun cx a W hn ⟨m, hr⟩ => h cx a W hn ⟨m, hr.fewer (del la st.ob) fun j o hj => by
    rw [lk_del] at hj
    split at hj
    · cases hj
    · exact hj⟩
/-- A pointer to cells, taken as one. -/
theorem DoL.turn (md : Bool) (lab t : Nat) {cs : List Ce} (ht : lk t st.tm = some (.v (.c (.x (PtrSx cs))))) (h : runs P G nt md ops Q lab l ⟨put t (.e cs) st.tm, st.ob⟩) : DoL P G nt ops l st Q := by
  intro cx a W hn ⟨m, hr⟩
  refine DoL.run h cx a W hn ⟨m, { hr with tm := fun s x hx => ?_ }⟩
  rcases lk_le_put s x st.tm hx with ⟨rfl, rfl⟩ | ⟨_, hx⟩
  · obtain ⟨v, hv, ad, h1, h2, vs, h3, h4⟩ := hr.tm _ _ ht
    exact ⟨v, hv, ad, h1, h2, vs, RCs.same (E := enA W (okOf cx m st.ob W)) (E' := en cx m st.ob W) (fun _ h => h) rfl h3, h4⟩
  · exact hr.tm s x hx
/-- A call with a pointer to a box of this function's own, wherever it comes up. -/
theorem callP_core {f : FuncId} {y : Operand} {az : List Operand} {p : Prop} {args : List PV} {j : Nat} {cs cs' : List Ce} (hr : RelM G cx m st a W) (hy : opv st.tm y = some (.v (.c (.p j 0)))) (hj : lk j st.ob = some (.box cs)) (ha : argsOf st az = some (p, args, false)) (hp : p) (hD : DoesP P G f cs args cs') (hl : cs'.flatMap Ce.labs = []) (hl0 : cs.flatMap Ce.labs = []) :
    ∃ b : Nat, a.eval y = .pointer (some ⟨b, 0, none⟩) ∧ (callFunc f (.pointer (some ⟨b, 0, none⟩) :: az.map a.eval).toArray).run P W = .ok (.enter f (.pointer (some ⟨b, 0, none⟩) :: az.map a.eval).toArray) W ∧ Calls P f (.pointer (some ⟨b, 0, none⟩) :: az.map a.eval).toArray W (fun en W' => en = .returned (.tuple #[]) ∧ RelM G cx m ⟨st.tm, put j (.box cs') st.ob⟩ a W') := by
  have hargs := argsOf_run hr ha hp false id
  have hok : ∀ b, okC cx m st W false b → b < W.heap.size := by
    rintro b (h | ⟨e, _⟩)
    · exact h.2.1
    · cases e
  obtain ⟨b, hb, hyv⟩ := (hr.opv hy).2 cs hj
  have hyv : a.eval y = .pointer (some ⟨b, 0, none⟩) := hyv
  obtain ⟨vs, e, r2, r3⟩ : ∃ vs e, W.heap[b]? = some (.cells vs e (0, 0)) ∧ All2 (RC (en cx m st.ob W)) cs vs.toList := by
    obtain ⟨b', vs, e, r1, r2, r3⟩ := hr.ob j _ hj
    rw [← some_unique (show m j = some b from hb) (show m j = some b' from r1)]
    exact ⟨vs, e, r2, r3⟩
  have hnb : ¬ okC cx m st W false b := by
    rintro (h | ⟨e, _⟩)
    · exact h.2.2 j _ hj hb
    · cases e
  have hcs : All2 (RC (enA W (okC cx m st W false))) (exts cs) vs.toList := exts_RC (r3.mono' fun c hc v hv => RC.mono (okC_le cx m st W false) (fun _ _ => trivial) hv)
  have hgb : ∀ (b' off : Nat) (x : Ce), (G b')[off]? = some x → b' ≠ b := fun b' off x hx e => by
    subst e
    obtain ⟨k1, k2, _⟩ := hr.gl b' off x hx
    rcases (hr.own j _ b' hj hb).2 with k3 | k3
    · omega
    · exact k2 k3.1
  obtain ⟨h1, h2⟩ := hD W (okC cx m st W false) _ b vs e hok hr.glOk hgb hnb r2 hcs hargs
  refine ⟨b, hyv, h1, h2.mono ?_⟩
  rintro en' W' ⟨rfl, hX, hsh, vs', e', q1, q2⟩
  have hlt := lt_of_heap r2
  have he := enP hr hX hsh (cs' := cs') hj hb
  have hr2 : RelM G cx m ⟨st.tm, put j (.box cs') st.ob⟩ a W' := by
    refine hr.move he (fun _ _ _ _ _ => trivial) hX.size hX.os hX.tape hX.output (fun c hc hn => hX.block c (Nat.lt_of_lt_of_le hc hr.size) (fun e => by
        subst e; rcases (hr.own j _ c hj hb).2 with h' | h'
        · omega
        · exact hn h'.1)) (fun k o2 hk => ?_) (fun k k' o1 o2 c g1 g2 g3 g4 => ?_) (fun k o2 c g1 g2 => ?_) (fun o2 ho2 => ?_)
    · by_cases hkj : k = j
      · subst hkj; rw [lk_put_self] at hk; injection hk with hk; subst hk
        refine ⟨b, vs', e', hb, q1, q2.mono' fun c hc v hv => RC.mono (L := fun _ => False) (E := enR W W' (okC cx m st W false)) (E' := en cx m (put k (.box cs') st.ob) W') ⟨fun c ⟨g1, g2⟩ => ?_, fun _ _ => rfl, hr.size, fun _ hF => hF.elim⟩ (fun i hi => ?_) hv⟩
        · have hnew : ∀ i o', lk i (put k (.box cs') st.ob) = some o' → ∃ o3, lk i st.ob = some o3 := fun i o' hi => by
            by_cases hik : i = k
            · subst hik; exact ⟨_, hj⟩
            · rw [lk_put_ne _ _ hik] at hi; exact ⟨_, hi⟩
          rcases g1 with (g1 | ⟨e, _⟩) | g1
          · exact ⟨g1.1, g2, fun i o' hi => let ⟨o3, h3⟩ := hnew i o' hi; g1.2.2 i o3 h3⟩
          · cases e
          · exact ⟨.inr (Nat.le_trans hr.size g1), g2, fun i o' hi e => by obtain ⟨o3, h3⟩ := hnew i o' hi; have := (hr.own i o3 c h3 e).1; omega⟩
        · have : i ∈ cs'.flatMap Ce.labs := List.mem_flatMap.2 ⟨c, hc, hi⟩
          rw [hl] at this; cases this
      · rw [lk_put_ne _ _ hkj] at hk
        exact RO.mono he (fun _ _ => trivial) rfl (fun c hc => hX.block c (hr.own k o2 c hk hc).1 (fun e => hkj (by subst e; exact hr.inj k j o2 _ c hk hj hc hb))) (hr.ob k o2 hk)
    · have f : ∀ {k o2}, lk k (put j (.box cs') st.ob) = some o2 → ∃ o3, lk k st.ob = some o3 := fun {k o2} hk => by
        by_cases hkj : k = j
        · subst hkj; exact ⟨_, hj⟩
        · rw [lk_put_ne _ _ hkj] at hk; exact ⟨_, hk⟩
      obtain ⟨o3, q1⟩ := f g1
      obtain ⟨o4, q2⟩ := f g2
      exact hr.inj k k' o3 o4 c q1 q2 g3 g4
    · by_cases hkj : k = j
      · subst hkj
        rw [lk_put_self] at g1; injection g1 with g1; subst g1
        exact ⟨Nat.lt_of_lt_of_le (hr.own k _ c hj g2).1 hX.size, (hr.own k _ c hj g2).2⟩
      · rw [lk_put_ne _ _ hkj] at g1; exact ⟨Nat.lt_of_lt_of_le (hr.own k o2 c g1 g2).1 hX.size, (hr.own k o2 c g1 g2).2⟩
    · have key : ∀ o3, lk 7777777 st.ob = some o3 → ∃ b, m 7777777 = some b ∧ cx.bo b ∧ W'.shape? b = cx.W0.shape? b := fun o3 h3 => by
        obtain ⟨_, c, g2, g3, g4⟩ := hr.pin o3 h3
        refine ⟨c, g2, g3, ?_⟩
        by_cases hc : c = b
        · subst hc; exact hsh.trans g4
        · exact (shape_of_heap (hX.block c (hr.own _ o3 c h3 g2).1 hc)).trans g4
      by_cases hkj : 7777777 = j
      · subst hkj; rw [lk_put_self] at ho2; injection ho2 with ho2; subst ho2
        exact ⟨rfl, key _ hj⟩
      · rw [lk_put_ne _ _ hkj] at ho2; exact ⟨(hr.pin o2 ho2).1, key _ ho2⟩
  exact ⟨rfl, hr2⟩
theorem opOk_callP {B : List Nat} {o : Oper} {f : FuncId} {x y : Operand} {az : List Operand} {ts : Array TypeId} {p : Prop} {args : List PV} {j : Nat} {cs cs' : List Ce} (lab : Nat) (hg : o.guard = none) (hop : o.op = .call { callee := .value x, args := (y :: az).toArray, argTypes := ts })
    (hx : opv st.tm x = some (.v (.c (.f f)))) (hy : opv st.tm y = some (.v (.c (.p j 0)))) (hj : lk j st.ob = some (.box cs)) (ha : argsOf st az = some (p, args, false)) (hp : p) (hD : DoesP P G f cs args cs') (hl : cs'.flatMap Ce.labs = []) (hl0 : cs.flatMap Ce.labs = []) (hd : o.dst = none) :
    OpOk P G nt ops B o st ⟨o.dst, none, .upd j (.box cs'), lab, j :: labsOf st.tm az⟩ := by
  refine ⟨rfl, fun cx a W m S hn _ hrd hus hfree hr Q' K hK => ?_⟩
  have hmem : ∀ t, (.tmp t = x ∨ .tmp t ∈ y :: az) → t ∈ rdOf ops o := fun t ht => by
    unfold rdOf
    simp only [List.mem_append]
    refine .inl (.inl (tmpsOf_mem ?_))
    rw [hop]
    rcases ht with e | e
    · simp [Op.operands, Call.operands, e]
    · simp only [Op.operands, Call.operands, Array.toList_append, List.mem_append]; exact .inr (by simpa using e)
  have hx' : opv S.tm x = some (.v (.c (.f f))) := by rw [← hx]; exact opv_congr fun t e => hrd t (hmem t (.inl e.symm))
  have hy' : opv S.tm y = some (.v (.c (.p j 0))) := by rw [← hy]; exact opv_congr fun t e => hrd t (hmem t (.inr (e ▸ List.mem_cons_self)))
  have hj' : lk j S.ob = some (.box cs) := by rw [← hj]; exact hus j (by simp)
  have ha' : argsOf S az = some (p, args, false) := by rw [← ha]; exact argsOf_congr (fun z hz => opv_congr fun t e => hrd t (hmem t (.inr (e ▸ List.mem_cons_of_mem _ hz)))) (fun k hk => hus k (by simp only [List.mem_cons]; exact .inr hk))
  rw [wanted_none hg, if_pos rfl]
  unfold Oper.wp
  have hxv : a.eval x = .func (.func f) #[] #[] := hr.opv hx'
  obtain ⟨b, hyv, h1, h2⟩ := callP_core hr hy' hj' ha' hp hD hl hl0
  have hexec : execOp a.eval o = callFunc f (.pointer (some ⟨b, 0, none⟩) :: az.map a.eval).toArray := by
    unfold execOp
    simp [hop, resolve, hxv, Deferred.ofValue, invoke, hyv]
  rw [hexec, h1]
  refine h2.mono ?_
  rintro en' W' ⟨rfl, hr2⟩
  refine hK _ _ ?_
  rw [hd]
  exact ⟨m, hr2⟩
theorem DoLD.callP {st0 : St} {acc : List Sm} {Q : List Sm → St → Prop} {o : Oper} {f : FuncId} {x y : Operand} {az : List Operand} {ts : Array TypeId} {p : Prop} {args : List PV} {j : Nat} {cs cs' : List Ce} (md : Bool) (lab : Nat) (hg : o.guard = none) (hop : o.op = .call { callee := .value x, args := (y :: az).toArray, argTypes := ts })
    (hx : opv st.tm x = some (.v (.c (.f f)))) (hy : opv st.tm y = some (.v (.c (.p j 0)))) (hj : lk j st.ob = some (.box cs)) (ha : argsOf st az = some (p, args, false)) (hp : p) (hD : DoesP P G f cs args cs') (hl : cs'.flatMap Ce.labs = []) (hl0 : cs.flatMap Ce.labs = []) (hd : o.dst = none)
    (next : runsD P G nt md ops st0 Q lab l (acc ++ [(Tr.mk o.dst none (.upd j (.box cs')) 0 (j :: labsOf st.tm az)).sm]) ⟨st.tm, put j (.box cs') st.ob⟩) : DoLD P G nt ops st0 Q (o :: l) acc st := by
  refine DoLD.cons (opOk_callP 0 hg hop hx hy hj ha hp hD hl hl0 hd) (fun l hl => by simp [Tr.nw, Eff.isNew] at hl) rfl ?_
  have e : (Tr.mk o.dst none (.upd j (.box cs')) 0 (j :: labsOf st.tm az)).app st = ⟨st.tm, put j (.box cs') st.ob⟩ := by rw [hd]; rfl
  rw [e]
  exact DoLD.run next
theorem DoL.callP2 {o : Oper} {f : FuncId} {x y : Operand} {az : List Operand} {ts : Array TypeId} {p : Prop} {args : List PV} {j : Nat} {cs cs' : List Ce} (md : Bool) (lab : Nat) (hg : o.guard = none) (hop : o.op = .call { callee := .value x, args := (y :: az).toArray, argTypes := ts })
    (hx : opv st.tm x = some (.v (.c (.f f)))) (hy : opv st.tm y = some (.v (.c (.p j 0)))) (hj : lk j st.ob = some (.box cs)) (ha : argsOf st az = some (p, args, false)) (hp : p) (hD : DoesP P G f cs args cs') (hl : cs'.flatMap Ce.labs = []) (hl0 : cs.flatMap Ce.labs = []) (hd : dstOk nt o.dst = true)
    (next : runs P G nt md ops Q lab l ⟨setv o.dst (some (.t [])) st.tm, put j (.box cs') st.ob⟩) : DoL P G nt ops (o :: l) st Q := by
  intro cx a W hn ⟨m, hr⟩ Q' hQ
  refine wpList_plain hg fun K hK => ?_
  unfold Oper.wp
  have hxv : a.eval x = .func (.func f) #[] #[] := hr.opv hx
  obtain ⟨b, hyv, h1, h2⟩ := callP_core hr hy hj ha hp hD hl hl0
  have hexec : execOp a.eval o = callFunc f (.pointer (some ⟨b, 0, none⟩) :: az.map a.eval).toArray := by
    unfold execOp
    simp [hop, resolve, hxv, Deferred.ofValue, invoke, hyv]
  rw [hexec, h1]
  refine h2.mono ?_
  rintro en' W' ⟨rfl, hr2⟩
  have hput := Rel.put (st := ⟨st.tm, put j (.box cs') st.ob⟩) hr2 hn hd (x := .t []) (v := .tuple #[]) ⟨_, rfl, .nil⟩
  exact hK _ _ (DoL.run next cx _ _ hn hput Q' hQ)
theorem opOk_callP2 {B : List Nat} {o : Oper} {f : FuncId} {x y : Operand} {az : List Operand} {ts : Array TypeId} {p : Prop} {args : List PV} {j : Nat} {cs cs' : List Ce} (lab : Nat) (hg : o.guard = none) (hop : o.op = .call { callee := .value x, args := (y :: az).toArray, argTypes := ts })
    (hx : opv st.tm x = some (.v (.c (.f f)))) (hy : opv st.tm y = some (.v (.c (.p j 0)))) (hj : lk j st.ob = some (.box cs)) (ha : argsOf st az = some (p, args, false)) (hp : p) (hD : DoesP P G f cs args cs') (hl : cs'.flatMap Ce.labs = []) (hl0 : cs.flatMap Ce.labs = []) (hd : dstOk nt o.dst = true) :
    OpOk P G nt ops B o st ⟨o.dst, some (.t []), .upd j (.box cs'), lab, j :: labsOf st.tm az⟩ := by
  refine ⟨rfl, fun cx a W m S hn _ hrd hus hfree hr Q' K hK => ?_⟩
  have hmem : ∀ t, (.tmp t = x ∨ .tmp t ∈ y :: az) → t ∈ rdOf ops o := fun t ht => by
    unfold rdOf
    simp only [List.mem_append]
    refine .inl (.inl (tmpsOf_mem ?_))
    rw [hop]
    rcases ht with e | e
    · simp [Op.operands, Call.operands, e]
    · simp only [Op.operands, Call.operands, Array.toList_append, List.mem_append]; exact .inr (by simpa using e)
  have hx' : opv S.tm x = some (.v (.c (.f f))) := by rw [← hx]; exact opv_congr fun t e => hrd t (hmem t (.inl e.symm))
  have hy' : opv S.tm y = some (.v (.c (.p j 0))) := by rw [← hy]; exact opv_congr fun t e => hrd t (hmem t (.inr (e ▸ List.mem_cons_self)))
  have hj' : lk j S.ob = some (.box cs) := by rw [← hj]; exact hus j (by simp)
  have ha' : argsOf S az = some (p, args, false) := by rw [← ha]; exact argsOf_congr (fun z hz => opv_congr fun t e => hrd t (hmem t (.inr (e ▸ List.mem_cons_of_mem _ hz)))) (fun k hk => hus k (by simp only [List.mem_cons]; exact .inr hk))
  rw [wanted_none hg, if_pos rfl]
  unfold Oper.wp
  have hxv : a.eval x = .func (.func f) #[] #[] := hr.opv hx'
  obtain ⟨b, hyv, h1, h2⟩ := callP_core hr hy' hj' ha' hp hD hl hl0
  have hexec : execOp a.eval o = callFunc f (.pointer (some ⟨b, 0, none⟩) :: az.map a.eval).toArray := by
    unfold execOp
    simp [hop, resolve, hxv, Deferred.ofValue, invoke, hyv]
  rw [hexec, h1]
  refine h2.mono ?_
  rintro en' W' ⟨rfl, hr2⟩
  refine hK _ _ ?_
  exact Rel.put (st := ⟨S.tm, put j (.box cs') S.ob⟩) hr2 hn hd (x := .t []) (v := .tuple #[]) ⟨_, rfl, .nil⟩
theorem DoLD.callP2 {st0 : St} {acc : List Sm} {Q : List Sm → St → Prop} {o : Oper} {f : FuncId} {x y : Operand} {az : List Operand} {ts : Array TypeId} {p : Prop} {args : List PV} {j : Nat} {cs cs' : List Ce} (md : Bool) (lab : Nat) (hg : o.guard = none) (hop : o.op = .call { callee := .value x, args := (y :: az).toArray, argTypes := ts })
    (hx : opv st.tm x = some (.v (.c (.f f)))) (hy : opv st.tm y = some (.v (.c (.p j 0)))) (hj : lk j st.ob = some (.box cs)) (ha : argsOf st az = some (p, args, false)) (hp : p) (hD : DoesP P G f cs args cs') (hl : cs'.flatMap Ce.labs = []) (hl0 : cs.flatMap Ce.labs = []) (hd : dstOk nt o.dst = true)
    (next : runsD P G nt md ops st0 Q lab l (acc ++ [(Tr.mk o.dst (some (.t [])) (.upd j (.box cs')) 0 (j :: labsOf st.tm az)).sm]) ⟨setv o.dst (some (.t [])) st.tm, put j (.box cs') st.ob⟩) : DoLD P G nt ops st0 Q (o :: l) acc st := by
  refine DoLD.cons (opOk_callP2 0 hg hop hx hy hj ha hp hD hl hl0 hd) (fun l hl => by simp [Tr.nw, Eff.isNew] at hl) rfl ?_
  exact DoLD.run next
theorem ple_run {E : En} {cs cs' : List Ce} (hle : All2 (fun c d => PLe (.c c) (.c d)) cs cs') : ∀ {us : List Value}, All2 (RC E) cs us → All2 (RC E) cs' us := by
  induction hle with
  | nil => intro us h; exact h
  | cons h _ ih =>
    intro us h2
    obtain ⟨v, vs', rfl, g1, g2⟩ := h2.cons_iff
    exact .cons (h _ _ g1) (ih g2)
/-- A box whose cells are taken as less. -/
theorem RelM.weakB (hr : RelM G cx m st a W) {j : Nat} {cs cs' : List Ce} (hj : lk j st.ob = some (.box cs)) (hle : All2 (fun c d => PLe (.c c) (.c d)) cs cs') : RelM G cx m ⟨st.tm, put j (.box cs') st.ob⟩ a W := by
  obtain ⟨b, vs, e, hb, r2, r3⟩ := hr.ob j _ hj
  have hb : m j = some b := hb
  have hX : BelowX b W W := ⟨rfl, rfl, rfl, Nat.le_refl _, fun _ _ _ => rfl⟩
  have he := enP hr hX rfl (cs' := cs') hj hb
  have hd : ∀ k o, lk k (put j (.box cs') st.ob) = some o → (k = j ∧ o = .box cs') ∨ (k ≠ j ∧ lk k st.ob = some o) := fun k o hk => by
    rw [lk_put] at hk
    split at hk
    · rename_i e; injection hk with hk; exact .inl ⟨e, hk.symm⟩
    · rename_i e; exact .inr ⟨e, hk⟩
  refine hr.move he (fun _ _ _ _ _ => trivial) (Nat.le_refl _) rfl rfl rfl (fun _ _ _ => rfl) (fun k o hk => ?_) (fun k k' o o' c g1 g2 g3 g4 => ?_) (fun k o c g1 g2 => ?_) (fun o ho => ?_)
  · rcases hd k o hk with ⟨rfl, rfl⟩ | ⟨_, hk⟩
    · refine ⟨b, vs, e, hb, r2, ?_⟩
      have h2 : All2 (RC (en cx m (put k (.box cs') st.ob) W)) cs vs.toList := r3.mono' fun c hc v hv => RC.mono he (fun _ _ => trivial) hv
      exact ple_run hle h2
    · exact RO.mono he (fun _ _ => trivial) rfl (fun _ _ => rfl) (hr.ob k o hk)
  · have f : ∀ {k o}, lk k (put j (.box cs') st.ob) = some o → ∃ o3, lk k st.ob = some o3 := fun {k o} hk => by
      rcases hd k o hk with ⟨rfl, _⟩ | ⟨_, hk⟩
      · exact ⟨_, hj⟩
      · exact ⟨_, hk⟩
    obtain ⟨o3, q1⟩ := f g1
    obtain ⟨o4, q2⟩ := f g2
    exact hr.inj k k' o3 o4 c q1 q2 g3 g4
  · rcases hd k o g1 with ⟨rfl, rfl⟩ | ⟨_, hk⟩
    · have q := hr.own k _ c hj g2
      exact ⟨q.1, q.2.elim .inl fun e => .inr ⟨e.1, rfl, e.2.2⟩⟩
    · exact hr.own k o c hk g2
  · rcases hd _ o ho with ⟨rfl, rfl⟩ | ⟨_, hk⟩
    · exact ⟨rfl, (hr.pin _ hj).2⟩
    · exact hr.pin o hk
theorem Do.weakB {c : Code} (j : Nat) {cs : List Ce} (cs' : List Ce) (hj : lk j st.ob = some (.box cs)) (hle : All2 (fun c d => PLe (.c c) (.c d)) cs cs') (h : Do P G nt c ⟨st.tm, put j (.box cs') st.ob⟩ QE) : Do P G nt c st QE :=
  fun cx a W hn ⟨m, hr⟩ => h cx a W hn ⟨m, hr.weakB hj hle⟩
/-- A box given away: its pointer is read alone from here on. -/
theorem RelM.lend (h : RelM G cx m st a W) {t j : Nat} {cs : List Ce} (ht : lk t st.tm = some (.v (.c (.p j 0)))) (hj : lk j st.ob = some (.box cs)) (hpure : cs.all Ce.pure = true) (hp : j ≠ 7777777) : RelM G cx m ⟨put t (.v (.c (.x (PtrSx cs)))) st.tm, del j st.ob⟩ a W := by
  have hs : ∀ k o, lk k (del j st.ob) = some o → k ≠ j ∧ lk k st.ob = some o := fun k o hk => by
    rw [lk_del] at hk
    split at hk
    · cases hk
    · rename_i e; exact ⟨e, hk⟩
  have h1 := h.fewer (del j st.ob) fun k o hk => (hs k o hk).2
  refine { h1 with tm := fun s x hx => ?_ }
  rcases lk_le_put s x st.tm hx with ⟨rfl, rfl⟩ | ⟨_, hx⟩
  · obtain ⟨v, hv, q1, q2⟩ := h.tm _ _ ht
    obtain ⟨b, q3, q4⟩ := q2 cs hj
    obtain ⟨b', vs, e, r1, r2, r3⟩ := h.ob j _ hj
    obtain rfl := some_unique (show m j = some b' from r1) (show m j = some b from q3)
    have hown := h.own j _ b hj q3
    have hB : cx.B ≤ b := hown.2.elim id fun e => absurd e.2.2 hp
    refine ⟨v, hv, ⟨b, 0, none⟩, q4, ⟨.inr hB, hown.1, fun k o hk e => ?_⟩, vs.toList, ⟨fun c hc => List.all_eq_true.1 hpure c hc, r3.mono' fun c hc v hv => RC.mono (L := fun _ => False) (E := en cx m st.ob W) (E' := enA W (okOf cx m (del j st.ob) W)) ⟨fun b ⟨g1, g2, g3⟩ => ⟨g1, g2, fun k o hk => g3 k o (hs k o hk).2⟩, fun _ _ => rfl, Nat.zero_le _, fun _ hF => hF.elim⟩ (by rw [Ce.labs_of_pure (List.all_eq_true.1 hpure c hc)]; intro k hk; cases hk) hv⟩, fun q u hq => ?_⟩
    · obtain ⟨hne, hk⟩ := hs k o hk
      exact hne (h.inj k j o _ b hk hj e q3)
    · rw [addr_add0]
      simp only [World.cell?]
      rw [show (en cx m (del j st.ob) W).W.heap[b]? = _ from r2]
      simpa using hq
  · exact h1.tm s x hx
theorem DoL.lend (md : Bool) (lab t j : Nat) {cs : List Ce} (ht : lk t st.tm = some (.v (.c (.p j 0)))) (hj : lk j st.ob = some (.box cs)) (hpure : cs.all Ce.pure = true) (hp : j ≠ 7777777) (h : runs P G nt md ops Q lab l ⟨put t (.v (.c (.x (PtrSx cs)))) st.tm, del j st.ob⟩) : DoL P G nt ops l st Q :=
  fun cx a W hn ⟨m, hr⟩ => DoL.run h cx a W hn ⟨m, hr.lend ht hj hpure hp⟩
end
end Go.Proofs.YtokgalpflooegaaGreatDoor
/- Pairs of floats: the rounded sum, and what it drops. No condition. -/
namespace Go.Proofs.YtokgalpflooegaaGreatDoor
set_option linter.unusedVariables false
set_option linter.unusedSimpArgs false
set_option maxHeartbeats 4000000
set_option maxRecDepth 10000
theorem tiny_le {f p : Int} (hf : fmOk f p = true) : tiny f p ≤ 0 ∧ -100000 ≤ tiny f p := by
  obtain ⟨b1, b2, b3, b4⟩ := fmOk_spec hf
  obtain ⟨b5, b6⟩ := gOfE_le b1 b2
  show 1 - gOfE f - (p - 1) ≤ 0 ∧ -100000 ≤ 1 - gOfE f - (p - 1)
  omega
theorem sv_abs (z D : Int) : Nu.sv z ⟨decide (D < 0), D.natAbs, z⟩ = D := by
  unfold Nu.sv
  simp only [Int.sub_self, Int.toNat_zero, Nat.pow_zero, Nat.mul_one]
  split <;> rename_i h <;> simp at h <;> omega
/-- What a step of rounding leaves. -/
theorem round_step {f p : Int} (hf : fmOk f p = true) {R : Int} (hR : R ≠ 0) (hk : (roundP f p 0 (decide (R < 0)) R.natAbs (tiny f p) false).1.k ≠ 2) : ∃ q j : Nat, Near f p (tiny f p) R.natAbs q j ∧ (roundP f p 0 (decide (R < 0)) R.natAbs (tiny f p) false).1 = mkP (decide (R < 0)) q (tiny f p + j) ∧ fv (tiny f p) (roundP f p 0 (decide (R < 0)) R.natAbs (tiny f p) false).1 = sgn (decide (R < 0)) (q * 2 ^ j) := by
  obtain ⟨q, j, h1, h2, h3, h4, h5⟩ := roundP_near hf (Int.le_refl _) (show 0 < R.natAbs by omega) hk
  exact ⟨q, j, ⟨h1, h2, h3, h4⟩, h5, by rw [h5]; exact mkP_fv⟩
theorem float_number {f p : Int} (hf : fmOk f p = true) {L : List Flt} (hL : ∀ x ∈ L, x.k = 1 → tiny f p ≤ x.e) (hk : ((gatherP L).float f p 0).1.k = 0 ∨ ((gatherP L).float f p 0).1.k = 1) : (∀ x ∈ L, x.k ≠ 2 ∧ x.k ≠ 3) ∧ (svs (tiny f p) L = 0 → ∃ n, ((gatherP L).float f p 0).1 = ⟨0, n, 0, 0⟩) ∧ (svs (tiny f p) L ≠ 0 → ((gatherP L).float f p 0).1 = (roundP f p 0 (decide (svs (tiny f p) L < 0)) (svs (tiny f p) L).natAbs (tiny f p) false).1) := by
  have hG := gather_is (tiny_le hf).1 hL
  have hr := fun q => Nu.round_sv hG.low (b := ⟨decide (svs (tiny f p) L < 0), (svs (tiny f p) L).natAbs, tiny f p⟩) (Int.le_refl _) (by rw [hG.sum, sv_abs]) f p 0 q
  unfold Ga.float at hk ⊢
  have hn := hG.nan
  have hp := hG.plus
  have hm := hG.minus
  cases h3 : (gatherP L).nan with
  | true => rw [h3] at hk; simp at hk
  | false =>
    cases h2 : (gatherP L).plus with
    | true =>
      exfalso
      rw [h3, h2, hG.inv] at hk
      cases h1 : (gatherP L).minus with
      | true => rw [h1] at hk; simp at hk
      | false => rw [h1] at hk; simp at hk
    | false =>
      cases h1 : (gatherP L).minus with
      | true => rw [h3, h2, h1, hG.inv] at hk; simp at hk
      | false =>
        rw [h3] at hn
        rw [h2] at hp
        rw [h1] at hm
        refine ⟨fun x hx => ⟨fun e => ?_, fun e => ?_⟩, fun hS => ?_, fun hS => ?_⟩
        · have q1 := List.any_eq_false.1 hp.symm x hx
          have q2 := List.any_eq_false.1 hm.symm x hx
          simp [e] at q1 q2
          rw [q1] at q2; cases q2
        · have q1 := List.any_eq_false.1 hn.symm x hx
          simp [e] at q1
        · simp only [hG.inv, Bool.or_self, Bool.false_and, Bool.false_eq_true, if_false, hr]
          exact ⟨_, by rw [Nu.round, if_pos (by simp only []; omega)]⟩
        · simp only [hG.inv, Bool.or_self, Bool.false_and, Bool.false_eq_true, if_false, hr]
          rw [Nu.round, if_neg (by simp only []; omega)]
/-- A canonical float that is a number. -/
def Numb (x : Flt) : Prop := x.k = 1 ∨ (x.k = 0 ∧ x.e = 0 ∧ x.v = 0)
theorem Numb.sv {x : Flt} (h : Numb x) (z : Int) : Nu.sv z ⟨x.n, x.v, x.e⟩ = fv z x := by
  unfold fv
  rcases h with h | ⟨h1, h2, h3⟩
  · rw [if_pos h]
  · rw [if_neg (by omega), h3]; simp [Nu.sv]
theorem Numb.neg_sv {x : Flt} (h : Numb x) (z : Int) : Nu.sv z ⟨!x.n, x.v, x.e⟩ = -fv z x := by
  rw [← h.sv]; unfold Nu.sv; cases x.n <;> simp
theorem rcanon_numb {x : Flt} (h : rcanon x = x) (hk : x.k = 0 ∨ x.k = 1) : Numb x := by
  rcases hk with hk | hk
  · right
    unfold rcanon at h
    rw [if_neg (by omega)] at h
    exact ⟨hk, by rw [← h], by rw [← h]⟩
  · exact .inl hk
/-- What is left of two floats. -/
def leftP (f p : Int) (a b s : Flt) : Int := fv (tiny f p) a + fv (tiny f p) b - fv (tiny f p) s
theorem left_svs (f p : Int) (a b s : Flt) : svs (tiny f p) ([a, b] ++ [s].map Flt.neg) = leftP f p a b s := by
  rw [svs_fv]
  simp only [List.cons_append, List.nil_append, List.map_cons, List.map_nil, List.sum_cons, List.sum_nil, fv_neg, leftP]
  omega
theorem pair_left {f p : Int} (hf : fmOk f p = true) {a b : Flt} (ha : ∃ w k, OfF f p (tiny f p) (fv (tiny f p) a) w k) (hb : ∃ w k, OfF f p (tiny f p) (fv (tiny f p) b) w k) (hL : ∀ x ∈ [a, b], x.k = 1 → tiny f p ≤ x.e) (hk : ((gatherP [a, b]).float f p 0).1.k = 0 ∨ ((gatherP [a, b]).float f p 0).1.k = 1) : ∃ d k, OfF f p (tiny f p) (leftP f p a b ((gatherP [a, b]).float f p 0).1) d k := by
  obtain ⟨b1, b2, b3, b4⟩ := fmOk_spec hf
  obtain ⟨b5, b6⟩ := gOfE_le b1 b2
  obtain ⟨h1, h2, h3⟩ := float_number hf hL hk
  have hS : svs (tiny f p) [a, b] = fv (tiny f p) a + fv (tiny f p) b := by rw [svs_fv]; simp
  rw [hS] at h2 h3
  obtain ⟨wa, ka, oa⟩ := ha
  obtain ⟨wb, kb, ob⟩ := hb
  have htn : tiny f p = 1 - gOfE f - (p - 1) := rfl
  unfold leftP
  by_cases h0 : fv (tiny f p) a + fv (tiny f p) b = 0
  · obtain ⟨n, e⟩ := h2 h0
    rw [e, h0]
    exact ⟨0, tiny f p, Int.le_refl _, by rw [bl_zero]; omega, by rw [bl_zero]; omega, by simp [fv]⟩
  · have e := h3 h0
    rw [e] at hk ⊢
    obtain ⟨q, j, hn, hm, hv⟩ := round_step hf h0 (by omega)
    rw [hv]
    exact err_two b3 (Int.le_refl _) oa ob (by rw [sgn_of]) hn
theorem restP_round {f p z : Int} (hf : fmOk f p = true) (hz : z ≤ tiny f p) {D : Int} (h : ∃ d k, OfF f p z D d k) {y : Nu} (hy : z ≤ y.e) (hs : y.sv z = D) : y.round f p 0 false = (restP z D, 0) := by
  obtain ⟨d, k, h⟩ := h
  rw [← round_exact hf hz h]
  exact Nu.round_sv hy (Int.le_refl _) (by rw [sv_abs, hs]) f p 0 false
theorem restP_fine {f p z : Int} (hf : fmOk f p = true) (hz : z ≤ tiny f p) {D : Int} (h : ∃ d k, OfF f p z D d k) : Fine (restP z D) := by
  obtain ⟨d, k, h⟩ := h
  have e := round_exact (r := 0) hf hz h
  unfold Nu.round at e
  split at e
  · rw [← (Prod.mk.inj e).1]; exact fine_zero
  · have := @roundP_fine f p 0 hf (decide (D < 0)) D.natAbs z false
    rw [e] at this
    exact this
theorem restP_fix (z D : Int) : rcanon (restP z D) = restP z D := by
  unfold restP
  split
  · rfl
  · exact rcanon_idem _
theorem Fine.ok {x : Flt} (h : Fine x) (hn : Numb x) (n : Bool) : (⟨n, x.v, x.e⟩ : Nu).Ok := by
  have h1 := h.v
  rcases hn with hk | ⟨hk, h2, h3⟩
  · have := canon_one h.can hk
    exact ⟨by simp only []; omega, by simp only []; omega⟩
  · exact ⟨by simp only []; omega, by simp only []; omega⟩
end Go.Proofs.YtokgalpflooegaaGreatDoor
/- The law SumPairs. No condition. -/
namespace Go.Proofs.YtokgalpflooegaaGreatDoor
set_option linter.unusedVariables false
set_option linter.unusedSimpArgs false
set_option maxHeartbeats 4000000
set_option maxRecDepth 10000
theorem held_low {f p : Int} {x : Flt} (h : (holdsP f p x).2 = true) (hk : (holdsP f p x).1.k = 1) : tiny f p ≤ (holdsP f p x).1.e := by
  unfold holdsP at *
  split at h
  · rename_i hc
    rw [if_pos hc] at hk
    rcases hc with hc | hc
    · rw [h] at hc; cases hc
    · exact absurd hk hc
  · rename_i hc
    rw [if_neg hc]
    simp only [Bool.and_eq_true, decide_eq_true_eq] at h
    exact h.1.2
theorem float_low {f p : Int} (hf : fmOk f p = true) {L : List Flt} (hL : ∀ x ∈ L, x.k = 1 → tiny f p ≤ x.e) (hk : ((gatherP L).float f p 0).1.k = 1) : tiny f p ≤ ((gatherP L).float f p 0).1.e := by
  obtain ⟨_, h2, h3⟩ := float_number hf hL (.inr hk)
  by_cases h0 : svs (tiny f p) L = 0
  · obtain ⟨n, e⟩ := h2 h0
    rw [e] at hk; simp at hk
  · have e := h3 h0
    rw [e] at hk ⊢
    obtain ⟨q, j, hn, hm, hv⟩ := round_step hf h0 (by omega)
    rw [hm] at hk ⊢
    unfold mkP at hk ⊢
    split at hk
    · simp at hk
    · rename_i hq
      rw [if_neg hq]; simp only []; omega
section
variable {f p : Int} {x y : Fla}
end
theorem LIs_same {G : Gl} {x : Flt} (hx : Fine x) (h : rcanon x = x) : Does Tryz.prog G 38 [x.pv, x.pv] (.v (.c (.b true))) := by
  have hl : (nat x.v).length ≤ 1073741824 := by have := nat_len_bl x.v; have := hx.v; omega
  have := @LIs_does G x.k x.e x.n (nat x.v) x.k x.e x.n (nat x.v) hl (nat_ws _) hl (nat_ws _) (good_md hx.can)
  rw [val_nat, show (⟨x.k, x.n, x.e, x.v⟩ : Flt) = x from rfl, h, show isP x.k x.n x.e (nat x.v) x = true by simp [isP]] at this
  exact this
end Go.Proofs.YtokgalpflooegaaGreatDoor
/- Products of floats, plain. No condition. -/
namespace Go.Proofs.YtokgalpflooegaaGreatDoor
set_option linter.unusedVariables false
set_option linter.unusedSimpArgs false
set_option maxHeartbeats 4000000
set_option maxRecDepth 10000
/-- A product: is it nothing, its kind, its number. -/
def timesP (x y : Flt) : Bool × Int × Nu :=
  if x.k = 3 ∨ y.k = 3 then (false, 3, ⟨!x.n == y.n, 0, 0⟩)
  else if x.k = 2 ∨ y.k = 2 then (x.k == 0 || y.k == 0, 2, ⟨!x.n == y.n, 0, 0⟩)
  else if x.k = 1 ∧ y.k = 1 then (false, 1, ⟨!x.n == y.n, x.v * y.v, x.e + y.e⟩)
  else (false, 0, ⟨!x.n == y.n, 0, 0⟩)
def roundT (t : Bool × Int × Nu) (f p r : Int) : Flt × Int :=
  if t.1 then (⟨3, false, 0, 0⟩, 16) else if t.2.1 = 3 then (⟨3, false, 0, 0⟩, 0) else if t.2.1 ≠ 1 then (⟨t.2.1, t.2.2.n, 0, 0⟩, 0) else t.2.2.round f p r false
/-- The reference's product, and whether it is one. -/
def prodF (x y : Flt) : Flt × Bool :=
  if x.k = 3 ∨ y.k = 3 then (⟨3, false, 0, 0⟩, true)
  else if x.k = 2 ∧ y.k = 0 ∨ x.k = 0 ∧ y.k = 2 then (⟨0, false, 0, 0⟩, false)
  else if x.k = 2 ∨ y.k = 2 then (⟨2, !x.n == y.n, 0, 0⟩, true)
  else if x.k = 0 ∨ y.k = 0 then (⟨0, !x.n == y.n, 0, 0⟩, true)
  else (⟨1, !x.n == y.n, (rcanon x).e + (rcanon y).e, (rcanon x).v * (rcanon y).v⟩, true)
def roundedF (x : Flt) (f p r : Int) : Flt × Int := if x.k ≠ 1 then (rcanon x, 0) else roundP f p r x.n x.v x.e false
def mulR (f p r : Int) (x y : Flt) : Flt × Int := if (prodF x y).2 = false then (⟨3, false, 0, 0⟩, 16) else roundedF (prodF x y).1 f p r
def K4 (x : Flt) : Prop := x.k = 0 ∨ x.k = 1 ∨ x.k = 2 ∨ x.k = 3
/-- A float as it is held: canonical. -/
structure Cf (x : Flt) : Prop where
  k : K4 x
  fix : rcanon x = x
  pos : x.k = 1 → x.v ≠ 0
theorem Cf.of {x : Flt} (h : (canon x).2 = true) : Cf (rcanon x) := by
  refine ⟨?_, rcanon_idem x, fun hk => ?_⟩
  · have := (canon_kind h).1
    unfold K4
    rw [rcanon_k]; exact this
  · rw [rcanon_k] at hk
    have h1 := (canon_one h hk).2.2
    obtain ⟨m, hm⟩ := tz_form (show 0 < x.v by omega)
    have e1 : x.v / 2 ^ tz x.v = 2 * m + 1 := by
      conv => lhs; arg 1; rw [hm]
      exact Nat.mul_div_cancel_left _ (Nat.pow_pos (by decide))
    simp only [rcanon, hk, if_true]
    omega
theorem times_mul {x y : Flt} (hx : Cf x) (hy : Cf y) (f p r : Int) : roundT (timesP x y) f p r = mulR f p r x y := by
  have px := hx.pos
  have py := hy.pos
  unfold roundT mulR timesP prodF roundedF
  rw [hx.fix, hy.fix]
  rcases hx.k with h | h | h | h <;> rcases hy.k with g | g | g | g <;> simp [h, g, rcanon]
  rw [Nu.round, if_neg]
  simp only [Nat.mul_eq_zero, not_or]
  exact ⟨px h, py g⟩
theorem timesP_comm (x y : Flt) : timesP y x = timesP x y := by
  unfold timesP
  rw [show (!y.n == x.n) = (!x.n == y.n) by cases x.n <;> cases y.n <;> rfl, Nat.mul_comm, Int.add_comm y.e]
  simp only [or_comm (a := y.k = 3), or_comm (a := y.k = 2), and_comm (a := y.k = 1), Bool.or_comm (y.k == 0)]
/-- Terms that are put in, one after the other. -/
def dotStep (g : Ga) (t : Bool × Int × Nu) : Ga := ({ g with inv := g.inv || t.1 } : Ga).put t.2.1 t.2.2
def dotG (ts : List (Bool × Int × Nu)) : Ga := ts.foldl dotStep .zero
def tFlt (t : Bool × Int × Nu) : Flt := ⟨t.2.1, t.2.2.n, t.2.2.e, t.2.2.v⟩
theorem put_inv (g : Ga) (b : Bool) (k : Int) (x : Nu) : ({ g with inv := b } : Ga).put k x = { g.put k x with inv := b } := by
  unfold Ga.put
  split
  · rfl
  · split
    · rfl
    · split <;> rfl
theorem put_inv_same (g : Ga) (k : Int) (x : Nu) : (g.put k x).inv = g.inv := by
  unfold Ga.put
  split
  · rfl
  · split
    · rfl
    · split <;> rfl
theorem dotG_is (ts : List (Bool × Int × Nu)) : dotG ts = { gatherP (ts.map tFlt) with inv := ts.any (·.1) } := by
  suffices H : ∀ (ts : List (Bool × Int × Nu)) (g h : Ga) (b : Bool), g = { h with inv := b } → ts.foldl dotStep g = { (ts.map tFlt).foldl (fun g x => g.put x.k ⟨x.n, x.v, x.e⟩) h with inv := b || ts.any (·.1) } by
    have := H ts .zero .zero false rfl
    rw [Bool.false_or] at this
    exact this
  intro ts
  induction ts with
  | nil => intro g h b e; simp [e]
  | cons t ts ih =>
    intro g h b e
    simp only [List.foldl_cons, List.map_cons, List.any_cons]
    rw [ih (dotStep g t) (h.put t.2.1 t.2.2) (b || t.1) (by rw [e]; exact put_inv h _ _ _), Bool.or_assoc]
    rfl
theorem dotG_take {ts : List (Bool × Int × Nu)} {i : Nat} {t : Bool × Int × Nu} (h : ts[i]? = some t) : dotG (ts.take (i + 1)) = dotStep (dotG (ts.take i)) t := by
  unfold dotG
  rw [List.take_add_one, h]; simp
/-- Sums of alike terms are alike. -/
theorem float_like {z : Int} {l m : List Flt} {g g' : Ga} (h : GaIs z l g) (h' : GaIs z m g') (hs : svs z l = svs z m) (hm : ∀ q : Int → Bool → Bool, (l.any fun x => q x.k x.n) = m.any fun x => q x.k x.n) (f p r : Int) : g.float f p r = g'.float f p r := by
  have e1 := hm fun k _ => k == 3
  have e2 := hm fun k n => k == 2 && !n
  have e3 := hm fun k n => k == 2 && n
  have e4 := hm fun _ _ => true
  have e5 := hm fun k n => k == 1 || (k != 2 && k != 3 && !n)
  have e6 := hm fun k n => k == 1 || (k != 2 && k != 3 && n)
  unfold Ga.float
  rw [h.nan, h'.nan, h.inv, h'.inv, h.plus, h'.plus, h.minus, h'.minus, h.seen, h'.seen, h.some_, h'.some_, h.other, h'.other]
  rw [e1, e2, e3, e4, e5, e6, Nu.round_sv h.low h'.low (by rw [h.sum, h'.sum, hs])]
/-- The sum of products and a float. -/
def dotP (f p r : Int) (ts : List (Bool × Int × Nu)) (z : Flt) : Flt × Int := ((dotG ts).put z.k ⟨z.n, z.v, z.e⟩).float f p r
theorem dotP_is (f p r : Int) (ts : List (Bool × Int × Nu)) (z : Flt) : dotP f p r ts z = if ((ts.map tFlt ++ [z]).any fun x => x.k == 3) = false ∧ (ts.any (·.1)) = true then (⟨3, false, 0, 0⟩, 16) else (gatherP (ts.map tFlt ++ [z])).float f p r := by
  have e : gatherP (ts.map tFlt ++ [z]) = (gatherP (ts.map tFlt)).put z.k ⟨z.n, z.v, z.e⟩ := by
    unfold gatherP
    rw [List.foldl_append]; rfl
  have hn : ∀ l : List Flt, (gatherP l).nan = (l.any fun x => x.k == 3) ∧ (gatherP l).inv = false := fun l => by
    suffices H : ∀ i, (gatherP (l.take i)).nan = ((l.take i).any fun x => x.k == 3) ∧ (gatherP (l.take i)).inv = false by have := H l.length; rwa [List.take_length] at this
    intro i
    induction i with
    | zero => exact ⟨rfl, rfl⟩
    | succ i ih =>
      cases hx : l[i]? with
      | none =>
        have hl : l.length ≤ i := List.getElem?_eq_none_iff.1 hx
        rw [List.take_of_length_le (by omega)] at ih ⊢
        exact ih
      | some x =>
        rw [gatherP_take hx, List.take_add_one, hx, put_inv_same]
        refine ⟨?_, ih.2⟩
        rw [List.any_append, ← ih.1]
        unfold Ga.put
        by_cases h3 : x.k = 3
        · simp [h3]
        · rw [if_neg h3]
          have : (x.k == 3) = false := by simp [h3]
          split
          · simp [this]
          · split <;> simp [this]
  unfold dotP
  rw [dotG_is, put_inv, ← e]
  have h1 := hn (ts.map tFlt ++ [z])
  generalize gatherP (ts.map tFlt ++ [z]) = g at *
  unfold Ga.float
  simp only [h1.2, Bool.false_or]
  rw [h1.1]
  cases ((ts.map tFlt ++ [z]).any fun x => x.k == 3) with
  | true => simp
  | false =>
    cases ts.any (·.1) with
    | true => simp
    | false => simp
end Go.Proofs.YtokgalpflooegaaGreatDoor
/- Sums of products of floats, plain. No condition. -/
namespace Go.Proofs.YtokgalpflooegaaGreatDoor
set_option linter.unusedVariables false
set_option linter.unusedSimpArgs false
set_option maxHeartbeats 4000000
set_option maxRecDepth 10000
theorem sv_rcan {x : Flt} (hk : x.k = 1) {z : Int} (hz : z ≤ x.e) : Nu.sv z ⟨(rcanon x).n, (rcanon x).v, (rcanon x).e⟩ = Nu.sv z ⟨x.n, x.v, x.e⟩ := by
  have e2 : rcanon x = ⟨1, x.n, x.e + tz x.v, x.v / 2 ^ tz x.v⟩ := by simp [rcanon, hk]
  rw [e2]
  have hv : x.v / 2 ^ tz x.v * 2 ^ (x.e + tz x.v - z).toNat = x.v * 2 ^ (x.e - z).toNat := by
    by_cases h0 : x.v = 0
    · rw [h0]; simp
    · obtain ⟨m, hm⟩ := tz_form (show 0 < x.v by omega)
      have e1 : x.v / 2 ^ tz x.v = 2 * m + 1 := by
        conv => lhs; arg 1; rw [hm]
        exact Nat.mul_div_cancel_left _ (Nat.pow_pos (by decide))
      rw [e1, show (x.e + tz x.v - z).toNat = tz x.v + (x.e - z).toNat by omega, Nat.pow_add, ← Nat.mul_assoc]
      congr 1
      conv => rhs; rw [hm]
      exact Nat.mul_comm _ _
  unfold Nu.sv
  simp only [hv]
theorem fv_rcan {x : Flt} {z : Int} (hz : x.k = 1 → z ≤ x.e) : fv z (rcanon x) = fv z x := by
  unfold fv
  rw [rcanon_k]
  split
  · rename_i h; exact sv_rcan h (hz h)
  · rfl
/-- Pairs of canonical floats. -/
def Cfs (l : List (Flt × Flt)) : Prop := ∀ q ∈ l, Cf q.1 ∧ Cf q.2
def tsOf (l : List (Flt × Flt)) : List (Bool × Int × Nu) := l.map fun q => timesP q.1 q.2
def psOf (l : List (Flt × Flt)) : List (Flt × Bool) := l.map fun q => prodF q.1 q.2
theorem pair_nan {x y : Flt} (hx : Cf x) (hy : Cf y) : ((timesP x y).2.1 = 3) = ((prodF x y).1.k = 3) := by
  unfold timesP prodF
  rcases hx.k with h | h | h | h <;> rcases hy.k with g | g | g | g <;> simp [h, g]
theorem pair_ok {x y : Flt} (hx : Cf x) (hy : Cf y) : (prodF x y).2 = !(timesP x y).1 := by
  unfold timesP prodF
  rcases hx.k with h | h | h | h <;> rcases hy.k with g | g | g | g <;> simp [h, g]
theorem pair_like {x y : Flt} (hx : Cf x) (hy : Cf y) (h3 : (timesP x y).2.1 ≠ 3) (h1 : (timesP x y).1 = false) : (prodF x y).1.k = (timesP x y).2.1 ∧ (prodF x y).1.n = (timesP x y).2.2.n ∧ ((prodF x y).1.k = 1 → (prodF x y).1.v = (timesP x y).2.2.v ∧ (prodF x y).1.e = (timesP x y).2.2.e) := by
  unfold timesP prodF at *
  rw [hx.fix, hy.fix]
  rcases hx.k with h | h | h | h <;> rcases hy.k with g | g | g | g <;> simp [h, g] at h3 h1 ⊢
/-- The reference's sum of products. -/
def dotR (f p r : Int) (l : List (Flt × Flt)) (z : Flt) : Flt × Int :=
  if (z.k = 3 ∨ ((psOf l).any fun q => q.1.k == 3) = true) then (⟨3, false, 0, 0⟩, 0)
  else if ((psOf l).any fun q => !q.2) = true then (⟨3, false, 0, 0⟩, 16)
  else (gatherP (rcanon z :: (psOf l).map fun q => rcanon q.1)).float f p r
theorem dot_same {f p r : Int} {l : List (Flt × Flt)} {z : Flt} (hl : Cfs l) (hz : Cf z) {w : Int} (hw : w ≤ 0) (h1 : ∀ q ∈ l, q.1.k = 1 → q.2.k = 1 → w ≤ q.1.e + q.2.e) (h2 : z.k = 1 → w ≤ z.e) : dotP f p r (tsOf l) z = dotR f p r l z := by
  rw [dotP_is]
  unfold dotR
  have e3 : ((tsOf l).map tFlt ++ [z]).any (fun x => x.k == 3) = (decide (z.k = 3) || (psOf l).any fun q => q.1.k == 3) := by
    rw [List.any_append, Bool.or_comm]
    congr 1
    · rw [Bool.eq_iff_iff]; simp
    · unfold tsOf psOf
      rw [List.map_map, List.any_map, List.any_map, Bool.eq_iff_iff, List.any_eq_true, List.any_eq_true]
      constructor
      · rintro ⟨q, hq, h⟩
        refine ⟨q, hq, ?_⟩
        simp only [Function.comp, tFlt, beq_iff_eq] at h ⊢
        rw [← pair_nan (hl q hq).1 (hl q hq).2]; exact h
      · rintro ⟨q, hq, h⟩
        refine ⟨q, hq, ?_⟩
        simp only [Function.comp, tFlt, beq_iff_eq] at h ⊢
        rw [pair_nan (hl q hq).1 (hl q hq).2]; exact h
  have e1 : (tsOf l).any (·.1) = (psOf l).any fun q => !q.2 := by
    unfold tsOf psOf
    rw [List.any_map, List.any_map, Bool.eq_iff_iff, List.any_eq_true, List.any_eq_true]
    constructor
    · rintro ⟨q, hq, h⟩
      refine ⟨q, hq, ?_⟩
      simp only [Function.comp] at h ⊢
      rw [pair_ok (hl q hq).1 (hl q hq).2, h]; rfl
    · rintro ⟨q, hq, h⟩
      refine ⟨q, hq, ?_⟩
      simp only [Function.comp] at h ⊢
      rw [pair_ok (hl q hq).1 (hl q hq).2] at h
      simpa using h
  have hel : ∀ q ∈ l, (timesP q.1 q.2).2.1 = 1 → q.1.k = 1 ∧ q.2.k = 1 ∧ (timesP q.1 q.2).2.2.e = q.1.e + q.2.e := by
    intro q hq h
    unfold timesP at h ⊢
    rcases (hl q hq).1.k with h' | h' | h' | h' <;> rcases (hl q hq).2.k with g | g | g | g <;> simp [h', g] at h ⊢
  have hlow : ∀ x ∈ (tsOf l).map tFlt ++ [z], x.k = 1 → w ≤ x.e := by
    intro x hx hk
    rcases List.mem_append.1 hx with hx | hx
    · obtain ⟨t, ht, rfl⟩ := List.mem_map.1 hx
      obtain ⟨q, hq, rfl⟩ := List.mem_map.1 ht
      obtain ⟨k1, k2, k3⟩ := hel q hq hk
      show w ≤ (timesP q.1 q.2).2.2.e
      rw [k3]; exact h1 q hq k1 k2
    · rw [List.mem_singleton.1 hx] at hk ⊢; exact h2 hk
  have hG := gather_is hw hlow
  rw [e3]
  by_cases c3 : z.k = 3 ∨ ((psOf l).any fun q => q.1.k == 3) = true
  · have hb : (decide (z.k = 3) || (psOf l).any fun q => q.1.k == 3) = true := by
      rcases c3 with h | h <;> simp [h]
    rw [if_pos c3, hb, if_neg (by simp)]
    unfold Ga.float
    rw [hG.nan, e3, hb]; rfl
  · have hb : (decide (z.k = 3) || (psOf l).any fun q => q.1.k == 3) = false := by
      simp only [not_or, Bool.not_eq_true] at c3
      simp [c3.1, c3.2]
    rw [if_neg c3, hb, e1]
    by_cases c1 : ((psOf l).any fun q => !q.2) = true
    · rw [if_pos ⟨rfl, c1⟩, if_pos c1]
    · rw [if_neg (fun h => c1 h.2), if_neg c1]
      have hall : ∀ q ∈ l, (timesP q.1 q.2).2.1 ≠ 3 ∧ (timesP q.1 q.2).1 = false := by
        intro q hq
        constructor
        · intro h
          rw [pair_nan (hl q hq).1 (hl q hq).2] at h
          apply c3
          right
          unfold psOf
          rw [List.any_map, List.any_eq_true]
          exact ⟨q, hq, by simp [h]⟩
        · apply Classical.byContradiction
          intro h
          apply c1
          unfold psOf
          rw [List.any_map, List.any_eq_true]
          refine ⟨q, hq, ?_⟩
          simp only [Function.comp]
          rw [pair_ok (hl q hq).1 (hl q hq).2]
          simpa using h
      have hlike := fun q hq => pair_like (hl q hq).1 (hl q hq).2 (hall q hq).1 (hall q hq).2
      have hG' := gather_is hw (l := rcanon z :: (psOf l).map fun q => rcanon q.1) (by
        intro x hx hk
        rcases List.mem_cons.1 hx with rfl | hx
        · rw [hz.fix] at hk ⊢; exact h2 hk
        · unfold psOf at hx
          rw [List.map_map] at hx
          obtain ⟨q, hq, rfl⟩ := List.mem_map.1 hx
          simp only [Function.comp] at hk ⊢
          rw [rcanon_k] at hk
          obtain ⟨k1, k2, k3⟩ := hlike q hq
          obtain ⟨k4, k5⟩ := k3 hk
          obtain ⟨k6, k7, k8⟩ := hel q hq (by rw [← k1]; exact hk)
          have : (prodF q.1 q.2).1.e ≤ (rcanon (prodF q.1 q.2).1).e := by simp only [rcanon, hk, if_true]; omega
          have := h1 q hq k6 k7
          omega)
      refine float_like hG hG' ?_ (fun q => ?_) f p r
      · rw [svs_append]
        have e2 : svs w (rcanon z :: (psOf l).map fun q => rcanon q.1) = fv w z + svs w ((psOf l).map fun q => rcanon q.1) := by
          rw [hz.fix]; rfl
        rw [e2, show svs w [z] = fv w z + 0 from rfl, Int.add_comm]
        have : svs w ((tsOf l).map tFlt) = svs w ((psOf l).map fun q => rcanon q.1) := by
          rw [svs_fv, svs_fv]
          congr 1
          unfold tsOf psOf
          rw [List.map_map, List.map_map, List.map_map, List.map_map]
          apply List.map_congr_left
          intro q hq
          simp only [Function.comp]
          obtain ⟨k1, k2, k3⟩ := hlike q hq
          rw [fv_rcan (fun hk => by
            obtain ⟨k4, k5⟩ := k3 hk
            obtain ⟨k6, k7, k8⟩ := hel q hq (by rw [← k1]; exact hk)
            rw [k5, k8]; exact h1 q hq k6 k7)]
          unfold fv tFlt
          simp only []
          rw [← k1]
          split
          · rename_i hk
            obtain ⟨k4, k5⟩ := k3 hk
            rw [k2, k4, k5]
          · rfl
        omega
      · rw [List.any_append, List.any_cons, Bool.or_comm]
        congr 1
        · rw [hz.fix]; simp
        · unfold tsOf psOf
          rw [List.map_map, List.map_map, List.any_map, List.any_map, Bool.eq_iff_iff, List.any_eq_true, List.any_eq_true]
          constructor
          · rintro ⟨a, ha, h⟩
            refine ⟨a, ha, ?_⟩
            obtain ⟨k1, k2, _⟩ := hlike a ha
            simp only [Function.comp, tFlt] at h ⊢
            rw [rcanon_k, rcanon_n, k1, k2]; exact h
          · rintro ⟨a, ha, h⟩
            refine ⟨a, ha, ?_⟩
            obtain ⟨k1, k2, _⟩ := hlike a ha
            simp only [Function.comp, tFlt] at h ⊢
            rw [rcanon_k, rcanon_n, k1, k2] at h; exact h
end Go.Proofs.YtokgalpflooegaaGreatDoor
/- A rounding without flags: the number is one of the format. No condition. -/
namespace Go.Proofs.YtokgalpflooegaaGreatDoor
set_option linter.unusedVariables false
set_option linter.unusedSimpArgs false
set_option maxHeartbeats 4000000
set_option maxRecDepth 10000
theorem round_rcanon2 {f p r : Int} {n : Bool} {v : Nat} {e : Int} (hv : 0 < v) : roundP f p r n (rcanon ⟨1, n, e, v⟩).v (rcanon ⟨1, n, e, v⟩).e false = roundP f p r n v e false := by
  obtain ⟨m, hm⟩ := tz_form hv
  have e1 : v / 2 ^ tz v = 2 * m + 1 := by
    conv => lhs; arg 1; rw [hm]
    exact Nat.mul_div_cancel_left _ (Nat.pow_pos (by decide))
  have e2 : rcanon ⟨1, n, e, v⟩ = ⟨1, n, e + tz v, v / 2 ^ tz v⟩ := by simp [rcanon]
  rw [e2]
  simp only []
  have h := @roundP_scale f p r n (v / 2 ^ tz v) (tz v) (e + tz v) (by omega)
  rw [← h, show e + (tz v : Int) - (tz v : Nat) = e by omega]
  congr 1
  rw [e1, Nat.mul_comm]
  exact hm.symm
theorem cutP_exact {V : Nat} {s : Int} (h : (cutP V s false).2 = 0) : ∃ a b : Nat, V * 2 ^ a = (cutP V s false).1 * 2 ^ b ∧ (b : Int) - a = s := by
  unfold cutP at h ⊢
  by_cases hs : s ≤ 0
  · rw [if_pos hs]
    exact ⟨(-s).toNat, 0, by simp, by omega⟩
  · rw [if_neg hs] at h ⊢
    simp only [Bool.false_or] at h ⊢
    refine ⟨0, s.toNat, ?_, by omega⟩
    obtain ⟨k, hk⟩ : ∃ k : Nat, s = k + 1 := ⟨(s - 1).toNat, by omega⟩
    have e1 : (s - 1).toNat = k := by omega
    have e2 : s.toNat = k + 1 := by omega
    rw [e1] at h
    rw [e2]
    have h1 : V / 2 ^ k % 2 ≠ 1 := by
      intro h1
      rw [if_pos h1] at h
      split at h <;> simp at h
    rw [if_neg h1] at h
    have h2 : V % 2 ^ k = 0 := by
      apply Classical.byContradiction
      intro h2
      simp [h2] at h
    have h3 := Nat.div_add_mod V (2 ^ k)
    have h4 := Nat.div_add_mod (V / 2 ^ k) 2
    rw [Nat.div_div_eq_div_mul, ← Nat.pow_succ] at h4
    rw [h2] at h3
    have h5 : V / 2 ^ k % 2 = 0 := by omega
    rw [h5] at h4
    simp only [Nat.pow_zero, Nat.mul_one, Nat.add_zero] at h3 h4 ⊢
    conv => lhs; rw [← h3, ← h4]
    rw [← Nat.mul_assoc, ← Nat.pow_succ, Nat.mul_comm]
theorem roundP_flags {f p r : Int} (hf : fmOk f p = true) {n : Bool} {V : Nat} {z : Int} (hV : 0 < V) (h : (roundP f p r n V z false).2 = 0) : inP f p ⟨1, n, z, V⟩ = true ∧ (roundP f p r n V z false).1 = rcanon ⟨1, n, z, V⟩ := by
  obtain ⟨b1, b2, b3, b4⟩ := fmOk_spec hf
  obtain ⟨b5, b6⟩ := gOfE_le b1 b2
  have hp := bl_pos hV
  have hu : 1 - gOfE f - (p - 1) ≤ stepP f p (z + bl V - 1) ∧ z + bl V - stepP f p (z + bl V - 1) ≤ p := by unfold stepP; split <;> omega
  unfold roundP at h ⊢
  simp only [] at h ⊢
  generalize stepP f p (z + bl V - 1) = u at *
  split at h
  · simp at h
  · rename_i hno
    rw [if_neg hno]
    have hc : (cutP V (u - z) false).2 = 0 := by
      apply Classical.byContradiction
      intro hn
      simp only [] at h
      rw [if_neg hn] at h
      split at h <;> simp at h
    obtain ⟨a, b, h1, h2⟩ := cutP_exact hc
    rw [hc, upP_none] at hno ⊢
    simp only []
    generalize (cutP V (u - z) false).1 = q at *
    have hq : 0 < q := by
      rcases Nat.eq_zero_or_pos q with h0 | h0
      · exfalso
        rw [h0, Nat.zero_mul] at h1
        have := Nat.mul_pos hV (Nat.pow_pos (n := a) (show 0 < 2 by decide))
        omega
      · exact h0
    have hb : a + bl V = b + bl q := by rw [← bl_mul_pow V a hV, ← bl_mul_pow q b hq, h1]
    have he : rcanon ⟨1, n, u, q⟩ = rcanon ⟨1, n, z, V⟩ := by
      rw [← rcanon_scale n hV z a, ← rcanon_scale n hq u b, h1, show u - (b : Int) = z - a by omega]
    refine ⟨?_, by rw [mkP_rcanon (by omega), he]⟩
    have hin : inP f p ⟨1, n, z, V⟩ = inP f p ⟨1, n, u, q⟩ := by
      unfold inP
      simp only [if_true]
      rw [he]
    rw [hin]
    have e2 : rcanon ⟨1, n, u, q⟩ = ⟨1, n, u + tz q, q / 2 ^ tz q⟩ := by simp [rcanon]
    unfold inP
    simp only [if_true]
    rw [e2]
    simp only [bl_div]
    have := tz_lt_bl hq
    simp only [Bool.and_eq_true, decide_eq_true_eq]
    omega
/-- Is what is left of the format, by the reference? -/
theorem inP_flags {f p : Int} (hf : fmOk f p = true) {z D : Int} {y : Nu} (hy : z ≤ y.e) (hs : y.sv z = D) : (inP f p (restP z D) = true → y.round f p 0 false = (restP z D, 0)) ∧ ((y.round f p 0 false).2 = 0 → inP f p (restP z D) = true) := by
  obtain ⟨b1, b2, b3, b4⟩ := fmOk_spec hf
  have hr := Nu.round_sv hy (b := ⟨decide (D < 0), D.natAbs, z⟩) (Int.le_refl _) (by rw [sv_abs, hs]) f p 0 false
  rw [hr]
  unfold Nu.round restP
  simp only []
  by_cases hD : D = 0
  · rw [if_pos (show D.natAbs = 0 by omega), if_pos hD]
    exact ⟨fun _ => rfl, fun _ => by simp [inP]⟩
  · rw [if_neg (show ¬ D.natAbs = 0 by omega), if_neg hD]
    have hV : 0 < D.natAbs := by omega
    have e2 : rcanon ⟨1, decide (D < 0), z, D.natAbs⟩ = ⟨1, decide (D < 0), z + tz D.natAbs, D.natAbs / 2 ^ tz D.natAbs⟩ := by simp [rcanon]
    refine ⟨fun h => ?_, fun h => ?_⟩
    · have h1 := @round_rcanon2 f p 0 (decide (D < 0)) D.natAbs z hV
      unfold inP at h
      rw [rcanon_idem, e2] at h
      rw [e2] at h1 ⊢
      simp only [if_true, Bool.and_eq_true, decide_eq_true_eq] at h
      have hpos : 0 < D.natAbs / 2 ^ tz D.natAbs := Nat.div_pos ((bl_le _ _).1 (tz_lt_bl hV)) (Nat.pow_pos (by decide))
      rw [← h1]
      simp only []
      rw [roundP_exact hf hpos h.1.2 h.1.1 (by omega)]
      congr 1
      rw [← e2]
      have := rcanon_idem ⟨1, decide (D < 0), z, D.natAbs⟩
      rw [e2] at this ⊢
      exact this
    · have h1 := (roundP_flags hf hV h).1
      unfold inP at h1 ⊢
      rw [rcanon_idem, rcanon_k]
      exact h1
end Go.Proofs.YtokgalpflooegaaGreatDoor
/- A part of a row of the call's own, given to a call; functions whose result is a row of words of the caller's. No condition. -/
namespace Go.Proofs.YtokgalpflooegaaGreatDoor
set_option linter.unusedVariables false
set_option linter.unusedSimpArgs false
section
variable {P : Program} {G : Gl} {nt : Nat} {st : St} {cx : Cx} {a : Act} {W W' : World} {m : Nat → Option Nat} {QE : Exit → St → Prop} {ops l : List Oper} {Q : St → Prop}
/-- A part of a row of words that this call writes, read by the call that follows. -/
theorem DoL.part {o1 o2 o3 : Oper} {t e : TypeId} {b1 z1 : Nat} {c1 : List Ce} {te : TI} {x lo hi y : Operand} {j n d1 d2 : Nat} {w : List Nat} {l0 h0 : Int} {yv : PV} {f : FuncId} {xf : Operand} {ts : Array TypeId} {ret : TV} (md : Bool) (lab : Nat)
    (hg1 : o1.guard = none) (hop1 : o1.op = .slice t x (some lo) (some hi) none) (hd1 : o1.dst = some d1) (hn1 : d1 < nt)
    (hg2 : o2.guard = none) (hop2 : o2.op = .move y) (hd2 : o2.dst = some d2) (hn2 : d2 < nt) (hne : d2 ≠ d1)
    (hg3 : o3.guard = none) (hop3 : o3.op = .call { callee := .value xf, args := #[.tmp d1, .tmp d2], argTypes := ts }) (hd3 : dstOk nt o3.dst = true)
    (ht : tiOf P t = some ⟨b1, z1, c1, .slice e⟩) (he : tiOf P e = some te) (hsz : te.size = 1)
    (hx : opv st.tm x = some (.v (.c (.r j n)))) (hj : lk j st.ob = some (.wr w)) (hlo : opv st.tm lo = some (.v (.c (.i .i64 l0)))) (hhi : opv st.tm hi = some (.v (.c (.i .i64 h0))))
    (hy : opv (del d1 st.tm) y = some (.v yv)) (hxf : opv (put d2 (.v yv) (del d1 st.tm)) xf = some (.v (.c (.f f))))
    (hp : w.length = n ∧ 0 ≤ l0 ∧ l0 ≤ h0 ∧ h0 ≤ w.length) (hD : Does P G f [.c (.w false ((w.drop l0.toNat).take (h0.toNat - l0.toNat))), yv.ext] ret) (hl : ret.labs = []) (hf : ret.fr = true)
    (next : runs P G nt md ops Q lab l ⟨setv o3.dst (some ret) (put d2 (.v yv) (del d1 st.tm)), st.ob⟩) : DoL P G nt ops (o1 :: o2 :: o3 :: l) st Q := by
  intro cx a W hn ⟨m, hr⟩ Q' hQ
  subst hn
  have hw : RP (enA W (okC cx m st W true)) (.c (.w false w)) (a.eval x) := row_words hr hj hp.1 (hr.opv hx) rfl false fun b hb => ⟨.inr ⟨rfl, j, _, hj, hb⟩, fun e => (by cases e)⟩
  have vlo : a.eval lo = .int .i64 l0 := hr.opv hlo
  have vhi : a.eval hi = .int .i64 h0 := hr.opv hhi
  obtain ⟨_, yy, u, e1, e2, e3⟩ := sliceM_run (P := P) (W := W) (tiOf_slice ht) he (x := .v (.c (.w false w))) hw (n := w.length) (lo := l0) (hi := h0) (mx := none) (vlo := some (a.eval lo)) (vhi := some (a.eval hi)) (vmx := none) rfl (.inr (by rw [vlo])) (.inl ⟨rfl, rfl, .inr (by rw [vhi])⟩) (out := ⟨0 ≤ l0 ∧ l0 ≤ h0 ∧ h0 ≤ w.length ∧ (∀ x : Int, none = some x → h0 ≤ x ∧ x ≤ w.length), some (.v (.c (.w false ((w.drop l0.toNat).take (h0.toNat - l0.toNat))))), .none⟩) (by simp only [sliceM]; rw [if_pos hsz]) ⟨hp.2.1, hp.2.2.1, hp.2.2.2, fun x hx => by cases hx⟩
  injection e1 with e1; subst e1
  -- the part
  refine wpList_plain hg1 fun K1 hK1 => ?_
  unfold Oper.wp
  have x1 : (execOp a.eval o1).run P W = .ok (.value u) W := by
    have : execOp a.eval o1 = (do pure (.value (← Instr.sliceAt t (a.eval x) (some (a.eval lo)) (some (a.eval hi)) none))) := by
      unfold execOp; simp [hop1]
    rw [this]; simp [e2]
  rw [x1]
  refine hK1 _ _ ?_
  rw [hd1]
  have h1 := hr.forget d1 u
  generalize ha1 : a.put (some d1) u = a1 at *
  have hu1 : a1.tmps[d1]? = some u := by rw [← ha1]; simp [Act.put, hr.nt, hn1]
  -- the other argument
  refine wpList_plain hg2 fun K2 hK2 => ?_
  unfold Oper.wp
  have hyv : RT (en cx m st.ob W) (.v yv) (a1.eval y) := h1.opv hy
  have x2 : (execOp a1.eval o2).run P W = .ok (.value (a1.eval y)) W := by unfold execOp; simp [hop2]
  rw [x2]
  refine hK2 _ _ ?_
  rw [hd2]
  have h2 := h1.slot hn2 hyv
  generalize ha2 : a1.put (some d2) (a1.eval y) = a2 at *
  have hu2 : a2.tmps[d1]? = some u := by rw [← ha2]; simp [Act.put, Array.getElem?_setIfInBounds_ne hne, hu1]
  have hv2 : a2.tmps[d2]? = some (a1.eval y) := by rw [← ha2]; simp [Act.put, h1.nt, hn2]
  -- the call
  refine wpList_plain hg3 fun K hK => ?_
  unfold Oper.wp
  have hxv : a2.eval xf = .func (.func f) #[] #[] := h2.opv hxf
  have hexec : execOp a2.eval o3 = callFunc f [u, a1.eval y].toArray := by
    have q1 : a2.eval (.tmp d1) = u := by simp [Act.eval, hu2]
    have q2 : a2.eval (.tmp d2) = a1.eval y := by simp [Act.eval, hv2]
    unfold execOp
    simp [hop3, resolve, hxv, Deferred.ofValue, invoke, q1, q2]
  have hok : ∀ b, okC cx m st W true b → b < W.heap.size := by
    rintro b (h | ⟨_, j, o, g1, g2⟩)
    · exact h.2.1
    · exact (hr.own j o b g1 g2).1
  have hargs : All2 (RP (enA W (okC cx m st W true))) [.c (.w false ((w.drop l0.toNat).take (h0.toNat - l0.toNat))), yv.ext] [u, a1.eval y] :=
    .cons e3 (.cons (PLe.ext _ _ _ (RP.mono (okC_le cx m st W true) (fun _ _ => trivial) hyv)) .nil)
  rcases hD W (okC cx m st W true) _ hok h2.glOk hargs with ⟨g1, g2⟩ | ⟨v, g1, g2⟩
  · rw [hexec, g1]
    refine g2.mono fun en' W' ⟨v, he, hb, hrt⟩ => ?_
    subst he
    exact hK _ _ (DoL.run next cx _ _ rfl (Rel.put (h2.below hb) rfl hd3 (call_res (pur := true) (st := ⟨put d2 (.v yv) (del d1 st.tm), st.ob⟩) h2 hb hl (.inr hf) hrt)) Q' hQ)
  · rw [hexec, g1]
    have hb := RowKit.Below.refl W.heap.size W
    exact hK _ _ (DoL.run next cx _ _ rfl (Rel.put h2 rfl hd3 (call_res (pur := true) (st := ⟨put d2 (.v yv) (del d1 st.tm), st.ob⟩) h2 hb hl (.inr hf) g2)) Q' hQ)
/-- What a call computes whose one result is a row of words that its caller alone holds. -/
def DoesW (P : Program) (G : Gl) (f : FuncId) (args : List PV) (w : List Nat) : Prop :=
  ∀ (W : World) (ok : Nat → Prop) (vals : List Value), (∀ b, ok b → b < W.heap.size) → GlOk G W → All2 (RP (enA W ok)) args vals →
    (callFunc f vals.toArray).run P W = .ok (.enter f vals.toArray) W ∧ Calls P f vals.toArray W (fun e W' => ∃ sv bo, e = .returned sv ∧ RowKit.Below W.heap.size W W' ∧ (∀ b, bo = some b → W.heap.size ≤ b ∧ b < W'.heap.size) ∧
      RC (enO W W' ok bo (.wr w)) (.r 0 w.length) sv ∧ RO (enO W W' ok bo (.wr w)) 0 (.wr w))
def endRow (w : List Nat) (rs : List ResultVar) (e : Exit) (s : St) : Prop :=
  (e = .ret ∨ e = .normal) ∧ match rs with
    | [.tmp t] => (match lk t s.tm with
      | some (.v (.c (.r j n))) => n = w.length ∧ lk j s.ob = some (.wr w)
      | _ => False)
    | _ => False
theorem DoesW.of {f : FuncId} {fn : Func} {c : Code} {args : List PV} {w : List Nat} (hf : P.funcs[f]? = some fn) (hname : (fn.name == "runtime.NumGoroutine") = false) (hb : fn.body = some c) (hnt : fn.ntmps = nt) (hal : args.length ≤ nt)
    (h : Do P G nt c ⟨argTm 0 args, []⟩ (endRow w fn.results.toList)) : DoesW P G f args w := by
  intro W ok vals hok hgl hargs
  refine ⟨?_, ?_⟩
  · have hn' : fn.name ≠ "runtime.NumGoroutine" := by simpa using hname
    simp [callFunc, hf, hn', hb]
  · refine calls_of_wp hf hb ?_
    refine Code.wp_mono (fun e a' W' ⟨s, hq, m', hs⟩ => ?_) (h _ _ W rfl ⟨_, start_rel hok hgl hargs hal hnt⟩)
    obtain ⟨he, hret⟩ := hq
    split at hret
    case h_2 => exact hret.elim
    rename_i t hrs
    split at hret
    case h_2 => exact hret.elim
    rename_i j n ht
    obtain ⟨rfl, hj⟩ := hret
    obtain ⟨sv, hv, hrt⟩ := hs.tm t _ ht
    have hg : a'.tmps.getD t undef = sv := by simp [hv]
    have hres : (results fn a'.tmps).run P W' = .ok sv W' := by
      have hfun : results fn a'.tmps = (do let vs ← fn.results.mapM (resOf a'.tmps); pure (if h : vs.size = 1 then vs[0] else .tuple vs)) := by
        unfold results
        congr 1
      rw [hfun]
      have h1 : (resOf a'.tmps (.tmp t)).run P W' = .ok sv W' := by simp [resOf, hg]
      simp only [Sem.run_bind, Array.mapM_eq_mapM_toList, Sem.run_map, hrs, List.mapM_cons, List.mapM_nil, h1, Result.andThen_ok, Sem.run_pure]
      simp
    have hbelow : RowKit.Below W.heap.size W W' := ⟨hs.os, hs.tape, hs.output, hs.size, fun k hk => hs.keep k hk id⟩
    have hown : ∀ b, m' j = some b → W.heap.size ≤ b ∧ b < W'.heap.size := fun b hb => by
      obtain ⟨q1, q2⟩ := hs.own j _ b hj hb
      exact ⟨q2.elim id fun e => e.1.elim, q1⟩
    have hO : ∃ bo, (∀ b, bo = some b → W.heap.size ≤ b ∧ b < W'.heap.size) ∧ RC (enO W W' ok bo (.wr w)) (.r 0 w.length) sv ∧ RO (enO W W' ok bo (.wr w)) 0 (.wr w) := by
      refine ⟨m' j, hown, ⟨hrt.1, fun o' ho' hle' => ?_⟩, ?_⟩
      · obtain rfl : Ob.wr w = o' := by simpa [enO] using ho'
        obtain ⟨_, k2⟩ := hrt.2 _ hj (Nat.le_refl _)
        exact ⟨rfl, k2⟩
      · rcases hs.ob j _ hj with ⟨y1, y2⟩ | ⟨b', vs, e2, r1, r2, r3⟩
        · exact .inl ⟨y1, y2⟩
        · exact .inr ⟨b', vs, e2, r1, r2, r3⟩
    obtain ⟨bo, k1, k2, k3⟩ := hO
    have hfin : ∃ sv' bo, (Ending.returned sv) = .returned sv' ∧ RowKit.Below W.heap.size W W' ∧ (∀ b, bo = some b → W.heap.size ≤ b ∧ b < W'.heap.size) ∧
      RC (enO W W' ok bo (.wr w)) (.r 0 w.length) sv' ∧ RO (enO W W' ok bo (.wr w)) 0 (.wr w) :=
      ⟨sv, bo, rfl, hbelow, k1, k2, k3⟩
    rcases he with rfl | rfl
    · exact ⟨hs.df, _, hres, hfin⟩
    · exact ⟨hs.df, _, hres, hfin⟩
/-- A call whose one result is a row of words of this function's own from here on. -/
theorem DoL.callW {o : Oper} {f : FuncId} {x : Operand} {az : Array Operand} {ts : Array TypeId} {p : Prop} {args : List PV} {w : List Nat} (md : Bool) (lab lo : Nat) (hg : o.guard = none) (hop : o.op = .call { callee := .value x, args := az, argTypes := ts })
    (hx : opv st.tm x = some (.v (.c (.f f)))) (ha : argsOf st az.toList = some (p, args, false)) (hp : p) (hD : DoesW P G f args w) (hf : st.free lo = true) (hd : dstOk nt o.dst = true)
    (next : runs P G nt md ops Q lab l ⟨setv o.dst (some (.v (.c (.r lo w.length)))) st.tm, put lo (.wr w) st.ob⟩) : DoL P G nt ops (o :: l) st Q := by
  intro cx a W hn ⟨m, hr⟩ Q' hQ
  refine wpList_plain hg fun K hK => ?_
  unfold Oper.wp
  have hxv : a.eval x = .func (.func f) #[] #[] := hr.opv hx
  have hargs := argsOf_run hr ha hp false id
  have hok : ∀ b, okC cx m st W false b → b < W.heap.size := by
    rintro b (h | ⟨e, _⟩)
    · exact h.2.1
    · cases e
  have hexec : execOp a.eval o = callFunc f (az.toList.map a.eval).toArray := by
    have e1 : (az.toList.map a.eval).toArray = az.map a.eval := by apply Array.ext'; simp
    unfold execOp
    simp [hop, resolve, hxv, Deferred.ofValue, invoke, e1]
  obtain ⟨h1, h2⟩ := hD W (okC cx m st W false) _ hok hr.glOk hargs
  rw [hexec, h1]
  refine h2.mono ?_
  rintro e W' ⟨sv, bo, rfl, hb, hbo, q1, q2⟩
  have hro : RO (en cx (upd m lo bo) (put lo (.wr w) st.ob) W') lo (.wr w) := by
    rcases q2 with ⟨y1, y2⟩ | ⟨b', vs, e2, r1, r2, r3⟩
    · exact .inl ⟨y1, by show upd m lo bo lo = none; rw [upd_self]; exact y2⟩
    · exact .inr ⟨b', vs, e2, by show upd m lo bo lo = _; rw [upd_self]; exact r1, r2, r3⟩
  have hr2 := hr.adopt hb hf hbo hro
  have hsv : RC (en cx (upd m lo bo) (put lo (.wr w) st.ob) W') (.r lo w.length) sv := by
    refine ⟨q1.1, fun o' ho' hle => ?_⟩
    have ho2 : lk lo (put lo (.wr w) st.ob) = some o' := ho'
    rw [lk_put_self] at ho2; injection ho2 with ho2; subst ho2
    obtain ⟨k1, k2⟩ := q1.2 (.wr w) rfl (Nat.le_refl _)
    refine ⟨rfl, ?_⟩
    show (_ ∧ _ ∧ upd m lo bo lo = none) ∨ ∃ b cap e, upd m lo bo lo = some b ∧ _
    rw [upd_self]
    exact k2
  have hput := Rel.put (st := ⟨st.tm, put lo (.wr w) st.ob⟩) hr2 hn hd (x := .v (.c (.r lo w.length))) (v := sv) hsv
  exact hK _ _ (DoL.run next cx _ _ hn hput Q' hQ)
/-- The lesser of two words. -/
theorem DoL.minN {o : Oper} {x y : Operand} {ts : Array TypeId} {u v : Nat} (md : Bool) (lab : Nat) (hg : o.guard = none) (hop : o.op = .call { callee := .builtin .min, args := #[x, y], argTypes := ts }) (hx : opv st.tm x = some (.v (.c (.n u)))) (hy : opv st.tm y = some (.v (.c (.n v)))) (hd : dstOk nt o.dst = true)
    (next : runs P G nt md ops Q lab l ⟨setv o.dst (some (.v (.c (.n (min u v))))) st.tm, st.ob⟩) : DoL P G nt ops (o :: l) st Q := by
  intro cx a W hn ⟨m, hr⟩ Q' hQ
  refine wpList_plain hg fun K hK => ?_
  unfold Oper.wp
  have hxv : a.eval x = .int .u64 u := rt_n (hr.opv hx)
  have hyv : a.eval y = .int .u64 v := rt_n (hr.opv hy)
  have hm : (Builtin.min2 (.int .u64 u) (.int .u64 v)).run P W = .ok (.int .u64 ((min u v : Nat) : Int)) W := by
    by_cases h : u ≤ v
    · simp [Builtin.min2, Nat.min_eq_left h]; omega
    · simp [Builtin.min2, Nat.min_eq_right (Nat.le_of_lt (Nat.lt_of_not_le h))]; omega
  have hexec : (execOp a.eval o).run P W = .ok (.value (.int .u64 ((min u v : Nat) : Int))) W := by
    simp [execOp, hop, hxv, hyv, resolve, invoke, builtin, Builtin.min_, hm]
  rw [hexec]
  exact hK _ _ (DoL.run next cx _ _ hn (Rel.put hr hn hd (x := .v (.c (.n (min u v)))) (show _ = _ from rfl)) Q' hQ)
end
end Go.Proofs.YtokgalpflooegaaGreatDoor
/- Division by the schoolbook: what its loops hold. No condition. -/
namespace Go.Proofs.YtokgalpflooegaaGreatDoor
set_option linter.unusedVariables false
set_option linter.unusedSimpArgs false
set_option maxHeartbeats 2000000
/-- The digits from i on, below i + k. -/
theorem dg_part {A L i k : Nat} (h : i + k ≤ L) : ((dg A L).drop i).take k = dg (hgh A i) k := by
  refine dg_ext (by rw [List.length_take, List.length_drop, dg_len]; omega) fun t ht => ?_
  rw [List.getElem?_take, if_pos ht, List.getElem?_drop, dg_dig (by omega)]
  unfold dig hgh
  rw [Nat.pow_add, Nat.div_div_eq_div_mul]
theorem hgh_dig (A i t : Nat) : dig (hgh A i) t = dig A (i + t) := by
  unfold dig hgh
  rw [Nat.pow_add, Nat.div_div_eq_div_mul]
theorem hgh_hgh (A i t : Nat) : hgh (hgh A i) t = hgh A (i + t) := by
  unfold hgh
  rw [Nat.pow_add, Nat.div_div_eq_div_mul]
/-- The estimate is not too small. -/
theorem guess_ge {X b n q : Nat} (hn : 0 < n) (hX : X < 4294967296 ^ (n + 1)) (hb : b < 4294967296 ^ n) (hd : dig b (n - 1) ≠ 0) (hq : q * b ≤ X) (hq1 : q ≤ 4294967295) : dig X n * 4294967296 + dig X (n - 1) = hgh X (n - 1) ∧ q ≤ min ((dig X n * 4294967296 + dig X (n - 1)) / dig b (n - 1)) 4294967295 := by
  obtain ⟨m, rfl⟩ : ∃ m, n = m + 1 := ⟨n - 1, by omega⟩
  simp only [Nat.add_sub_cancel] at *
  have h0 : hgh X (m + 1 + 1) = 0 := hi_none hX (Nat.le_refl _)
  have h1 := hi_step X (m + 1)
  have h2 := hi_step X m
  have e : dig X (m + 1) * 4294967296 + dig X m = hgh X m := by rw [h2, h1, h0]; omega
  refine ⟨e, ?_⟩
  rw [e]
  refine Nat.le_min.2 ⟨?_, hq1⟩
  rw [Nat.le_div_iff_mul_le (by omega)]
  unfold hgh
  rw [Nat.le_div_iff_mul_le (Hpos m), Nat.mul_assoc]
  refine Nat.le_trans (Nat.mul_le_mul_left q ?_) hq
  rw [dig_top hb]
  exact Nat.div_mul_le_self _ _
/-- The rest of a part, written k digits far. -/
def cpy (A d i k : Nat) : Nat := A % 4294967296 ^ i + d % 4294967296 ^ k * 4294967296 ^ i + hgh A (i + k) * 4294967296 ^ (i + k)
theorem cpy_zero (A d i : Nat) : cpy A d i 0 = A := by
  unfold cpy hgh
  rw [Nat.pow_zero, Nat.mod_one, Nat.zero_mul, Nat.add_zero, Nat.add_zero, Nat.mod_add_div']
theorem cpy_low (A d i k : Nat) : A % 4294967296 ^ i + d % 4294967296 ^ k * 4294967296 ^ i < 4294967296 ^ (i + k) := by
  have h1 := Nat.mod_lt A (Hpos i)
  have h2 := Nat.mod_lt d (Hpos k)
  rw [Nat.pow_add, Nat.mul_comm (4294967296 ^ i)]
  have h3 : (d % 4294967296 ^ k + 1) * 4294967296 ^ i ≤ 4294967296 ^ k * 4294967296 ^ i := Nat.mul_le_mul_right _ h2
  rw [Nat.add_mul] at h3
  omega
theorem cpy_dig (A d i k : Nat) : dig (cpy A d i k) (i + k) = dig A (i + k) := by
  have h := cpy_low A d i k
  unfold dig cpy hgh
  rw [Nat.add_mul_div_right _ _ (Hpos _), Nat.div_eq_of_lt h, Nat.zero_add]
theorem cpy_step {A d i k L : Nat} (h : i + k < L) : (dg (cpy A d i k) L).set (i + k) (dig d k) = dg (cpy A d i (k + 1)) L := by
  obtain ⟨Q', e1, e2, _⟩ := @dg_set (cpy A d i k) L (i + k) (dig d k) h (dig_lt _ _)
  rw [e1]
  congr 1
  rw [cpy_dig] at e2
  have e3 := hi_step A (i + k)
  have e4 := low_step d k
  unfold cpy at e2 ⊢
  rw [e3] at e2
  rw [e4]
  rw [show i + (k + 1) = i + k + 1 by omega]
  have e5 : dig d k * 4294967296 ^ (i + k) = dig d k * 4294967296 ^ k * 4294967296 ^ i := by rw [Nat.pow_add]; ac_rfl
  rw [e5] at e2
  have e6 : 4294967296 ^ (i + k + 1) = 4294967296 * 4294967296 ^ (i + k) := by rw [Nat.pow_succ, Nat.mul_comm]
  rw [e6, Nat.add_mul]
  rw [Nat.add_mul] at e2
  have e7 : hgh A (i + k + 1) * (4294967296 * 4294967296 ^ (i + k)) = hgh A (i + k + 1) * 4294967296 * 4294967296 ^ (i + k) := by rw [Nat.mul_assoc]
  rw [e7]
  omega
theorem cpy_end {A d i n : Nat} (hd : d < 4294967296 ^ n) (hh : hgh A (i + n) = 0) : cpy A d i n = A % 4294967296 ^ i + d * 4294967296 ^ i := by
  unfold cpy
  rw [hh, Nat.zero_mul, Nat.add_zero, Nat.mod_eq_of_lt hd]
/-- What holds before the digit below c of the quotient is found. -/
structure DivI (A0 b L c A Q : Nat) : Prop where
  lt : A < 4294967296 ^ L
  top : hgh A c < b
  eq : A + b * Q = A0
  low : Q % 4294967296 ^ c = 0
theorem DivI.start {A0 b L n : Nat} (h : A0 < 4294967296 ^ (L - 1)) (hn : 0 < n) (hL : 0 < L) (hb : 4294967296 ^ (n - 1) ≤ b) : DivI A0 b L (L - n) A0 0 := by
  refine ⟨Nat.lt_of_lt_of_le h (Nat.pow_le_pow_right (by decide) (by omega)), ?_, by simp, by simp⟩
  refine Nat.lt_of_lt_of_le ?_ hb
  unfold hgh
  rw [Nat.div_lt_iff_lt_mul (Hpos _), ← Nat.pow_add]
  exact Nat.lt_of_lt_of_le h (Nat.pow_le_pow_right (by decide) (by omega))
/-- The part that a digit of the quotient divides. -/
theorem DivI.part {A0 b L i A Q n : Nat} (h : DivI A0 b L (i + 1) A Q) (hn : 0 < n) (hb : b < 4294967296 ^ n) : hgh A i < b * 4294967296 ∧ hgh A i < 4294967296 ^ (n + 1) ∧ hgh A i / b ≤ 4294967295 ∧ hgh A i / b * b ≤ hgh A i ∧ hgh A (i + (n + 1)) = 0 := by
  have h1 := hi_step A i
  have h2 := dig_lt A i
  have h3 : hgh A i < b * 4294967296 := by
    have : (hgh A (i + 1) + 1) * 4294967296 ≤ b * 4294967296 := Nat.mul_le_mul_right _ h.top
    omega
  have h4 : hgh A i < 4294967296 ^ (n + 1) := by
    refine Nat.lt_of_lt_of_le h3 ?_
    rw [Nat.pow_succ]
    exact Nat.mul_le_mul_right _ (Nat.le_of_lt hb)
  refine ⟨h3, h4, ?_, Nat.div_mul_le_self _ _, ?_⟩
  · have : hgh A i / b < 4294967296 := (Nat.div_lt_iff_lt_mul (Nat.lt_of_le_of_lt (Nat.zero_le _) h.top)).2 (by rw [Nat.mul_comm]; exact h3)
    omega
  · rw [← hgh_hgh]
    exact hi_none h4 (Nat.le_refl _)
theorem DivI.next {A0 b L i A Q n d : Nat} (h : DivI A0 b L (i + 1) A Q) (hn : 0 < n) (hb : b < 4294967296 ^ n) (hi : i + (n + 1) ≤ L) (hd : d + b * (hgh A i / b) = hgh A i) (hdb : d < b) :
    ∃ Q', (dg Q (L - n)).set i (hgh A i / b) = dg Q' (L - n) ∧ DivI A0 b L i (cpy A d i (n + 1)) Q' := by
  obtain ⟨p1, p2, p3, p4, p5⟩ := h.part hn hb
  obtain ⟨Q', e1, e2, _⟩ := @dg_set Q (L - n) i (hgh A i / b) (by omega) (by omega)
  have hdn : d < 4294967296 ^ (n + 1) := Nat.lt_trans (Nat.lt_trans hdb hb) (Nat.pow_lt_pow_right (by decide) (by omega))
  have hc := @cpy_end A d i (n + 1) hdn p5
  have hdi : dig Q i = 0 := by
    have := h.low
    rw [low_step] at this
    have h5 := Hpos i
    have h6 : dig Q i * 4294967296 ^ i = 0 := by omega
    rcases Nat.mul_eq_zero.1 h6 with h6 | h6
    · exact h6
    · omega
  have hql : Q % 4294967296 ^ i = 0 := by
    have := h.low
    rw [low_step] at this
    omega
  rw [hdi, Nat.zero_mul, Nat.add_zero] at e2
  refine ⟨Q', e1, ?_, ?_, ?_, ?_⟩
  · rw [hc]
    have h1 := Nat.mod_lt A (Hpos i)
    have h2 : (d + 1) * 4294967296 ^ i ≤ 4294967296 ^ n * 4294967296 ^ i := Nat.mul_le_mul_right _ (by omega)
    rw [← Nat.pow_add, Nat.add_mul] at h2
    have h3 : 4294967296 ^ (n + i) ≤ 4294967296 ^ L := Nat.pow_le_pow_right (by decide) (by omega)
    omega
  · rw [hc]
    unfold hgh
    rw [Nat.add_mul_div_right _ _ (Hpos i), Nat.div_eq_of_lt (Nat.mod_lt _ (Hpos i)), Nat.zero_add]
    exact hdb
  · rw [hc, e2, ← h.eq]
    have h1 : A = A % 4294967296 ^ i + hgh A i * 4294967296 ^ i := by unfold hgh; rw [Nat.mod_add_div']
    conv => rhs; rw [h1, ← hd]
    rw [Nat.mul_add, Nat.add_mul]
    have : b * (hgh A i / b * 4294967296 ^ i) = b * (hgh A i / b) * 4294967296 ^ i := by rw [Nat.mul_assoc]
    omega
  · rw [e2, Nat.add_mul_mod_self_right, hql]
theorem DivI.fin {A0 b L A Q : Nat} (h : DivI A0 b L 0 A Q) (hb : 0 < b) : Q = A0 / b ∧ A = A0 % b := by
  have h1 := h.top
  rw [hi_zero] at h1
  rw [← h.eq]
  rw [Nat.add_mul_div_left _ _ hb, Nat.add_mul_mod_self_left, Nat.div_eq_of_lt h1, Nat.mod_eq_of_lt h1]
  omega
theorem two_dig {a b : Nat} (ha : a < 4294967296) (hb : b < 4294967296) : a * 4294967296 < M64 ∧ a * 4294967296 + b < M64 := by
  unfold M64; omega
theorem dl_pow {n : Nat} (h : 0 < n) : 0 < dl n ∧ 4294967296 ^ (dl n - 1) ≤ n ∧ n < 4294967296 ^ dl n := by
  have h1 := @dl_lt n (dl n)
  have h2 := @dl_lt n (dl n - 1)
  have h0 : 0 < dl n := by
    have := @dl_lt n 0
    simp at this
    omega
  refine ⟨h0, ?_, h1.1 (Nat.le_refl _)⟩
  have : ¬ dl n ≤ dl n - 1 := by omega
  rw [h2] at this
  omega
end Go.Proofs.YtokgalpflooegaaGreatDoor

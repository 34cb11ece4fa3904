/- Regions whose order is open: whichever order. No condition. Numbers: lengths in bits, low bits. No condition. Calls under a test; the steps of a walk as tactics. No condition. Steps that touch nothing: a slice that was made in the call stays as it is from here on. No condition. Steps that touch nothing: an empty slice as a row of the call's own. No condition. A loop of which only some slots turn. No condition. Rows that stay as they are from here on; calls whose result the caller alone holds. No condition. Functions whose first result is a row of the caller's; functions with a pointer to a box. No condition. An empty slice as words of the call's own. No condition. Operations under a test whose outcome is known. No condition. The functions of package wide on words. No condition. -/
import Derived.Test.YtbhokdhkfodpfaaGreatDoorMc
import Derived.Lib.BitFns
import Derived.Lib.TrailingZeros
import Derived.KernelRfl
/- Regions whose order is open: whichever order. No condition. -/
namespace Go.Proofs.YtbhokdhkfodpfaaGreatDoor
set_option linter.unusedVariables false
set_option linter.unusedSimpArgs false
section
variable {P : Program} {G : Gl} {nt : Nat} {ops l : List Oper} {st st' st0 : St} {ts : List Tr} {cx : Cx} {QE : Exit → St → Prop} {acc : List Sm}
theorem below_closed (he : edgesOk 0 ops = true) (n : Nat) : Closed ops fun i => decide (i < n) := fun k o ho hk e hm hb => by
  have := edgesOk_get he ho e hm hb
  simp only [decide_eq_true_eq] at hk ⊢
  omega
theorem ord_below (he : edgesOk 0 ops = true) {i k : Nat} {o : Oper} (ho : ops[k]? = some o) (h : ordd (masks ops []) i k = true) : i < k := by
  have := masks_spec (below_closed he k) (l := ops) (acc := []) (by simp) (by simp) (fun k hk => by simp at hk) k o ho (fun e hm hb => by have := edgesOk_get he ho e hm hb; simp; omega) i h
  simpa using this
theorem ord_mem {D : Nat → Bool} (hc : Closed ops D) {i k : Nat} {o : Oper} (ho : ops[k]? = some o) (h : ordd (masks ops []) i k = true) (he : ∀ e ∈ o.after, Region.binds .any e = true → D e.on = true) : D i = true :=
  masks_spec hc (l := ops) (acc := []) (by simp) (by simp) (fun k hk => by simp at hk) k o ho he i h
def chkB (ob : List (Nat × Ob)) (ops : List Oper) (sms : List Sm) : Bool := boxesOk ob && chkD ops sms
theorem boxes_lk : ∀ {ob : List (Nat × Ob)} {j : Nat}, boxesOk ob = true → j ∈ boxes ob → ∃ cs, lk j ob = some (.box cs)
  | [], j, _, h => by simp [boxes] at h
  | (k, o) :: r, j, hb, h => by
    by_cases hk : k = j
    · subst hk
      cases o with
      | box cs => exact ⟨cs, by simp [lk]⟩
      | wr l =>
        simp only [boxesOk, Bool.and_eq_true, Bool.not_eq_true', List.contains_eq_mem, decide_eq_false_iff_not] at hb
        simp only [boxes] at h; exact absurd h hb.1
      | sr z l =>
        simp only [boxesOk, Bool.and_eq_true, Bool.not_eq_true', List.contains_eq_mem, decide_eq_false_iff_not] at hb
        simp only [boxes] at h; exact absurd h hb.1
    · have hr : boxesOk r = true := by cases o <;> simp only [boxesOk, Bool.and_eq_true] at hb <;> first | exact hb | exact hb.2
      have hj : j ∈ boxes r := by
        cases o with
        | box cs => simp only [boxes, List.mem_cons] at h; exact h.resolve_left (Ne.symm hk)
        | _ => simpa only [boxes] using h
      obtain ⟨cs, hc⟩ := boxes_lk hr hj
      exact ⟨cs, by simp [lk, hk, hc]⟩
theorem box_app {B : List Nat} {t : Tr} {s : St} {j : Nat} (hj : j ∈ B) (hf : ∀ l, t.nw = some l → l ∉ B) (he : efOk B t.ef = true) (hs : ∃ cs, lk j s.ob = some (.box cs)) : ∃ cs, lk j (t.app s).ob = some (.box cs) := by
  obtain ⟨dst, v, ef, lab, us⟩ := t
  simp only [Tr.app]
  cases ef with
  | none => exact hs
  | new o =>
    have hne : j ≠ lab := fun e => hf lab (by simp [Tr.nw, Eff.isNew]) (e ▸ hj)
    simp only [Eff.app]; rw [lk_put_ne _ _ hne]; exact hs
  | upd k o =>
    simp only [Eff.app]
    by_cases hk : j = k
    · subst hk
      rw [lk_put_self]
      simp only [efOk, Bool.or_eq_true, Bool.not_eq_true', List.contains_eq_mem, decide_eq_false_iff_not] at he
      rcases he with he | he
      · cases o <;> first | exact ⟨_, rfl⟩ | (simp [Ob.isBox] at he)
      · exact absurd hj he
    · rw [lk_put_ne _ _ hk]; exact hs
theorem foldS_box {B : List Nat} {j : Nat} (hj : j ∈ B) : ∀ (ts : List Tr) (b : Nat) (s : St) (D : Nat → Bool), (∀ t ∈ ts, (∀ l, t.nw = some l → l ∉ B) ∧ efOk B t.ef = true) → (∃ cs, lk j s.ob = some (.box cs)) → ∃ cs, lk j (foldS D b ts s).ob = some (.box cs)
  | [], _, _, _, _, h => h
  | t :: ts, b, s, D, ht, h => by
    simp only [foldS]
    refine foldS_box hj ts (b + 1) _ D (fun u hu => ht u (List.mem_cons_of_mem _ hu)) ?_
    split
    · exact box_app hj (ht t (by simp)).1 (ht t (by simp)).2 h
    · exact h
theorem draw_any (h : ChD P G nt ops (boxes st.ob) ops st ts st') (hbx : boxesOk st.ob = true) (hef : ∀ t ∈ ts, efOk (boxes st.ob) t.ef = true) (hchk : chkD ops (ts.map Tr.sm) = true) (hfr : ∀ t ∈ ts, ∀ l, t.nw = some l → st.free l = true) (hn : cx.nt = nt) {Q' : Exit → Act → World → Prop} (hQ : ∀ a W, Rel G cx st' a W → Q' .normal a W) :
    ∀ (fuel : Nat) (listed : Array Bool) (a : Act) (W : World), listed.size = ops.length → listed.toList.count false ≤ fuel → Closed ops (fun i => listed.getD i false) → Rel G cx (foldS (fun i => listed.getD i false) 0 ts st) a W → wpAny P .any ops.toArray Q' fuel listed a W := by
  obtain ⟨glen, gst, gok⟩ := ChD.get 0 h
  simp only [chkD, Bool.and_eq_true] at hchk
  obtain ⟨he, hall⟩ := hchk
  have gdst : ∀ (i : Nat) (t : Tr), ts[i]? = some t → ∃ o, ops[i]? = some o ∧ t.dst = o.dst := fun i t ht => by
    have hi : i < ops.length := by rw [← glen]; exact (List.getElem?_eq_some_iff.1 ht).1
    obtain ⟨t', h1, h2⟩ := gok i _ (List.getElem?_eq_getElem hi)
    rw [ht] at h1; injection h1 with h1; subst h1
    exact ⟨_, List.getElem?_eq_getElem hi, h2.1⟩
  have pair : ∀ (k i : Nat) (ok oi : Oper) (tk ti : Tr), ops[k]? = some ok → ops[i]? = some oi → ts[k]? = some tk → ts[i]? = some ti → i ≠ k →
      (clash (rdOf ops ok) ok tk.sm oi ti.sm = true → ordd (masks ops []) i k = true ∨ ordd (masks ops []) k i = true) ∧ ∀ lab, tk.nw = some lab → lab ∈ ti.mn → ordd (masks ops []) k i = true := fun k i ok oi tk ti h1 h2 h3 h4 hne => by
    have e1 := allOk_get (k := k) hall h1 (by rw [List.getElem?_map, h3]; rfl)
    have e2 := pairOk_get (i := i) e1 h2 (by rw [List.getElem?_map, h4]; rfl) (by omega)
    simp only [Nat.zero_add] at e2
    exact e2
  have full : ∀ (listed : Array Bool) (a : Act) (W : World), (∀ i, i < ops.length → listed.getD i false = true) → Rel G cx (foldS (fun i => listed.getD i false) 0 ts st) a W → Q' .normal a W := by
    intro listed a W hl hr
    refine hQ a W (hr.le ?_)
    rw [gst]
    have hl' : ∀ (i : Nat) (t : Tr), ts[i]? = some t → listed.getD (0 + i) false = true := fun i t ht => by
      rw [Nat.zero_add]; exact hl i (by rw [← glen]; exact (List.getElem?_eq_some_iff.1 ht).1)
    refine ⟨fun x v hx => ?_, fun x v hx => ?_⟩
    · rw [← hx]; exact foldS_part (fun s => lk x s.tm) (fun t => t.dst = some x) (fun t s s' hw => by rw [app_tm_eq hw, app_tm_eq hw]) (fun t s hw => app_tm_ne hw) ts 0 st st _ _ rfl (fun i t ht _ => hl' i t ht)
    · rw [← hx]; exact foldS_part (fun s => lk x s.ob) (fun t => x ∈ t.wr) (fun t s s' hw => by rw [app_ob_eq hw, app_ob_eq hw]) (fun t s hw => app_ob_ne hw) ts 0 st st _ _ rfl (fun i t ht _ => hl' i t ht)
  intro fuel
  induction fuel with
  | zero =>
    intro listed a W hs hcnt hc hr
    have hl : ∀ i, i < ops.length → listed.getD i false = true := fun i hi => by
      have hi' : i < listed.size := by omega
      have h0 : listed.toList.count false = 0 := by omega
      rw [List.count_eq_zero] at h0
      have e : listed[i]? = some listed[i] := Array.getElem?_eq_getElem hi'
      cases hb : listed[i] with
      | true => simp [e, hb]
      | false => exact absurd (by rw [← hb]; simp) h0
    refine ⟨?_, full listed a W hl hr⟩
    rw [List.eq_nil_iff_forall_not_mem]
    intro j hj
    obtain ⟨h1, o, h2, h3⟩ := mem_ready.1 hj
    have hj' : j < ops.length := by simp at h2; exact (List.getElem?_eq_some_iff.1 h2).1
    have := hl j hj'
    have hj2 : j < listed.size := by omega
    simp [hj2] at h1 this
    rw [h1] at this; cases this
  | succ fuel ih =>
    intro listed a W hs hcnt hc hr
    refine ⟨fun hnil => ?_, fun i hi => ?_⟩
    · refine full listed a W (fun i => ?_) hr
      induction i using Nat.strongRecOn with
      | _ i ihi =>
        intro hi
        cases hd : listed.getD i false with
        | true => rfl
        | false =>
          have hi' : i < listed.size := by omega
          have : i ∈ Region.ready .any ops.toArray listed := mem_ready.2 ⟨by simp [hi'] at hd ⊢; exact hd, ops[i], by simp [hi], fun e hm hb => by
            have hlt := edgesOk_get he (List.getElem?_eq_getElem hi) e hm hb
            exact ihi e.on (by omega) (by omega)⟩
          rw [hnil] at this; cases this
    · obtain ⟨hi1, o, hi2, hi3⟩ := mem_ready.1 hi
      have ho : ops[i]? = some o := by simpa using hi2
      have hilt : i < ops.length := (List.getElem?_eq_some_iff.1 ho).1
      have hisz : i < listed.size := by omega
      obtain ⟨t, ht, hok⟩ := gok i o ho
      have hDi : listed.getD i false = false := by simp [hisz] at hi1 ⊢; exact hi1
      have key : ∀ (j : Nat) (oj : Oper) (tj : Tr), ops[j]? = some oj → ts[j]? = some tj → (j ≠ i → clash (rdOf ops o) o t.sm oj tj.sm = true) → listed.getD (0 + j) false = decide (0 + j < 0 + i) := fun j oj tj h1 h2 h3 => by
        rw [Nat.zero_add, Nat.zero_add]
        by_cases hj : j = i
        · subst hj; rw [hDi]; simp
        · rcases (pair i j o oj t tj ho h1 ht h2 hj).1 (h3 hj) with q | q
          · have e1 := ord_below he ho q
            rw [ord_mem hc ho q hi3]; simp [e1]
          · have e1 := ord_below he h1 q
            cases hd : listed.getD j false with
            | false => simp; omega
            | true =>
              have := ord_mem hc h1 q (fun e hm hb => hc j oj h1 hd e hm hb)
              rw [hDi] at this; cases this
      have clash_dst : ∀ {oj : Oper} {tj : Tr} {x : Nat}, oj.dst = some x → (o.dst = some x ∨ x ∈ rdOf ops o) → clash (rdOf ops o) o t.sm oj tj.sm = true := fun h1 h2 => by
        unfold clash
        rw [mem_meets (x := _) (show _ ∈ dsts _ by rw [h1]; exact List.mem_singleton.2 rfl) (by
          rw [List.mem_append]
          rcases h2 with h2 | h2
          · exact .inl (by rw [h2]; exact List.mem_singleton.2 rfl)
          · exact .inr h2)]
        rfl
      have clash_wr : ∀ {oj : Oper} {tj : Tr} {x : Nat}, x ∈ tj.wr → (x ∈ t.wr ∨ x ∈ t.us) → clash (rdOf ops o) o t.sm oj tj.sm = true := fun h1 h2 => by
        unfold clash
        exact Bool.or_eq_true_iff.2 (.inr (mem_meets h1 (List.mem_append.2 h2)))
      obtain ⟨m, hm⟩ := hr
      have hts : ∀ t ∈ ts, (∀ l, t.nw = some l → l ∉ boxes st.ob) ∧ efOk (boxes st.ob) t.ef = true := fun t ht => ⟨fun l hl hm => (by
        obtain ⟨cs, hc⟩ := boxes_lk hbx hm
        have := (St.free_spec (hfr t ht l hl)).2.1
        rw [hc] at this; cases this), hef t ht⟩
      have := hok.2 cx a W m _ hn (fun j hj => ⟨foldS_box hj ts 0 st _ hts (boxes_lk hbx hj), foldS_box hj ts 0 st _ hts (boxes_lk hbx hj)⟩)
        (fun x hx => foldS_part (fun s => lk x s.tm) (fun t => t.dst = some x) (fun t s s' hw => by rw [app_tm_eq hw, app_tm_eq hw]) (fun t s hw => app_tm_ne hw) ts 0 st st _ _ rfl (fun j tj hj hw => by
          obtain ⟨oj, hoj, hdj⟩ := gdst j tj hj
          exact key j oj tj hoj hj fun _ => clash_dst (by rw [← hdj]; exact hw) (.inr hx)))
        (fun x hx => foldS_part (fun s => lk x s.ob) (fun t => x ∈ t.wr) (fun t s s' hw => by rw [app_ob_eq hw, app_ob_eq hw]) (fun t s hw => app_ob_ne hw) ts 0 st st _ _ rfl (fun j tj hj hw => by
          obtain ⟨oj, hoj, hdj⟩ := gdst j tj hj
          exact key j oj tj hoj hj fun _ => clash_wr hw (.inr hx)))
        (fun hnew => foldS_free ts 0 st _ (hfr t (List.mem_of_getElem? ht) t.lab (by simp [Tr.nw, hnew])) (fun j tj hj hD hmn => by
          obtain ⟨oj, hoj, hdj⟩ := gdst j tj hj
          rw [Nat.zero_add] at hD
          have hne : j ≠ i := fun e => by subst e; rw [hDi] at hD; cases hD
          have q := (pair i j o oj t tj ho hoj ht hj hne).2 t.lab (by simp [Tr.nw, hnew]) hmn
          have := ord_mem hc hoj q (fun e hm hb => hc j oj hoj hD e hm hb)
          rw [hDi] at this; cases this)) hm Q' (wpAny P .any ops.toArray Q' fuel (listed.setIfInBounds i true)) (fun a' W' hr' => by
        have hset : ∀ j, j ≠ i → (listed.setIfInBounds i true).getD j false = listed.getD j false := fun j hj => getD_set_ne false (Ne.symm hj)
        have hseti : (listed.setIfInBounds i true).getD i false = true := by simp [hisz]
        refine ih _ a' W' (by simp [hs]) ?_ (fun k ok hk hD e hme hb => ?_) (hr'.le ?_)
        · have e1 : (listed.setIfInBounds i true).toList = listed.toList.set i true := by simp
          rw [e1, List.count_set (by simpa using hisz)]
          have e2 : listed.toList[i]'(by simpa using hisz) = false := by simp [hisz] at hDi ⊢; exact hDi
          have e3 : 0 < listed.toList.count false := List.count_pos_iff.2 (by rw [← e2]; exact List.getElem_mem _)
          rw [e2]
          simp
          have : listed.toList.count false = listed.count false := by simp
          omega
        · have : listed.getD e.on false = true := by
            by_cases hki : k = i
            · subst hki
              rw [ho] at hk; injection hk with hk; subst hk
              exact hi3 e hme hb
            · simp only [] at hD
              rw [hset k hki] at hD
              exact hc k ok hk hD e hme hb
          exact getD_set_true this
        · have other : ∀ (j : Nat) (tj : Tr), ts[j]? = some tj → j ≠ i → (listed.setIfInBounds i true).getD (0 + j) false = listed.getD (0 + j) false := fun j tj hj hne => by rw [Nat.zero_add]; exact hset j hne
          have same : ∀ (j : Nat) (tj : Tr), ts[j]? = some tj → j = i → tj = t := fun j tj hj e => by subst e; rw [ht] at hj; injection hj with hj; exact hj.symm
          refine ⟨fun x v hx => ?_, fun x v hx => ?_⟩
          · rw [← hx]
            by_cases hw : t.dst = some x
            · exact (foldS_last (fun s => lk x s.tm) (fun t => t.dst = some x) (fun t s s' hw => by rw [app_tm_eq hw, app_tm_eq hw]) (fun t s hw => app_tm_ne hw) ts 0 i st _ t _ ht hw (by rw [Nat.zero_add]; exact hseti) (fun j tj hj hij hwj => by
                rw [other j tj hj (by omega)]
                obtain ⟨oj, hoj, hdj⟩ := gdst j tj hj
                rw [key j oj tj hoj hj fun _ => clash_dst (by rw [← hdj]; exact hwj) (.inl (by rw [← hok.1]; exact hw))]
                simp; omega)).symm
            · have e1 := app_tm_ne (t := t) (s := foldS (fun i => listed.getD i false) 0 ts st) hw
              rw [e1]
              exact foldS_part (fun s => lk x s.tm) (fun t => t.dst = some x) (fun t s s' hw => by rw [app_tm_eq hw, app_tm_eq hw]) (fun t s hw => app_tm_ne hw) ts 0 st st _ _ rfl (fun j tj hj hwj => (other j tj hj fun e => hw (by rw [← same j tj hj e]; exact hwj)).symm)
          · rw [← hx]
            by_cases hw : x ∈ t.wr
            · exact (foldS_last (fun s => lk x s.ob) (fun t => x ∈ t.wr) (fun t s s' hw => by rw [app_ob_eq hw, app_ob_eq hw]) (fun t s hw => app_ob_ne hw) ts 0 i st _ t _ ht hw (by rw [Nat.zero_add]; exact hseti) (fun j tj hj hij hwj => by
                rw [other j tj hj (by omega)]
                obtain ⟨oj, hoj, hdj⟩ := gdst j tj hj
                rw [key j oj tj hoj hj fun _ => clash_wr hwj (.inl hw)]
                simp; omega)).symm
            · have e1 := app_ob_ne (t := t) (s := foldS (fun i => listed.getD i false) 0 ts st) hw
              rw [e1]
              exact foldS_part (fun s => lk x s.ob) (fun t => x ∈ t.wr) (fun t s s' hw => by rw [app_ob_eq hw, app_ob_eq hw]) (fun t s hw => app_ob_ne hw) ts 0 st st _ _ rfl (fun j tj hj hwj => (other j tj hj fun e => hw (by rw [← same j tj hj e]; exact hwj)).symm))
      unfold wpOp
      rw [hi2]
      simp only []
      split
      · rename_i hw
        rw [if_pos hw] at this
        exact .inl this
      · rename_i hw
        rw [if_neg hw] at this
        exact this
/-- The operations from here on, and what is asked at the end. -/
def DoLD (P : Program) (G : Gl) (nt : Nat) (ops : List Oper) (st0 : St) (Q : List Sm → St → Prop) (l : List Oper) (acc : List Sm) (st : St) : Prop :=
  ∃ ts st', ChD P G nt ops (boxes st0.ob) l st ts st' ∧ (∀ t ∈ ts, (∀ l, t.nw = some l → st0.free l = true) ∧ efOk (boxes st0.ob) t.ef = true) ∧ Q (acc ++ ts.map Tr.sm) st'
def trOf (B : List Nat) (lab : Nat) (tm : List (Nat × TV)) (o : Oper) (v : Option TV) (ef : Eff) : Tr := ⟨o.dst, v, ef, lab, usOf B tm o.op⟩
def runsD (P : Program) (G : Gl) (nt : Nat) (md : Bool) (ops : List Oper) (st0 : St) (Q : List Sm → St → Prop) : Nat → List Oper → List Sm → St → Prop
  | _, [], acc, st => Q acc st
  | lab, o :: l, acc, st => match stepE P G nt md ops lab st.tm (fun j => lk j st.ob) o with
    | some ⟨p, v, ef⟩ => if (ef.isNew && !(st0.free lab && ef.fresh lab) || !efOk (boxes st0.ob) ef) = true then DoLD P G nt ops st0 Q (o :: l) acc st else p ∧ runsD P G nt md ops st0 Q (lab + 1) l (acc ++ [(trOf (boxes st0.ob) lab st.tm o v ef).sm]) ((trOf (boxes st0.ob) lab st.tm o v ef).app st)
    | none => DoLD P G nt ops st0 Q (o :: l) acc st
variable {Q : List Sm → St → Prop}
theorem DoLD.cons {o : Oper} {t : Tr} (h : OpOk P G nt ops (boxes st0.ob) o st t) (hf : ∀ l, t.nw = some l → st0.free l = true) (he : efOk (boxes st0.ob) t.ef = true) (next : DoLD P G nt ops st0 Q l (acc ++ [t.sm]) (t.app st)) : DoLD P G nt ops st0 Q (o :: l) acc st := by
  obtain ⟨ts, st', h1, h2, h3⟩ := next
  refine ⟨t :: ts, st', .cons h h1, fun u hu => ?_, by simpa using h3⟩
  rcases List.mem_cons.1 hu with rfl | hu
  · exact ⟨hf, he⟩
  · exact h2 u hu
theorem DoLD.run {md : Bool} : ∀ {l : List Oper} {lab : Nat} {acc : List Sm} {st : St}, runsD P G nt md ops st0 Q lab l acc st → DoLD P G nt ops st0 Q l acc st
  | [], lab, acc, st, h => ⟨[], st, .nil, (fun t ht => by cases ht), by simp only [runsD] at h; simpa using h⟩
  | o :: l, lab, acc, st, h => by
    simp only [runsD] at h
    split at h
    · rename_i p v ef he
      split at h
      · exact h
      · rename_i hne
        have hne' := hne
        simp only [Bool.or_eq_true, not_or, Bool.not_eq_true, Bool.not_eq_true', Bool.not_eq_false] at hne
        obtain ⟨hne, hef⟩ := hne
        have hfr : ef.fresh lab = true := by cases ef <;> first | rfl | (simp [Eff.isNew] at hne; exact hne.2)
        refine DoLD.cons (opOk_step he h.1 hfr _) (fun l hl => ?_) hef (DoLD.run h.2)
        simp only [Tr.nw] at hl
        split at hl
        · rename_i hnew
          injection hl with hl; subst hl
          simp [hnew] at hne; exact hne.1
        · cases hl
    · exact h
theorem DoLD.call {o : Oper} {f : FuncId} {x : Operand} {az : Array Operand} {ts : Array TypeId} {p : Prop} {args : List PV} {pur : Bool} {ret : TV} (md : Bool) (lab : Nat) (hg : o.guard = none) (hop : o.op = .call { callee := .value x, args := az, argTypes := ts })
    (hx : opv st.tm x = some (.v (.c (.f f)))) (ha : argsOf st az.toList = some (p, args, pur)) (hp : p) (hD : Does P G f args ret) (hl : ret.labs = []) (hf : pur = false ∨ ret.fr = true) (hd : dstOk nt o.dst = true)
    (next : runsD P G nt md ops st0 Q lab l (acc ++ [⟨labsOf st.tm az.toList, [], [], none⟩]) ⟨setv o.dst (some ret) st.tm, st.ob⟩) : DoLD P G nt ops st0 Q (o :: l) acc st := by
  refine DoLD.cons (opOk_call 0 hg hop hx ha hp hD hl hf hd) (fun l hl => by simp [Tr.nw, Eff.isNew] at hl) rfl ?_
  have e1 : Tr.sm ⟨o.dst, some ret, .none, 0, labsOf st.tm az.toList⟩ = ⟨labsOf st.tm az.toList, [], [], none⟩ := by
    simp [Tr.sm, Tr.wr, Tr.mn, Tr.nw, Tr.ob, Eff.isNew, hl]
  rw [e1]
  exact DoLD.run next
theorem Do.draw {id : Nat} {l : List Oper} (ks : List Nat) (md : Bool) (hm : P.follows .mixedOrders = true) (h : runsD P G nt md l st (fun sms s => chkB st.ob l sms = true ∧ QE .normal (s.only ks)) (id * 100) l [] st) : Do P G nt (.region id l.toArray true) st QE := by
  intro cx a W hn hr
  obtain ⟨ts, st', h1, h2, h3, h4⟩ := DoLD.run h
  refine wp_region_any hm (draw_any h1 (Bool.and_eq_true_iff.1 h3).1 (fun t ht => (h2 t ht).2) (by simpa using (Bool.and_eq_true_iff.1 h3).2) (fun t ht => (h2 t ht).1) hn (fun a' W' hr' => ⟨_, h4, hr'.le (St.only_le ks st')⟩) _ _ a _ (by simp) (by
    rw [show l.toArray.size = l.length by simp]
    exact Nat.le_trans List.count_le_length (by simp)) (fun k o ho hD => ?_) ?_)
  · simp at hD
    by_cases hk : k < l.length <;> simp [hk] at hD
  · have none_ : ∀ (ts : List Tr) (b : Nat) (s : St), foldS (fun i => (Array.replicate l.toArray.size false).getD i false) b ts s = s := by
      intro ts
      induction ts with
      | nil => intro b s; rfl
      | cons t ts ih =>
        intro b s
        simp only [foldS]
        rw [ih, if_neg]
        by_cases hk : b < l.length <;> simp [hk]
    rw [none_]
    obtain ⟨m, hr⟩ := hr
    exact ⟨m, hr.heap rfl rfl rfl rfl⟩
end
attribute [go_sem] boxes efOk usB usO usOf stepE runsD trOf Tr.sm Tr.app Tr.wr Tr.mn Tr.nw Tr.ob labsOf TV.labs PV.labs Ce.labs Ob.labs Op.operands
end Go.Proofs.YtbhokdhkfodpfaaGreatDoor
/- Numbers: lengths in bits, low bits. No condition. -/
namespace Go.Proofs.YtbhokdhkfodpfaaGreatDoor
set_option linter.unusedVariables false
set_option linter.unusedSimpArgs false
/-- The length in bits. -/
def bl (n : Nat) : Nat := if n = 0 then 0 else n.log2 + 1
/-- How many low bits are 0; 0 for 0. -/
def tz (n : Nat) : Nat := if h : n = 0 then 0 else if n % 2 = 1 then 0 else 1 + tz (n / 2)
termination_by n
decreasing_by omega
theorem B64 : (18446744073709551616 : Nat) = 2 ^ 64 := by decide
theorem B64_pow (k : Nat) : (18446744073709551616 : Nat) ^ k = 2 ^ (64 * k) := by rw [B64, ← Nat.pow_mul]
theorem bl_lt (n k : Nat) : bl n ≤ k ↔ n < 2 ^ k := by
  unfold bl
  split
  · rename_i h; subst h; simp [Nat.pow_pos]
  · rename_i h; rw [← Nat.log2_lt h]; omega
theorem bl_le (n k : Nat) : k < bl n ↔ 2 ^ k ≤ n := by
  have := bl_lt n k
  omega
theorem bl_self (n : Nat) : n < 2 ^ bl n := (bl_lt n _).1 (Nat.le_refl _)
theorem bl_eq {n k : Nat} (h1 : n < 2 ^ k) (h2 : 0 < k → 2 ^ (k - 1) ≤ n) : bl n = k := by
  have a := (bl_lt n k).2 h1
  rcases Nat.eq_zero_or_pos k with h | h
  · omega
  · have b := (bl_le n (k - 1)).2 (h2 h); omega
theorem bl_zero : bl 0 = 0 := rfl
theorem bl_pos {n : Nat} (h : 0 < n) : 0 < bl n := (bl_le n 0).2 (by simp; omega)
theorem bl_add {lo hi m : Nat} (h : lo < 2 ^ m) (hh : 0 < hi) : bl (lo + 2 ^ m * hi) = m + bl hi := by
  have a := bl_self hi
  have b := bl_pos hh
  have c := (bl_le hi (bl hi - 1)).1 (by omega)
  refine bl_eq ?_ fun _ => ?_
  · rw [Nat.pow_add]
    calc lo + 2 ^ m * hi < 2 ^ m + 2 ^ m * hi := by omega
      _ = 2 ^ m * (hi + 1) := by rw [Nat.mul_add]; omega
      _ ≤ 2 ^ m * 2 ^ bl hi := Nat.mul_le_mul_left _ a
  · rw [show m + bl hi - 1 = m + (bl hi - 1) by omega, Nat.pow_add]
    exact Nat.le_trans (Nat.mul_le_mul_left _ c) (Nat.le_add_left _ _)
theorem bitLenAux_bl : ∀ (f n : Nat), n < 2 ^ f → Lib.bitLenAux f n = bl n
  | 0, n, h => by
    have : n = 0 := by simpa using h
    subst this; rfl
  | f + 1, n, h => by
    unfold Lib.bitLenAux
    split
    · rename_i h0; subst h0; rfl
    · rename_i h0
      rw [bitLenAux_bl f (n / 2) (by rw [Nat.pow_succ] at h; omega)]
      by_cases h1 : n / 2 = 0
      · have : n = 1 := by omega
        subst this; rfl
      · have := bl_add (lo := n % 2) (hi := n / 2) (m := 1) (by omega) (by omega)
        rw [show n % 2 + 2 ^ 1 * (n / 2) = n by omega] at this
        omega
theorem bitLen_bl {n : Nat} (h : n < 18446744073709551616) : Lib.bitLen n = bl n := bitLenAux_bl 64 n h
theorem bl_word {n : Nat} (h : n < 18446744073709551616) : bl n ≤ 64 := (bl_lt n 64).2 h
theorem Cn.cons {w : Nat} {l : List Nat} (h : Cn (w :: l)) : Cn l ∧ (l = [] → w ≠ 0) := by
  unfold Cn at h ⊢
  rw [norm_cons] at h
  split at h
  · cases h
  · rename_i hc
    injection h with _ h
    refine ⟨h, fun hl hw => hc ⟨?_, hw⟩⟩
    rw [h, hl]
theorem Cn.last : ∀ {l : List Nat}, Cn l → l ≠ [] → l[l.length - 1]?.getD 0 ≠ 0
  | [], _, h => absurd rfl h
  | [w], h, _ => by simpa using h.cons.2 rfl
  | w :: v :: l, h, _ => by
    have := Cn.last (l := v :: l) h.cons.1 (by simp)
    simpa using this
theorem val_take (x : List Nat) (n : Nat) : val x = val (x.take n) + 18446744073709551616 ^ (x.take n).length * val (x.drop n) := by
  rw [← val_append, List.take_append_drop]
theorem val_drop (x : List Nat) (n : Nat) : val (x.drop n) = x[n]?.getD 0 + 18446744073709551616 * val (x.drop (n + 1)) := by
  by_cases h : n < x.length
  · rw [List.drop_eq_getElem_cons h]; simp [val, h]
  · rw [List.drop_eq_nil_of_le (by omega), List.drop_eq_nil_of_le (by omega)]
    simp [val, h]
theorem val_last {x : List Nat} (h : 0 < x.length) : val x = val (x.take (x.length - 1)) + 2 ^ (64 * (x.length - 1)) * x[x.length - 1]?.getD 0 := by
  have e := val_take x (x.length - 1)
  rw [val_drop, List.drop_eq_nil_of_le (by omega), B64_pow] at e
  simpa [val, Nat.min_eq_left (Nat.sub_le _ _)] using e
theorem Ws.take {x : List Nat} (h : Ws x) (n : Nat) : Ws (x.take n) := fun w hw => h w (List.mem_of_mem_take hw)
theorem Ws.drop {x : List Nat} (h : Ws x) (n : Nat) : Ws (x.drop n) := fun w hw => h w (List.mem_of_mem_drop hw)
theorem val_take_lt {x : List Nat} (h : Ws x) {n : Nat} (hn : n ≤ x.length) : val (x.take n) < 2 ^ (64 * n) := by
  have := val_lt (h.take n)
  rwa [B64_pow, List.length_take, Nat.min_eq_left hn] at this
theorem bl_val {y : List Nat} (hw : Ws y) (hc : Cn y) (hy : 0 < y.length) : bl (val y) = 64 * (y.length - 1) + bl (y[y.length - 1]?.getD 0) := by
  rw [val_last hy]
  exact bl_add (val_take_lt hw (Nat.sub_le _ _)) (Nat.pos_of_ne_zero (hc.last (List.length_pos_iff.1 hy)))
theorem norm_cn (x : List Nat) : Cn (norm x) := norm_norm x
theorem val_pos {y : List Nat} (hc : Cn y) (h : 0 < y.length) : 0 < val y := by
  rw [val_last h]
  have := hc.last (List.length_pos_iff.1 h)
  have := Nat.mul_pos (Nat.pow_pos (n := 64 * (y.length - 1)) (show 0 < 2 by omega)) (Nat.pos_of_ne_zero this)
  omega
theorem norm_nil {x : List Nat} : norm x = [] ↔ val x = 0 := by
  constructor
  · intro h; rw [← val_norm, h]; rfl
  · intro h
    rcases Nat.eq_zero_or_pos (norm x).length with h1 | h1
    · exact List.length_eq_zero_iff.1 h1
    · have := val_pos (norm_cn x) h1
      rw [val_norm] at this; omega
/-- Low bits. -/
theorem tz_odd (k m : Nat) : tz (2 ^ k * (2 * m + 1)) = k := by
  induction k with
  | zero => unfold tz; simp
  | succ k ih =>
    have h0 : 0 < 2 ^ k * (2 * m + 1) := Nat.mul_pos (Nat.pow_pos (by omega)) (by omega)
    have e : 2 ^ (k + 1) * (2 * m + 1) = 2 * (2 ^ k * (2 * m + 1)) := by rw [Nat.pow_succ, Nat.mul_comm (2 ^ k) 2, Nat.mul_assoc]
    rw [e]
    unfold tz
    rw [dif_neg (by omega), if_neg (by omega), show 2 * (2 ^ k * (2 * m + 1)) / 2 = 2 ^ k * (2 * m + 1) by omega, ih, Nat.add_comm]
theorem tz_form {n : Nat} (h : 0 < n) : ∃ m, n = 2 ^ tz n * (2 * m + 1) := by
  induction n using Nat.strongRecOn with
  | _ n ih =>
    unfold tz
    rw [dif_neg (by omega)]
    split
    · exact ⟨n / 2, by simp; omega⟩
    · obtain ⟨m, hm⟩ := ih (n / 2) (by omega) (by omega)
      exact ⟨m, by rw [Nat.add_comm, Nat.pow_succ, Nat.mul_comm (2 ^ _) 2, Nat.mul_assoc, ← hm]; omega⟩
theorem tz_dvd {n k : Nat} (h : 0 < n) : n % 2 ^ k = 0 ↔ k ≤ tz n := by
  obtain ⟨m, hm⟩ := tz_form h
  constructor
  · intro hk
    apply Classical.byContradiction
    intro hlt
    have hlt : tz n + 1 ≤ k := by omega
    have h1 : 2 ^ (tz n + 1) ∣ n := Nat.dvd_trans (Nat.pow_dvd_pow 2 hlt) (Nat.dvd_of_mod_eq_zero hk)
    obtain ⟨c, hc⟩ := h1
    rw [hm, tz_odd] at hc
    rw [Nat.pow_succ, Nat.mul_assoc] at hc
    have := Nat.eq_of_mul_eq_mul_left (Nat.pow_pos (by omega)) hc
    omega
  · intro hk
    apply Nat.mod_eq_zero_of_dvd
    rw [hm]
    exact Nat.dvd_trans (Nat.pow_dvd_pow 2 hk) (Nat.dvd_mul_right _ _)
theorem ctz_tz {w : Nat} (h0 : 0 < w) (h : w < 18446744073709551616) : Lib.ctz 64 w = tz w ∧ tz w < 64 := by
  obtain ⟨m, h1, h2⟩ := Lib.ctzFrom_spec 64 w h0 h
  have e : tz w = Lib.ctzFrom 64 w := by
    have := tz_odd (Lib.ctzFrom 64 w) m
    rwa [← h1] at this
  unfold Lib.ctz
  rw [if_neg (by omega), e]
  exact ⟨rfl, h2⟩
theorem tz_mul (k : Nat) {n : Nat} (h : 0 < n) : tz (2 ^ k * n) = k + tz n := by
  obtain ⟨m, hm⟩ := tz_form h
  have := tz_odd (k + tz n) m
  rwa [Nat.pow_add, Nat.mul_assoc, ← hm] at this
theorem tz_low {w r k : Nat} (hw : 0 < w) (hk : tz w < k) : tz (w + 2 ^ k * r) = tz w := by
  obtain ⟨m, hm⟩ := tz_form hw
  have e : w + 2 ^ k * r = 2 ^ tz w * (2 * (m + 2 ^ (k - tz w - 1) * r) + 1) := by
    have : 2 ^ k = 2 ^ tz w * (2 * 2 ^ (k - tz w - 1)) := by
      rw [show 2 * 2 ^ (k - tz w - 1) = 2 ^ (k - tz w) by rw [Nat.mul_comm, ← Nat.pow_succ]; congr 1; omega, ← Nat.pow_add]; congr 1; omega
    rw [this]
    conv => lhs; lhs; rw [hm]
    rw [Nat.mul_assoc, ← Nat.mul_add]
    congr 1
    rw [Nat.mul_add, Nat.mul_assoc]; omega
  rw [e, tz_odd]
theorem tz_val {x : List Nat} (hw : Ws x) {i : Nat} (hz : ∀ j, j < i → x[j]?.getD 0 = 0) (hi : x[i]?.getD 0 ≠ 0) : tz (val x) = 64 * i + tz (x[i]?.getD 0) := by
  have zero_ : ∀ {l : List Nat}, (∀ j : Nat, l[j]?.getD 0 = 0) → val l = 0 := fun h => norm_nil.1 (norm_nil_iff.2 h)
  have hlen : i < x.length := by
    apply Classical.byContradiction
    intro h
    simp [h] at hi
  have h1 : val (x.take i) = 0 := zero_ fun j => by
    by_cases hj : j < i
    · rw [List.getElem?_take_of_lt hj]; exact hz j hj
    · rw [List.getElem?_eq_none (by simp; omega)]; rfl
  rw [val_take x i, h1, Nat.zero_add, B64_pow, List.length_take, Nat.min_eq_left (by omega), val_drop, B64]
  have hp : 0 < x[i]?.getD 0 := by omega
  have := (ctz_tz hp (hw.get i)).2
  rw [tz_mul _ (by omega), tz_low hp this]
theorem tz_zero : tz 0 = 0 := by unfold tz; rfl
theorem word_bit (w r k : Nat) (hk : k < 64) : (w + 18446744073709551616 * r) / 2 ^ k % 2 = w / 2 ^ k % 2 := by
  rw [B64, show (64 : Nat) = k + (63 - k + 1) by omega, Nat.pow_add, Nat.mul_assoc, Nat.add_mul_div_left _ _ (Nat.pow_pos (by omega)), Nat.pow_succ, Nat.mul_comm (2 ^ _) 2, Nat.mul_assoc]
  omega
theorem val_shr {x : List Nat} (hw : Ws x) (i : Nat) : val x / 2 ^ (64 * i) = val (x.drop i) := by
  by_cases h : i ≤ x.length
  · rw [val_take x i, List.length_take, Nat.min_eq_left h, B64_pow, Nat.add_mul_div_left _ _ (Nat.pow_pos (by omega)), Nat.div_eq_of_lt (val_take_lt hw h), Nat.zero_add]
  · rw [List.drop_eq_nil_of_le (by omega)]
    refine Nat.div_eq_of_lt (Nat.lt_of_lt_of_le (val_lt hw) ?_)
    rw [B64_pow]
    exact Nat.pow_le_pow_right (by omega) (by omega)
theorem val_bit {x : List Nat} (hw : Ws x) (i : Nat) : val x / 2 ^ i % 2 = x[i / 64]?.getD 0 / 2 ^ (i % 64) % 2 := by
  rw [show 2 ^ i = 2 ^ (64 * (i / 64)) * 2 ^ (i % 64) by rw [← Nat.pow_add]; congr 1; omega, ← Nat.div_div_eq_div_mul, val_shr hw, val_drop, word_bit _ _ _ (by omega)]
theorem val_lt_len {x y : List Nat} (wx : Ws x) (cy : Cn y) (h : x.length < y.length) : val x < val y := by
  have a := val_lt wx
  rw [B64_pow] at a
  have b := val_last (x := y) (by omega)
  have c := cy.last (List.length_pos_iff.1 (by omega))
  have d := Nat.mul_le_mul_left (2 ^ (64 * (y.length - 1))) (Nat.pos_of_ne_zero c)
  have e : 2 ^ (64 * x.length) ≤ 2 ^ (64 * (y.length - 1)) := Nat.pow_le_pow_right (by omega) (by omega)
  omega
theorem getD_ext : ∀ {x y : List Nat}, x.length = y.length → (∀ j : Nat, x[j]?.getD 0 = y[j]?.getD 0) → x = y := fun {x y} hl h => by
  refine List.ext_getElem? fun i => ?_
  by_cases hi : i < x.length
  · have := h i
    rw [List.getElem?_eq_getElem hi, List.getElem?_eq_getElem (by omega)] at this ⊢
    simpa using this
  · rw [List.getElem?_eq_none (by omega), List.getElem?_eq_none (by omega)]
theorem val_lt_top {x y : List Nat} (wx : Ws x) (hl : x.length = y.length) {i : Nat} (hi : i < x.length) (hz : ∀ j : Nat, i < j → x[j]?.getD 0 = y[j]?.getD 0) (h : x[i]?.getD 0 < y[i]?.getD 0) : val x < val y := by
  have e : x.drop (i + 1) = y.drop (i + 1) := getD_ext (by simp [hl]) fun j => by
    simp only [List.getElem?_drop]; exact hz _ (by omega)
  have a := val_take_lt wx (n := i) (by omega)
  rw [val_take x i, val_take y i, List.length_take, List.length_take, Nat.min_eq_left (by omega), Nat.min_eq_left (by omega), B64_pow, val_drop x, val_drop y, e]
  have b := Nat.mul_le_mul_left (2 ^ (64 * i)) (show x[i]?.getD 0 + 18446744073709551616 * val (y.drop (i + 1)) + 1 ≤ y[i]?.getD 0 + 18446744073709551616 * val (y.drop (i + 1)) by omega)
  rw [Nat.mul_add] at b
  omega
theorem val_take_succ (x : List Nat) (i : Nat) : val (x.take (i + 1)) = val (x.take i) + 18446744073709551616 ^ i * x[i]?.getD 0 := by
  by_cases h : i < x.length
  · rw [List.take_add_one, val_append, List.length_take, Nat.min_eq_left (by omega)]
    simp [h, val]
  · rw [List.take_of_length_le (by omega), List.take_of_length_le (by omega), List.getElem?_eq_none (by omega)]; simp
theorem val_take_set {x : List Nat} {i : Nat} (w : Nat) (h : i < x.length) : val ((x.set i w).take (i + 1)) = val (x.take i) + 18446744073709551616 ^ i * w := by
  rw [val_take_succ, List.take_set_of_le (Nat.le_refl _)]
  simp [h]
theorem Ws.set {x : List Nat} (h : Ws x) {i w : Nat} (hw : w < 18446744073709551616) : Ws (x.set i w) := fun v hv => by
  rcases List.mem_or_eq_of_mem_set hv with h1 | h1
  · exact h v h1
  · rw [h1]; exact hw
theorem Ws.zeros (n : Nat) : Ws (List.replicate n 0) := fun v hv => by rw [List.eq_of_mem_replicate hv]; omega
theorem val_zero_of_ {x : List Nat} (hz : ∀ j : Nat, x[j]?.getD 0 = 0) : val x = 0 := norm_nil.1 (norm_nil_iff.2 hz)
theorem val_zeros (n : Nat) : val (List.replicate n 0) = 0 := val_zero_of_ fun j => by
  by_cases h : j < n <;> simp [List.getElem?_replicate, h]
theorem val_zero_of {x : List Nat} (hz : ∀ j : Nat, x[j]?.getD 0 = 0) : val x = 0 := norm_nil.1 (norm_nil_iff.2 hz)
end Go.Proofs.YtbhokdhkfodpfaaGreatDoor
/- Calls under a test; the steps of a walk as tactics. No condition. -/
namespace Go.Proofs.YtbhokdhkfodpfaaGreatDoor
set_option linter.unusedVariables false
set_option linter.unusedSimpArgs false
section
variable {P : Program} {G : Gl} {nt : Nat} {ops l : List Oper} {st st0 : St} {acc : List Sm} {g : Bool} {o : Oper} {f : FuncId} {x : Operand} {az : Array Operand} {ts : Array TypeId} {p : Prop} {args : List PV} {pur : Bool} {ret : TV} {j : Nat} {want : Bool}
theorem opOk_callg {B : List Nat} (lab : Nat) (hg : o.guard = some (j, want)) (hgo : gOf ops st.tm j want = some g) (hop : o.op = .call { callee := .value x, args := az, argTypes := ts })
    (hx : opv st.tm x = some (.v (.c (.f f)))) (ha : argsOf ⟨unw (tmpsOf az.toList) st.tm, st.ob⟩ az.toList = some (p, args, pur)) (hp : g = true → tests (tmpsOf az.toList) st.tm ∧ p) (hD : g = true → Does P G f args ret) (hl : ret.labs = []) (hf : pur = false ∨ ret.fr = true) (hd : dstOk nt o.dst = true) :
    OpOk P G nt ops B o st ⟨o.dst, some (.gd g ret), .none, lab, labsOf (unw (tmpsOf az.toList) st.tm) az.toList⟩ := by
  refine ⟨rfl, fun cx a W m S hn _ hrd hus hfree hr Q' K hK => ?_⟩
  have hmem : ∀ t, (.tmp t = x ∨ .tmp t ∈ az.toList) → t ∈ rdOf ops o := fun t ht => by
    unfold rdOf
    simp only [List.mem_append]
    refine .inl (.inl (tmpsOf_mem ?_))
    rw [hop]
    rcases ht with e | e
    · simp [Op.operands, Call.operands, e]
    · simp only [Op.operands, Call.operands, Array.toList_append, List.mem_append]; exact .inr e
  have hgS : gOf ops S.tm j want = some g := by
    rw [← hgo]
    unfold gOf
    split
    · rename_i d _ _ _ _ _ hj
      rw [hrd d (by unfold rdOf; simp only [List.mem_append, hg, hj]; exact .inr (by simp))]
    · rfl
  rw [gOf_spec hr hgS hg]
  cases g with
  | false =>
    simp only [Bool.false_eq_true, if_false]
    exact hK _ _ (Rel.put hr hn hd (show RT _ (.gd false ret) undef from ⟨(fun e => by cases e), fun _ => rfl⟩))
  | true =>
    simp only [if_true]
    have hts : tests (tmpsOf az.toList) S.tm := by
      rw [tests_congr (tm' := st.tm) fun t ht => hrd t (hmem t (.inr ?_))]
      · exact (hp rfl).1
      · clear hp hD ha
        generalize az.toList = xs at ht ⊢
        induction xs with
        | nil => simp [tmpsOf] at ht
        | cons y ys ih =>
          cases y with
          | tmp s =>
            simp only [tmpsOf, List.mem_cons] at ht
            rcases ht with rfl | ht
            · simp
            · exact List.mem_cons_of_mem _ (ih ht)
          | _ => simp only [tmpsOf] at ht; exact List.mem_cons_of_mem _ (ih ht)
    have hr2 := hr.unw hts
    have hx' : opv S.tm x = some (.v (.c (.f f))) := by rw [← hx]; exact opv_congr fun t e => hrd t (hmem t (.inl e.symm))
    have hu : ∀ y ∈ az.toList, opv (unw (tmpsOf az.toList) S.tm) y = opv (unw (tmpsOf az.toList) st.tm) y := fun y hy => opv_congr fun t e => by
      rw [lk_unw, lk_unw, hrd t (hmem t (.inr (e ▸ hy)))]
    have ha' : argsOf ⟨unw (tmpsOf az.toList) S.tm, S.ob⟩ az.toList = some (p, args, pur) := by rw [← ha]; exact argsOf_congr (S := ⟨unw (tmpsOf az.toList) S.tm, S.ob⟩) (st := ⟨unw (tmpsOf az.toList) st.tm, st.ob⟩) hu hus
    unfold Oper.wp
    have hxv : a.eval x = .func (.func f) #[] #[] := hr.opv hx'
    have hargs := argsOf_run hr2 ha' (hp rfl).2 pur id
    have hok : ∀ b, okC cx m ⟨unw (tmpsOf az.toList) S.tm, S.ob⟩ W pur b → b < W.heap.size := by
      rintro b (h | ⟨_, j, o, h1, h2⟩)
      · exact h.2.1
      · exact (hr2.own j o b h1 h2).1
    have hexec : execOp a.eval o = callFunc f (az.toList.map a.eval).toArray := by
      have e1 : (az.toList.map a.eval).toArray = az.map a.eval := by apply Array.ext'; simp
      unfold execOp
      simp [hop, resolve, hxv, Deferred.ofValue, invoke, e1]
    have gd_ : ∀ {E : En} {v : Value}, RT E ret v → RT E (.gd true ret) v := fun h => ⟨fun _ => h, fun e => by cases e⟩
    rcases hD rfl W (okC cx m ⟨unw (tmpsOf az.toList) S.tm, S.ob⟩ W pur) _ hok hr2.glOk hargs with ⟨h1, h2⟩ | ⟨v, h1, h2⟩
    · rw [hexec, h1]
      refine h2.mono fun e W' ⟨v, he, hb, hrt⟩ => ?_
      subst he
      have hb2 := hr.below hb
      exact hK _ _ (Rel.put hb2 hn hd (gd_ (call_res hr2 hb hl hf hrt)))
    · rw [hexec, h1]
      have hb := RowKit.Below.refl W.heap.size W
      exact hK _ _ (Rel.put hr hn hd (gd_ (call_res hr2 hb hl hf h2)))
theorem DoL.callg {Q : St → Prop} (md : Bool) (lab : Nat) (hg : o.guard = some (j, want)) (hgo : gOf ops st.tm j want = some g) (hop : o.op = .call { callee := .value x, args := az, argTypes := ts })
    (hx : opv st.tm x = some (.v (.c (.f f)))) (ha : argsOf ⟨unw (tmpsOf az.toList) st.tm, st.ob⟩ az.toList = some (p, args, pur)) (hp : g = true → tests (tmpsOf az.toList) st.tm ∧ p) (hD : g = true → Does P G f args ret) (hl : ret.labs = []) (hf : pur = false ∨ ret.fr = true) (hd : dstOk nt o.dst = true)
    (next : runs P G nt md ops Q lab l ⟨setv o.dst (some (.gd g ret)) st.tm, st.ob⟩) : DoL P G nt ops (o :: l) st Q := by
  intro cx a W hn ⟨m, hr⟩ Q' hQ
  refine wpList_step fun K hK => ?_
  exact (opOk_callg (B := []) 0 hg hgo hop hx ha hp hD hl hf hd).2 cx a W m st hn (fun j hj => by cases hj) (fun _ _ => rfl) (fun _ _ => rfl) (fun h => by cases h) hr Q' K (fun a' W' hr' => hK _ _ (DoL.run next cx _ _ hn hr' Q' hQ))
theorem DoLD.callg {Q : List Sm → St → Prop} (md : Bool) (lab : Nat) (hg : o.guard = some (j, want)) (hgo : gOf ops st.tm j want = some g) (hop : o.op = .call { callee := .value x, args := az, argTypes := ts })
    (hx : opv st.tm x = some (.v (.c (.f f)))) (ha : argsOf ⟨unw (tmpsOf az.toList) st.tm, st.ob⟩ az.toList = some (p, args, pur)) (hp : g = true → tests (tmpsOf az.toList) st.tm ∧ p) (hD : g = true → Does P G f args ret) (hl : ret.labs = []) (hf : pur = false ∨ ret.fr = true) (hd : dstOk nt o.dst = true)
    (next : runsD P G nt md ops st0 Q lab l (acc ++ [⟨labsOf (unw (tmpsOf az.toList) st.tm) az.toList, [], [], none⟩]) ⟨setv o.dst (some (.gd g ret)) st.tm, st.ob⟩) : DoLD P G nt ops st0 Q (o :: l) acc st := by
  refine DoLD.cons (opOk_callg 0 hg hgo hop hx ha hp hD hl hf hd) (fun l hl => by simp [Tr.nw, Eff.isNew] at hl) rfl ?_
  have e1 : Tr.sm ⟨o.dst, some (.gd g ret), .none, 0, labsOf (unw (tmpsOf az.toList) st.tm) az.toList⟩ = ⟨labsOf (unw (tmpsOf az.toList) st.tm) az.toList, [], [], none⟩ := by
    simp [Tr.sm, Tr.wr, Tr.mn, Tr.nw, Tr.ob, Eff.isNew, TV.labs, hl]
  rw [e1]
  exact DoLD.run next
end
end Go.Proofs.YtbhokdhkfodpfaaGreatDoor
/- Steps that touch nothing: a slice that was made in the call stays as it is from here on. No condition. -/
namespace Go.Proofs.YtbhokdhkfodpfaaGreatDoor
set_option linter.unusedVariables false
set_option linter.unusedSimpArgs false
def Ce.frz (j : Nat) (l : List Nat) : Ce → Ce
  | .r k1 n1 => if k1 = j ∧ n1 = l.length then .w true l else .r k1 n1
  | c1 => c1
def csSeal (j : Nat) (l : List Nat) : List Ce → List Ce
  | [] => []
  | c :: cs => c.frz j l :: csSeal j l cs
def PV.frz (j : Nat) (l : List Nat) : PV → PV
  | .c x => .c (x.frz j l)
  | .a cs => .a (csSeal j l cs)
  | .s fr r => .s fr r
def psSeal (j : Nat) (l : List Nat) : List PV → List PV
  | [] => []
  | c :: cs => c.frz j l :: psSeal j l cs
def TV.frz (j : Nat) (l : List Nat) : TV → TV
  | .v x => .v (x.frz j l)
  | .t x => .t (psSeal j l x)
  | .e cs => .e cs
  | .gd c x => .gd c (x.frz j l)
def Ob.frz (j : Nat) (l : List Nat) : Ob → Ob
  | .box cs => .box (csSeal j l cs)
  | o => o
def tmSeal (j : Nat) (l : List Nat) : List (Nat × TV) → List (Nat × TV)
  | [] => []
  | (t, x) :: r => (t, x.frz j l) :: tmSeal j l r
def obSeal (j : Nat) (l : List Nat) : List (Nat × Ob) → List (Nat × Ob)
  | [] => []
  | (t, x) :: r => if t = j then obSeal j l r else (t, x.frz j l) :: obSeal j l r
def St.frz (j : Nat) (l : List Nat) (st : St) : St := ⟨tmSeal j l st.tm, obSeal j l st.ob⟩
theorem lk_tmSeal (j : Nat) (l : List Nat) (t : Nat) : ∀ tm : List (Nat × TV), lk t (tmSeal j l tm) = (lk t tm).map (TV.frz j l)
  | [] => rfl
  | (k, x) :: r => by
    simp only [tmSeal, lk]
    split
    · rfl
    · exact lk_tmSeal j l t r
theorem lk_obSeal (j : Nat) (l : List Nat) (t : Nat) : ∀ ob : List (Nat × Ob), lk t (obSeal j l ob) = if t = j then none else (lk t ob).map (Ob.frz j l)
  | [] => by simp [obSeal, lk]
  | (k, x) :: r => by
    simp only [obSeal, lk]
    by_cases hk : k = j
    · subst hk
      rw [if_pos rfl, lk_obSeal k l t r]
      by_cases ht : t = k
      · simp [ht]
      · simp [ht, Ne.symm ht]
    · rw [if_neg hk]
      simp only [lk]
      by_cases ht : k = t
      · subst ht; simp [hk]
      · simp [ht, lk_obSeal j l t r]
/-- Before and behind. -/
structure Sealed (j : Nat) (l : List Nat) (E E' : En) : Prop where
  ok : ∀ b, E.ok b → E'.ok b
  W : E'.W = E.W
  B : E'.B = E.B
  m : E'.m = E.m
  ob : ∀ k o', E'.ob k = some o' → ∃ o, E.ob k = some o ∧ o' = o.frz j l
  row : ∀ v, RC E (.r j l.length) v → RC E' (.w true l) v
variable {j : Nat} {l : List Nat} {E E' : En}
theorem Ob.seal_sz (o : Ob) : (o.frz j l).sz = o.sz ∧ (o.frz j l).len = o.len ∧ (o.frz j l).isBox = o.isBox := by cases o <;> exact ⟨rfl, rfl, rfl⟩
theorem RC.frz (h : Sealed j l E E') {c : Ce} {v : Value} (hx : RC E c v) : RC E' (c.frz j l) v := by
  cases c with
  | w fr r =>
    obtain ⟨a, k, h1, h2, h3⟩ := hx
    exact ⟨a, k, h1, h2, fun i x hi => let ⟨ad, g1, g2, g3, g4⟩ := h3 i x hi; ⟨ad, g1, h.ok _ g2, fun e => by rw [h.B]; exact g3 e, by rw [h.W]; exact g4⟩⟩
  | p k off =>
    refine ⟨hx.1, fun cs hcs => ?_⟩
    obtain ⟨o, h1, h2⟩ := h.ob k _ hcs
    cases o with
    | box ds => rw [h.m]; exact hx.2 ds h1
    | _ => simp [Ob.frz] at h2
  | q k n i off =>
    refine ⟨hx.1, fun o' ho' hle => ?_⟩
    obtain ⟨o, h1, h2⟩ := h.ob k _ ho'
    obtain ⟨s1, s2, s3⟩ := Ob.seal_sz (j := j) (l := l) o
    rw [h2, s2] at hle ⊢
    rw [s1, h.m]
    exact hx.2 o h1 hle
  | r k n =>
    simp only [Ce.frz]
    split
    · rename_i hk
      obtain ⟨rfl, rfl⟩ := hk
      exact h.row v hx
    · refine ⟨hx.1, fun o' ho' hle => ?_⟩
      obtain ⟨o, h1, h2⟩ := h.ob k _ ho'
      obtain ⟨s1, s2, s3⟩ := Ob.seal_sz (j := j) (l := l) o
      rw [h2, s2] at hle ⊢
      rw [s1, h.m, h.W]
      exact hx.2 o h1 hle
  | x s => exact s.mono _ _ _ _ _ h.ok (fun b _ => by rw [h.W]) hx
  | _ => exact hx
theorem csSeal_RC (h : Sealed j l E E') : ∀ {cs : List Ce} {vs : List Value}, All2 (RC E) cs vs → All2 (RC E') (csSeal j l cs) vs
  | [], _, hx => hx.nil_iff ▸ .nil
  | c :: cs, _, hx => by obtain ⟨u, us, rfl, g1, g2⟩ := hx.cons_iff; exact .cons (RC.frz h g1) (csSeal_RC h g2)
theorem Ce.seal_pure {c : Ce} (h : c.pure = true) : c.frz j l = c := by cases c <;> first | rfl | (simp [Ce.pure] at h)
theorem RCs.frz (h : Sealed j l E E') {cs : List Ce} {vs : List Value} (hx : RCs E cs vs) : RCs E' cs vs :=
  ⟨hx.1, hx.2.mono' fun c hc v hv => by have := RC.frz h hv; rwa [Ce.seal_pure (hx.1 c hc)] at this⟩
theorem RP.frz (h : Sealed j l E E') {x : PV} {v : Value} (hx : RP E x v) : RP E' (x.frz j l) v := by
  cases x with
  | c x => exact RC.frz h hx
  | a cs => obtain ⟨vs, h1, h2⟩ := hx; exact ⟨vs, h1, csSeal_RC h h2⟩
  | s fr r =>
    obtain ⟨a, c, sz, h1, h2, h3⟩ := hx
    refine ⟨a, c, sz, h1, h2, fun i cs hi => ?_⟩
    obtain ⟨g1, ad, g2, g3, g4, vs, g5, g6⟩ := h3 i cs hi
    exact ⟨g1, ad, g2, h.ok _ g3, fun e => by rw [h.B]; exact g4 e, vs, RCs.frz h g5, by rw [h.W]; exact g6⟩
theorem psSeal_RP (h : Sealed j l E E') : ∀ {cs : List PV} {vs : List Value}, All2 (RP E) cs vs → All2 (RP E') (psSeal j l cs) vs
  | [], _, hx => hx.nil_iff ▸ .nil
  | c :: cs, _, hx => by obtain ⟨u, us, rfl, g1, g2⟩ := hx.cons_iff; exact .cons (RP.frz h g1) (psSeal_RP h g2)
theorem RT.frz (h : Sealed j l E E') {x : TV} : ∀ {v : Value}, RT E x v → RT E' (x.frz j l) v := by
  induction x with
  | v x => intro v hx; exact RP.frz h hx
  | t x => intro v hx; obtain ⟨vs, h1, h2⟩ := hx; exact ⟨vs, h1, psSeal_RP h h2⟩
  | e cs => intro v hx; obtain ⟨ad, h1, h2, vs, h3, h4⟩ := hx; exact ⟨ad, h1, h.ok _ h2, vs, RCs.frz h h3, by rw [h.W]; exact h4⟩
  | gd c x ih => intro v hx; exact ⟨fun e => ih (hx.1 e), hx.2⟩
section
variable {P : Program} {G : Gl} {nt : Nat} {st : St} {cx : Cx} {a : Act} {W : World} {m : Nat → Option Nat} {QE : Exit → St → Prop}
theorem lk_seal_ob {k : Nat} {o' : Ob} (h : lk k (obSeal j l st.ob) = some o') : k ≠ j ∧ ∃ o, lk k st.ob = some o ∧ o' = o.frz j l := by
  rw [lk_obSeal] at h
  split at h
  · cases h
  · rename_i hk
    cases ho : lk k st.ob with
    | none => simp [ho] at h
    | some o => simp [ho] at h; exact ⟨hk, o, rfl, h.symm⟩
theorem RelM.frz (h : RelM G cx m st a W) (hj : lk j st.ob = some (.wr l)) : RelM G cx m (st.frz j l) a W := by
  have hs : Sealed j l (en cx m st.ob W) (en cx m (st.frz j l).ob W) := by
    refine ⟨fun b ⟨g1, g2, g3⟩ => ⟨g1, g2, fun k o' hk => ?_⟩, rfl, rfl, rfl, fun k o' hk => (lk_seal_ob hk).2, fun v hv => ?_⟩
    · obtain ⟨_, o, h1, h2⟩ := lk_seal_ob hk
      exact g3 k o h1
    · refine row_words h hj rfl hv rfl true fun b hb => ?_
      obtain ⟨g1, g2⟩ := h.own j _ b hj hb
      have hB : cx.B ≤ b := g2.elim id fun e => by simp [Ob.isBox] at e
      refine ⟨⟨.inr hB, g1, fun k o' hk hm => ?_⟩, fun _ => hB⟩
      obtain ⟨hne, o, h1, h2⟩ := lk_seal_ob hk
      exact hne (h.inj k j o _ b h1 hj hm hb)
  exact { h with
    tm := fun t x hx => by
      have hx' : lk t (tmSeal j l st.tm) = some x := hx
      rw [lk_tmSeal] at hx'
      cases hl : lk t st.tm with
      | none => simp [hl] at hx'
      | some y =>
        simp [hl] at hx'
        obtain ⟨v, h1, h2⟩ := h.tm t y hl
        exact ⟨v, h1, by subst hx'; exact RT.frz hs h2⟩
    ob := fun k o' hk => by
      obtain ⟨hne, o, h1, h2⟩ := lk_seal_ob hk
      have h3 := h.ob k o h1
      subst h2
      cases o with
      | box cs =>
        obtain ⟨b, vs, e, g1, g2, g3⟩ := h3
        exact ⟨b, vs, e, g1, g2, csSeal_RC hs g3⟩
      | wr r => exact h3
      | sr sz r =>
        rcases h3 with h3 | ⟨b, vs, e, g1, g2, g3⟩
        · exact .inl h3
        · exact .inr ⟨b, vs, e, g1, g2, fun i cs hi => let ⟨q1, us, q2, q3⟩ := g3 i cs hi; ⟨q1, us, RCs.frz hs q2, q3⟩⟩
    pin := fun o' ho' => by
      obtain ⟨_, o, q1, rfl⟩ := lk_seal_ob ho'
      rw [(Ob.seal_sz o).2.2]; exact h.pin o q1
    inj := fun k k' o1 o2 b h1 h2 => by
      obtain ⟨_, p1, q1, _⟩ := lk_seal_ob h1
      obtain ⟨_, p2, q2, _⟩ := lk_seal_ob h2
      exact h.inj k k' p1 p2 b q1 q2
    own := fun k o' b h1 h2 => by
      obtain ⟨_, o, q1, rfl⟩ := lk_seal_ob h1
      rw [(Ob.seal_sz o).2.2]
      exact h.own k o b q1 h2 }
/-- The words of an object stay as they are from here on. -/
theorem Do.frz {c : Code} (j : Nat) {l : List Nat} (hj : lk j st.ob = some (.wr l)) (h : Do P G nt c (st.frz j l) QE) : Do P G nt c st QE :=
  fun cx a W hn ⟨m, hr⟩ => h cx a W hn ⟨m, hr.frz hj⟩
end
attribute [go_sem] St.frz tmSeal obSeal TV.frz PV.frz psSeal csSeal Ce.frz Ob.frz
end Go.Proofs.YtbhokdhkfodpfaaGreatDoor
/- Steps that touch nothing: an empty slice as a row of the call's own. No condition. -/
namespace Go.Proofs.YtbhokdhkfodpfaaGreatDoor
set_option linter.unusedVariables false
set_option linter.unusedSimpArgs false
section
variable {P : Program} {G : Gl} {nt : Nat} {st : St} {cx : Cx} {a : Act} {W : World} {m : Nat → Option Nat} {QE : Exit → St → Prop}
theorem RelM.empty (h : RelM G cx m st a W) {lab sz : Nat} (hf : st.free lab = true) : RelM G cx (upd m lab Option.none) ⟨st.tm, put lab (.sr sz []) st.ob⟩ a W := by
  obtain ⟨f1, f2, f3⟩ := St.free_spec hf
  have he : EnLe (· ≠ lab) (en cx m st.ob W) (en cx (upd m lab Option.none) (put lab (.sr sz []) st.ob) W) := by
    refine ⟨fun b ⟨g1, g2, g3⟩ => ⟨g1, g2, fun j o hj hm => ?_⟩, fun _ _ => rfl, Nat.le_refl _, fun j hj o' ho => ?_⟩
    · by_cases hjl : j = lab
      · subst hjl; rw [upd_self] at hm; cases hm
      · rw [upd_ne _ _ hjl] at hm; rw [lk_put_ne _ _ hjl] at hj; exact g3 j o hj hm
    · have ho' : lk j (put lab (.sr sz []) st.ob) = some o' := ho
      rw [lk_put_ne _ _ hj] at ho'
      exact ⟨o', ho', rfl, rfl, Nat.le_refl _, fun _ => ⟨upd_ne _ _ hj, fun b _ => rfl⟩⟩
  refine h.move he (fun t x hx j hj e => f1 t x hx (e ▸ hj)) (Nat.le_refl _) rfl rfl rfl (fun _ _ _ => rfl) (fun j o' hj => ?_) (fun j j' o1 o2 b h1 h2 h3 h4 => ?_) (fun j o' b h1 h2 => ?_) (fun o' ho' => by
    have hne := Ne.symm (St.free_pin hf)
    rw [lk_put_ne _ _ hne] at ho'; rw [upd_ne _ _ hne]; exact h.pin o' ho')
  · by_cases hjl : j = lab
    · subst hjl; rw [lk_put_self] at hj; injection hj with hj; subst hj
      exact .inl ⟨rfl, upd_self _ _ _⟩
    · rw [lk_put_ne _ _ hjl] at hj
      exact RO.mono he (fun k hk e => f3 j o' hj (e ▸ hk)) (upd_ne _ _ hjl) (fun b hb => rfl) (h.ob j o' hj)
  · by_cases e1 : j = lab
    · subst e1; rw [upd_self] at h3; cases h3
    · by_cases e2 : j' = lab
      · subst e2; rw [upd_self] at h4; cases h4
      · rw [upd_ne _ _ e1] at h3; rw [upd_ne _ _ e2] at h4; rw [lk_put_ne _ _ e1] at h1; rw [lk_put_ne _ _ e2] at h2
        exact h.inj j j' o1 o2 b h1 h2 h3 h4
  · by_cases hjl : j = lab
    · subst hjl; rw [upd_self] at h2; cases h2
    · rw [upd_ne _ _ hjl] at h2; rw [lk_put_ne _ _ hjl] at h1
      exact h.own j o' b h1 h2
/-- An empty slice in a slot, as a row of the call's own. -/
theorem Do.own {c : Code} (t lab sz : Nat) (ht : lk t st.tm = some (.v (.c .z))) (hf : st.free lab = true) (hd : t < nt) (h : Do P G nt c ⟨put t (.v (.c (.r lab 0))) st.tm, put lab (.sr sz []) st.ob⟩ QE) : Do P G nt c st QE := by
  intro cx a W hn ⟨m, hr⟩
  have h1 := hr.empty (sz := sz) hf
  obtain ⟨v, hv, hrt⟩ := hr.tm t _ ht
  have hz : v = .slice none 0 0 := hrt
  subst hz
  refine h cx a W hn ⟨upd m lab Option.none, { h1 with tm := fun s x hx => ?_ }⟩
  by_cases hs : s = t
  · subst hs
    rw [lk_put_self] at hx
    injection hx with hx
    subst hx
    refine ⟨_, hv, rfl, fun o ho hle => ?_⟩
    have ho' : lk lab (put lab (.sr sz []) st.ob) = some o := ho
    rw [lk_put_self] at ho'; injection ho' with ho'; subst ho'
    exact ⟨rfl, .inl ⟨rfl, rfl, upd_self _ _ _⟩⟩
  · rw [lk_put_ne _ _ hs] at hx
    exact h1.tm s x hx
end
end Go.Proofs.YtbhokdhkfodpfaaGreatDoor
/- A loop of which only some slots turn. No condition. -/
namespace Go.Proofs.YtbhokdhkfodpfaaGreatDoor
set_option linter.unusedVariables false
set_option linter.unusedSimpArgs false
/-- These places, turned. -/
def mixT {α : Type} (s : List (Nat × α)) : List (Nat × α) → List (Nat × α)
  | [] => []
  | (k, v) :: r => (k, match lk k s with
    | some x => x
    | none => v) :: mixT s r
def mixS (ks : List Nat) (s : List (Nat × TV)) (o : List (Nat × Ob)) (st : St) : St := ⟨mixT s (keep ks st.tm), mixT o st.ob⟩
attribute [go_sem] mixT
section
variable {P : Program} {G : Gl} {nt : Nat} {st : St} {QE : Exit → St → Prop}
theorem Do.loopF {α : Type} {c : Code} (ks : List Nat) (S : α → List (Nat × TV)) (O : α → List (Nat × Ob)) (I : α → Prop) (μ : α → Nat) (x : α) {S' : α → St} (hS : ∀ x, mixS ks (S x) (O x) st = S' x) (h0 : (S' x).le st) (hI : I x)
    (hround : ∀ x, I x → Do P G nt c (S' x) (thenQ (Round S' I μ x) QE)) : Do P G nt (.loop c) st QE := Do.loop S' I μ x h0 hI hround
end
end Go.Proofs.YtbhokdhkfodpfaaGreatDoor
/- Rows that stay as they are from here on; calls whose result the caller alone holds. No condition. -/
namespace Go.Proofs.YtbhokdhkfodpfaaGreatDoor
set_option linter.unusedVariables false
set_option linter.unusedSimpArgs false
def PV.sealS (j : Nat) (l : List (List Ce)) : PV → PV
  | .c (.r k n) => if k = j ∧ n = l.length then .s true l else .c (.r k n)
  | x => x
def psSealS (j : Nat) (l : List (List Ce)) : List PV → List PV
  | [] => []
  | c :: cs => c.sealS j l :: psSealS j l cs
def TV.sealS (j : Nat) (l : List (List Ce)) : TV → TV
  | .v x => .v (x.sealS j l)
  | .t x => .t (psSealS j l x)
  | .e cs => .e cs
  | .gd c x => .gd c (x.sealS j l)
def tmSealS (j : Nat) (l : List (List Ce)) : List (Nat × TV) → List (Nat × TV)
  | [] => []
  | (t, x) :: r => (t, x.sealS j l) :: tmSealS j l r
def St.sealS (j : Nat) (l : List (List Ce)) (st : St) : St := ⟨tmSealS j l st.tm, del j st.ob⟩
theorem lk_tmSealS (j : Nat) (l : List (List Ce)) (t : Nat) : ∀ tm : List (Nat × TV), lk t (tmSealS j l tm) = (lk t tm).map (TV.sealS j l)
  | [] => rfl
  | (k, x) :: r => by
    simp only [tmSealS, lk]
    split
    · rfl
    · exact lk_tmSealS j l t r
section
variable {P : Program} {G : Gl} {nt : Nat} {st : St} {cx : Cx} {a : Act} {W W' : World} {m : Nat → Option Nat} {QE : Exit → St → Prop} {ops l : List Oper} {Q : St → Prop}
theorem RelM.sealS (h : RelM G cx m st a W) {j sz : Nat} {l : List (List Ce)} (hj : lk j st.ob = some (.sr sz l)) : RelM G cx m (st.sealS j l) a W := by
  have hd : ∀ k o, lk k (del j st.ob) = some o → k ≠ j ∧ lk k st.ob = some o := fun k o hk => by
    rw [lk_del] at hk
    split at hk
    · cases hk
    · rename_i hne; exact ⟨hne, hk⟩
  have h1 := h.fewer (del j st.ob) fun k o hk => (hd k o hk).2
  have he : EnLe (fun _ => True) (en cx m st.ob W) (en cx m (del j st.ob) W) :=
    ⟨fun b ⟨g1, g2, g3⟩ => ⟨g1, g2, fun k o hk => g3 k o (hd k o hk).2⟩, fun _ _ => rfl, Nat.le_refl _, fun k _ o ho => ⟨o, (hd k o ho).2, rfl, rfl, Nat.le_refl _, fun _ => ⟨rfl, fun _ _ => rfl⟩⟩⟩
  have hp : ∀ (x : PV) v, RP (en cx m st.ob W) x v → RP (en cx m (del j st.ob) W) (x.sealS j l) v := fun x v hx => by
    unfold PV.sealS
    split
    · rename_i k n
      split
      · rename_i hk
        obtain ⟨rfl, rfl⟩ := hk
        refine row_structs h hj rfl hx he rfl true fun b hb => ?_
        obtain ⟨g1, g2⟩ := h.own k _ b hj hb
        have hB : cx.B ≤ b := g2.elim id fun e => by simp [Ob.isBox] at e
        refine ⟨⟨.inr hB, g1, fun k' o hk' hm => ?_⟩, fun _ => hB⟩
        obtain ⟨hne, h3⟩ := hd k' o hk'
        exact hne (h.inj k' k o _ b h3 hj hm hb)
      · exact RP.mono he (fun _ _ => trivial) hx
    · exact RP.mono he (fun _ _ => trivial) hx
  have hps : ∀ (xs : List PV) (us : List Value), All2 (RP (en cx m st.ob W)) xs us → All2 (RP (en cx m (del j st.ob) W)) (psSealS j l xs) us := fun xs => by
    induction xs with
    | nil => intro us hx; exact hx.nil_iff ▸ .nil
    | cons x xs ih => intro us hx; obtain ⟨u, us', rfl, g1, g2⟩ := hx.cons_iff; exact .cons (hp _ _ g1) (ih _ g2)
  have ht : ∀ (x : TV) v, RT (en cx m st.ob W) x v → RT (en cx m (del j st.ob) W) (x.sealS j l) v := fun x => by
    induction x with
    | v x => intro v hx; exact hp _ _ hx
    | t x => intro v hx; obtain ⟨vs, q1, q2⟩ := hx; exact ⟨vs, q1, hps _ _ q2⟩
    | e cs => intro v hx; exact RT.mono he (fun _ _ => trivial) (x := .e cs) hx
    | gd c x ih => intro v hx; exact ⟨fun e => ih v (hx.1 e), hx.2⟩
  exact { h1 with
    tm := fun t x hx => by
      have hx' : lk t (tmSealS j l st.tm) = some x := hx
      rw [lk_tmSealS] at hx'
      cases hl : lk t st.tm with
      | none => simp [hl] at hx'
      | some y =>
        simp [hl] at hx'
        obtain ⟨v, q1, q2⟩ := h.tm t y hl
        exact ⟨v, q1, by subst hx'; exact ht _ _ q2⟩ }
/-- The structs of an object stay as they are from here on. -/
theorem Do.sealS {c : Code} (j : Nat) {sz : Nat} {l : List (List Ce)} (hj : lk j st.ob = some (.sr sz l)) (h : Do P G nt c (st.sealS j l) QE) : Do P G nt c st QE :=
  fun cx a W hn ⟨m, hr⟩ => h cx a W hn ⟨m, hr.sealS hj⟩
theorem DoL.sealS (md : Bool) (lab j : Nat) {sz : Nat} {rs : List (List Ce)} (hj : lk j st.ob = some (.sr sz rs)) (h : runs P G nt md ops Q lab l (st.sealS j rs)) : DoL P G nt ops l st Q :=
  fun cx a W hn ⟨m, hr⟩ => DoL.run h cx a W hn ⟨m, hr.sealS hj⟩
theorem DoL.frz (md : Bool) (lab j : Nat) {ws : List Nat} (hj : lk j st.ob = some (.wr ws)) (h : runs P G nt md ops Q lab l (st.frz j ws)) : DoL P G nt ops l st Q :=
  fun cx a W hn ⟨m, hr⟩ => DoL.run h cx a W hn ⟨m, hr.frz hj⟩
/-- A row that a call has made, where its one owner sees it. -/
def enO (W W' : World) (ok : Nat → Prop) (bo : Option Nat) (o : Ob) : En := ⟨W', fun b => ((ok b ∨ W.heap.size ≤ b) ∧ b < W'.heap.size) ∧ bo ≠ some b, W.heap.size, fun j => if j = 0 then bo else none, fun j => if j = 0 then some o else none⟩
/-- What a call computes whose first result is a row that its caller alone holds. -/
def DoesO (P : Program) (G : Gl) (f : FuncId) (args : List PV) (sz : Nat) (rows : List (List Ce)) (rest : List PV) : Prop :=
  ∀ (W : World) (ok : Nat → Prop) (vals : List Value), (∀ b, ok b → b < W.heap.size) → GlOk G W → All2 (RP (enA W ok)) args vals →
    (callFunc f vals.toArray).run P W = .ok (.enter f vals.toArray) W ∧ Calls P f vals.toArray W (fun e W' => ∃ sv us bo, e = .returned (.tuple (sv :: us).toArray) ∧ RowKit.Below W.heap.size W W' ∧ (∀ b, bo = some b → W.heap.size ≤ b ∧ b < W'.heap.size) ∧
      RC (enO W W' ok bo (.sr sz rows)) (.r 0 rows.length) sv ∧ RO (enO W W' ok bo (.sr sz rows)) 0 (.sr sz rows) ∧ All2 (RP (enO W W' ok bo (.sr sz rows))) rest us)
theorem enO_le (W W' : World) (ok : Nat → Prop) (bo : Option Nat) (o : Ob) : EnLe (fun _ => False) (enO W W' ok bo o) (enR W W' ok) :=
  ⟨fun b h => h.1, fun _ _ => rfl, Nat.le_refl _, fun _ hF => hF.elim⟩
/-- The same with a row that nobody writes. -/
theorem DoesO.does {f : FuncId} {args : List PV} {sz : Nat} {rows : List (List Ce)} {rest : List PV} (h : DoesO P G f args sz rows rest) (hl : rest.flatMap PV.labs = []) (hne : rest ≠ []) : Does P G f args (.t (.s true rows :: rest)) := by
  intro W ok vals hok hgl hargs
  obtain ⟨h1, h2⟩ := h W ok vals hok hgl hargs
  refine .inl ⟨h1, h2.mono ?_⟩
  rintro e W' ⟨sv, us, bo, rfl, hb, hbo, q1, q2, q3⟩
  refine ⟨_, rfl, hb, _, rfl, .cons ?_ (q3.mono' fun c hc v hv => RP.mono (enO_le W W' ok bo _) (fun j hj => ?_) hv)⟩
  · obtain ⟨_, k2⟩ := q1.2 (.sr sz rows) rfl (Nat.le_refl _)
    rcases k2 with ⟨z1, z2, z3⟩ | ⟨b, cap, e1, z1, z2, z3, z4⟩
    · have : rows = [] := List.length_eq_zero_iff.1 z1
      subst this; subst z2
      exact PLe.zs true _ _ rfl
    · have hbo' : bo = some b := z1
      obtain ⟨k3, k4⟩ := hbo b hbo'
      refine ⟨_, cap, sz, z2, z3, fun i cs hi => ?_⟩
      rcases q2 with ⟨y1, y2⟩ | ⟨b', vs, e2, r1, r2, r3⟩
      · subst y1; simp at hi
      obtain rfl := some_unique (show bo = some b from hbo') (show bo = some b' from r1)
      obtain ⟨g1, us', g2, g3⟩ := r3 i cs hi
      refine ⟨g1, _, rfl, ⟨.inr k3, k4⟩, fun _ => k3, us', g2.mono (enO_le W W' ok bo _), fun q u hq => ?_⟩
      rw [addr_add0, addr_add0]
      show W'.cell? _ = _
      simp only [World.cell?]
      rw [show W'.heap[_]? = _ from r2]
      simpa using g3 q u hq
  · have : j ∈ rest.flatMap PV.labs := List.mem_flatMap.2 ⟨c, hc, hj⟩
    rw [hl] at this; cases this
/-- An object that a call has made. -/
theorem RelM.adopt (h : RelM G cx m st a W) (hb : RowKit.Below W.heap.size W W') {lab : Nat} (hf : st.free lab = true) {bo : Option Nat} (hbo : ∀ b, bo = some b → W.heap.size ≤ b ∧ b < W'.heap.size) {o : Ob}
    (ho : RO (en cx (upd m lab bo) (put lab o st.ob) W') lab o) : RelM G cx (upd m lab bo) ⟨st.tm, put lab o st.ob⟩ a W' := by
  obtain ⟨f1, f2, f3⟩ := St.free_spec hf
  have he : EnLe (· ≠ lab) (en cx m st.ob W) (en cx (upd m lab bo) (put lab o st.ob) W') := by
    refine ⟨fun b ⟨g1, g2, g3⟩ => ⟨g1, Nat.lt_of_lt_of_le g2 hb.size, fun j o' hj => ?_⟩, fun b ⟨g1, g2, g3⟩ => hb.block b g2, Nat.le_refl _, fun j hj o' ho' => ?_⟩
    · by_cases hjl : j = lab
      · subst hjl; rw [upd_self]; intro e; have := (hbo b e).1; omega
      · rw [upd_ne _ _ hjl]; rw [lk_put_ne _ _ hjl] at hj; exact g3 j o' hj
    · have ho2 : lk j st.ob = some o' := by rw [← lk_put_ne o st.ob hj]; exact ho'
      exact ⟨o', ho2, rfl, rfl, Nat.le_refl _, fun _ => ⟨upd_ne _ _ hj, fun b hmb => shape_of_heap (hb.block b (h.own j o' b ho2 hmb).1)⟩⟩
  refine h.move he (fun t x hx j hj e => f1 t x hx (e ▸ hj)) hb.size hb.os hb.tape hb.output (fun b hlt _ => hb.block b (Nat.lt_of_lt_of_le hlt h.size)) (fun j o' hj => ?_) (fun j j' o1 o2 b h1 h2 h3 h4 => ?_) (fun j o' b h1 h2 => ?_) (fun o' ho' => by
    have hne := Ne.symm (St.free_pin hf)
    rw [lk_put_ne _ _ hne] at ho'; rw [upd_ne _ _ hne]
    obtain ⟨g1, b, g2, g3, g4⟩ := h.pin o' ho'
    exact ⟨g1, b, g2, g3, (shape_of_heap (hb.block b (h.own _ o' b ho' g2).1)).trans g4⟩)
  · by_cases hjl : j = lab
    · subst hjl; rw [lk_put_self] at hj; injection hj with hj; subst hj; exact ho
    · rw [lk_put_ne _ _ hjl] at hj
      exact RO.mono he (fun k hk e => f3 j o' hj (e ▸ hk)) (upd_ne _ _ hjl) (fun b hmb => hb.block b (h.own j o' b hj hmb).1) (h.ob j o' hj)
  · by_cases e1 : j = lab <;> by_cases e2 : j' = lab
    · rw [e1, e2]
    · subst e1; rw [upd_self] at h3; rw [upd_ne _ _ e2] at h4; rw [lk_put_ne _ _ e2] at h2
      have := (hbo b h3).1; have := (h.own j' o2 b h2 h4).1; omega
    · subst e2; rw [upd_self] at h4; rw [upd_ne _ _ e1] at h3; rw [lk_put_ne _ _ e1] at h1
      have := (hbo b h4).1; have := (h.own j o1 b h1 h3).1; omega
    · rw [upd_ne _ _ e1] at h3; rw [upd_ne _ _ e2] at h4; rw [lk_put_ne _ _ e1] at h1; rw [lk_put_ne _ _ e2] at h2
      exact h.inj j j' o1 o2 b h1 h2 h3 h4
  · by_cases e1 : j = lab
    · subst e1; rw [upd_self] at h2; exact ⟨(hbo b h2).2, .inl (Nat.le_trans h.size (hbo b h2).1)⟩
    · rw [upd_ne _ _ e1] at h2; rw [lk_put_ne _ _ e1] at h1
      have := h.own j o' b h1 h2
      exact ⟨Nat.lt_of_lt_of_le this.1 hb.size, this.2⟩
theorem enO_en (h : RelM G cx m st a W) (hb : RowKit.Below W.heap.size W W') {lab : Nat} {bo : Option Nat} {o : Ob} : EnLe (fun _ => False) (enO W W' (okC cx m st W false) bo o) (en cx (upd m lab bo) (put lab o st.ob) W') := by
  refine ⟨fun b ⟨⟨g1, g2⟩, g3⟩ => ?_, fun _ _ => rfl, h.size, fun _ hF => hF.elim⟩
  have hnew : ∀ j o', lk j (put lab o st.ob) = some o' → j = lab → upd m lab bo j ≠ some b := fun j o' _ hj e => by subst hj; rw [upd_self] at e; exact g3 e
  rcases g1 with (g1 | ⟨e, _⟩) | g1
  · refine ⟨g1.1, g2, fun j o' hj => ?_⟩
    by_cases hjl : j = lab
    · exact hnew j o' hj hjl
    · rw [upd_ne _ _ hjl]; rw [lk_put_ne _ _ hjl] at hj; exact g1.2.2 j o' hj
  · cases e
  · refine ⟨.inr (Nat.le_trans h.size g1), g2, fun j o' hj => ?_⟩
    by_cases hjl : j = lab
    · exact hnew j o' hj hjl
    · rw [upd_ne _ _ hjl]; rw [lk_put_ne _ _ hjl] at hj
      intro e; have := (h.own j o' b hj e).1; omega
/-- A call whose first result is a row of this function's own from here on. -/
theorem DoL.callO {o : Oper} {f : FuncId} {x : Operand} {az : Array Operand} {ts : Array TypeId} {p : Prop} {args : List PV} {sz : Nat} {rows : List (List Ce)} {rest : List PV} (md : Bool) (lab lo : Nat) (hg : o.guard = none) (hop : o.op = .call { callee := .value x, args := az, argTypes := ts })
    (hx : opv st.tm x = some (.v (.c (.f f)))) (ha : argsOf st az.toList = some (p, args, false)) (hp : p) (hD : DoesO P G f args sz rows rest) (hl : rest.flatMap PV.labs = []) (hf : st.free lo = true) (hd : dstOk nt o.dst = true)
    (next : runs P G nt md ops Q lab l ⟨setv o.dst (some (.t (.c (.r lo rows.length) :: rest))) st.tm, put lo (.sr sz rows) st.ob⟩) : DoL P G nt ops (o :: l) st Q := by
  intro cx a W hn ⟨m, hr⟩ Q' hQ
  refine wpList_plain hg fun K hK => ?_
  unfold Oper.wp
  have hxv : a.eval x = .func (.func f) #[] #[] := hr.opv hx
  have hargs := argsOf_run hr ha hp false id
  have hok : ∀ b, okC cx m st W false b → b < W.heap.size := by
    rintro b (h | ⟨e, _⟩)
    · exact h.2.1
    · cases e
  have hexec : execOp a.eval o = callFunc f (az.toList.map a.eval).toArray := by
    have e1 : (az.toList.map a.eval).toArray = az.map a.eval := by apply Array.ext'; simp
    unfold execOp
    simp [hop, resolve, hxv, Deferred.ofValue, invoke, e1]
  obtain ⟨h1, h2⟩ := hD W (okC cx m st W false) _ hok hr.glOk hargs
  rw [hexec, h1]
  refine h2.mono ?_
  rintro e W' ⟨sv, us, bo, rfl, hb, hbo, q1, q2, q3⟩
  have he := enO_en hr hb (lab := lo) (bo := bo) (o := .sr sz rows)
  have hro : RO (en cx (upd m lo bo) (put lo (.sr sz rows) st.ob) W') lo (.sr sz rows) := by
    rcases q2 with ⟨y1, y2⟩ | ⟨b', vs, e2, r1, r2, r3⟩
    · exact .inl ⟨y1, by show upd m lo bo lo = none; rw [upd_self]; exact y2⟩
    · exact .inr ⟨b', vs, e2, by show upd m lo bo lo = _; rw [upd_self]; exact r1, r2, fun i cs hi => let ⟨g1, us', g2, g3⟩ := r3 i cs hi; ⟨g1, us', g2.mono he, g3⟩⟩
  have hr2 := hr.adopt hb hf hbo hro
  have hsv : RC (en cx (upd m lo bo) (put lo (.sr sz rows) st.ob) W') (.r lo rows.length) sv := by
    refine ⟨q1.1, fun o' ho' hle => ?_⟩
    have ho2 : lk lo (put lo (.sr sz rows) st.ob) = some o' := ho'
    rw [lk_put_self] at ho2; injection ho2 with ho2; subst ho2
    obtain ⟨k1, k2⟩ := q1.2 (.sr sz rows) rfl (Nat.le_refl _)
    refine ⟨rfl, ?_⟩
    show (_ ∧ _ ∧ upd m lo bo lo = none) ∨ ∃ b cap e, upd m lo bo lo = some b ∧ _
    rw [upd_self]
    exact k2
  have hrest : All2 (RP (en cx (upd m lo bo) (put lo (.sr sz rows) st.ob) W')) rest us := q3.mono' fun c hc v hv => RP.mono he (fun j hj => by
    have : j ∈ rest.flatMap PV.labs := List.mem_flatMap.2 ⟨c, hc, hj⟩
    rw [hl] at this; cases this) hv
  have hput := Rel.put (st := ⟨st.tm, put lo (.sr sz rows) st.ob⟩) hr2 hn hd (x := .t (.c (.r lo rows.length) :: rest)) (v := .tuple (sv :: us).toArray) ⟨_, rfl, .cons hsv hrest⟩
  exact hK _ _ (DoL.run next cx _ _ hn hput Q' hQ)
end
attribute [go_sem] St.sealS tmSealS TV.sealS PV.sealS psSealS
end Go.Proofs.YtbhokdhkfodpfaaGreatDoor
/- Functions whose first result is a row of the caller's; functions with a pointer to a box. No condition. -/
namespace Go.Proofs.YtbhokdhkfodpfaaGreatDoor
set_option linter.unusedVariables false
set_option linter.unusedSimpArgs false
section
variable {P : Program} {G : Gl} {nt : Nat} {st : St} {cx : Cx} {a : Act} {W W' : World} {m : Nat → Option Nat} {QE : Exit → St → Prop} {ops l : List Oper} {Q : St → Prop}
theorem RC.ext_mono {E E' : En} (hE : ∀ b, E.ok b → E'.ok b) (hW : E'.W = E.W) {c : Ce} (hob : ∀ j ∈ c.labs, E'.ob j = none) {v : Value} (h : RC E c.ext v) : RC E' c.ext v := by
  cases c with
  | w fr l => obtain ⟨a, k, g1, g2, g3⟩ := h; exact ⟨a, k, g1, g2, fun i x hi => let ⟨ad, q1, q2, q3, q4⟩ := g3 i x hi; ⟨ad, q1, hE _ q2, fun e => (by cases e), by rw [hW]; exact q4⟩⟩
  | p j o => exact ⟨h.1, fun cs hcs => by rw [hob j (by simp [Ce.labs])] at hcs; cases hcs⟩
  | q j n i o => exact ⟨h.1, fun cs hcs => by rw [hob j (by simp [Ce.labs])] at hcs; cases hcs⟩
  | r j n => exact ⟨h.1, fun cs hcs => by rw [hob j (by simp [Ce.labs])] at hcs; cases hcs⟩
  | x s => exact s.mono _ _ _ _ _ hE (fun _ _ => by rw [hW]) h
  | _ => exact h
theorem exts_mono {E E' : En} (hE : ∀ b, E.ok b → E'.ok b) (hW : E'.W = E.W) : ∀ {cs : List Ce} {vs : List Value}, (∀ j ∈ cs.flatMap Ce.labs, E'.ob j = none) → All2 (RC E) (exts cs) vs → All2 (RC E') (exts cs) vs
  | [], vs, _, h => (h.nil_iff) ▸ .nil
  | c :: cs, vs, hob, h => by
    obtain ⟨u, us, rfl, g1, g2⟩ := h.cons_iff
    exact .cons (RC.ext_mono hE hW (fun j hj => hob j (by simp [hj])) g1) (exts_mono hE hW (fun j hj => hob j (by simp only [List.flatMap_cons, List.mem_append]; exact .inr hj)) g2)
theorem RP.ext_mono {E E' : En} (hE : ∀ b, E.ok b → E'.ok b) (hW : E'.W = E.W) {y : PV} (hob : ∀ j ∈ y.labs, E'.ob j = none) {v : Value} (h5 : RP E y.ext v) : RP E' y.ext v := by
  cases y with
  | c c => exact RC.ext_mono hE hW hob h5
  | a cs => obtain ⟨vs, g1, g2⟩ := h5; exact ⟨vs, g1, exts_mono hE hW hob g2⟩
  | s fr l =>
    obtain ⟨a, k, sz, g1, g2, g3⟩ := h5
    refine ⟨a, k, sz, g1, g2, fun i cs hi => ?_⟩
    obtain ⟨q1, ad, q2, q3, q4, vs, q5, q6⟩ := g3 i cs hi
    refine ⟨q1, ad, q2, hE _ q3, fun e => (by cases e), vs, ⟨q5.1, q5.2.mono' fun c hc v hv => ?_⟩, by rw [hW]; exact q6⟩
    have hcp := q5.1 c hc
    have hce : c.ext = c := by cases c <;> first | rfl | (simp [Ce.pure] at hcp; subst hcp; rfl)
    rw [← hce]; exact RC.ext_mono hE hW (by rw [Ce.labs_of_pure hcp]; intro j hj; cases hj) (by rw [hce]; exact hv)
/-- The state in which a function begins. -/
theorem start_rel {n : Nat} {ok : Nat → Prop} {args : List PV} {vals : List Value} (hok : ∀ b, ok b → b < W.heap.size) (hgl : GlOk G W) (hargs : All2 (RP (enA W ok)) args vals) (hal : args.length ≤ nt) (hn : n = nt) :
    RelM G ⟨W.heap.size, W, ok, fun _ => False, nt⟩ (fun _ => none) ⟨argTm 0 args, []⟩ { tmps := vals.toArray ++ Array.replicate (n - vals.toArray.size) undef, defers := [] } W := by
  have hlen := hargs.length
  refine ⟨Nat.le_refl _, rfl, rfl, rfl, fun _ _ _ => rfl, rfl, by simp [hn]; show _ = nt; omega, fun t x hx => ?_, fun j o ho => by simp [lk] at ho, fun j j' o o' b ho => by simp [lk] at ho, fun j o b ho => by simp [lk] at ho, fun b off x hx => ?_, fun b hb => ⟨hok b hb, id⟩, fun o ho => by simp [lk] at ho⟩
  · obtain ⟨_, y, h1, h2⟩ := argTm_lk args 0 t x hx
    simp only [Nat.sub_zero] at h1
    obtain ⟨v, h3, h4⟩ := hargs.get h1
    refine ⟨v, ?_, ?_⟩
    · have : t < vals.length := (List.getElem?_eq_some_iff.1 h3).1
      rw [Array.getElem?_append, if_pos (by simpa using this)]
      simpa using h3
    · subst h2
      exact RP.ext_mono (E := enA W ok) (E' := en ⟨W.heap.size, W, ok, fun _ => False, nt⟩ (fun _ => none) [] W) (fun b hb => ⟨.inl hb, hok b hb, fun j o ho => by simp [lk] at ho⟩) rfl (fun j _ => rfl) (PLe.ext y _ _ h4)
  · obtain ⟨h1, v, h2, h3⟩ := hgl b off x hx
    exact ⟨World.block_lt_of_cell? W _ h2, id, h1, v, h2, h3⟩
/-- Values that name no memory. -/
def PV.plain : PV → Bool
  | .c (.i ..) | .c (.b _) | .c (.n _) => true
  | _ => false
theorem RP.plain {E E' : En} {x : PV} {v : Value} (hp : x.plain = true) (h : RP E x v) : RP E' x v := by
  unfold PV.plain at hp
  split at hp
  · exact h
  · exact h
  · exact h
  · cases hp
def allPlain : List PV → Bool
  | [] => true
  | x :: xs => x.plain && allPlain xs
theorem allPlain_spec : ∀ {xs : List PV}, allPlain xs = true → ∀ x ∈ xs, x.plain = true
  | [], _, x, hx => by cases hx
  | y :: ys, h, x, hx => by
    simp only [allPlain, Bool.and_eq_true] at h
    rcases List.mem_cons.1 hx with rfl | hx
    · exact h.1
    · exact allPlain_spec h.2 x hx
/-- What stands at the end of a function whose first result is a row of the caller's. -/
def endO (P : Program) (rs : List ResultVar) (sz : Nat) (rows : List (List Ce)) (rest : List PV) (e : Exit) (s : St) : Prop :=
  (e = .ret ∨ e = .normal) ∧ match rs with
    | .tmp t :: rs => (match lk t s.tm with
      | some (.v (.c (.r j n))) => n = rows.length ∧ lk j s.ob = some (.sr sz rows) ∧ (match rets P s rs with
        | some (p, l) => p ∧ l = rest
        | none => False)
      | _ => False)
    | _ => False
theorem DoesO.of {f : FuncId} {fn : Func} {c : Code} {args : List PV} {sz : Nat} {rows : List (List Ce)} {rest : List PV} (hf : P.funcs[f]? = some fn) (hname : (fn.name == "runtime.NumGoroutine") = false) (hb : fn.body = some c) (hnt : fn.ntmps = nt) (hal : args.length ≤ nt) (hpl : allPlain rest = true) (hne : rest ≠ [])
    (h : Do P G nt c ⟨argTm 0 args, []⟩ (endO P fn.results.toList sz rows rest)) : DoesO P G f args sz rows rest := by
  intro W ok vals hok hgl hargs
  refine ⟨?_, ?_⟩
  · have hn' : fn.name ≠ "runtime.NumGoroutine" := by simpa using hname
    simp [callFunc, hf, hn', hb]
  · refine calls_of_wp hf hb ?_
    refine Code.wp_mono (fun e a' W' ⟨s, hq, m', hs⟩ => ?_) (h _ _ W rfl ⟨_, start_rel hok hgl hargs hal hnt⟩)
    obtain ⟨he, hret⟩ := hq
    split at hret
    case h_2 => exact hret.elim
    rename_i t rs hrs
    split at hret
    case h_2 => exact hret.elim
    rename_i j n ht
    obtain ⟨rfl, hj, hret⟩ := hret
    split at hret
    case h_2 => exact hret.elim
    rename_i p l' hrets
    obtain ⟨hp, rfl⟩ := hret
    obtain ⟨vs, g1, g2⟩ := rets_run hs (fun b hb => hb) (ok := ok) (fun b => Iff.rfl) W rfl rs hrets hp
    obtain ⟨sv, hv, hrt⟩ := hs.tm t _ ht
    have hg : a'.tmps.getD t undef = sv := by simp [hv]
    obtain ⟨u, us, rfl⟩ : ∃ u us, vs = u :: us := by
      cases g2 with
      | nil => exact absurd rfl hne
      | cons _ _ => exact ⟨_, _, rfl⟩
    have hres : (results fn a'.tmps).run P W' = .ok (.tuple (sv :: u :: us).toArray) W' := by
      have hfun : results fn a'.tmps = (do let vs ← fn.results.mapM (resOf a'.tmps); pure (if h : vs.size = 1 then vs[0] else .tuple vs)) := by
        unfold results
        congr 1
      rw [hfun]
      have h1 : (resOf a'.tmps (.tmp t)).run P W' = .ok sv W' := by simp [resOf, hg]
      simp only [Sem.run_bind, Array.mapM_eq_mapM_toList, Sem.run_map, hrs, List.mapM_cons, h1, g1, Result.andThen_ok, Sem.run_pure]
      simp
    have hbelow : RowKit.Below W.heap.size W W' := ⟨hs.os, hs.tape, hs.output, hs.size, fun k hk => hs.keep k hk id⟩
    have hown : ∀ b, m' j = some b → W.heap.size ≤ b ∧ b < W'.heap.size := fun b hb => by
      obtain ⟨q1, q2⟩ := hs.own j _ b hj hb
      exact ⟨q2.elim id fun e => e.1.elim, q1⟩
    have hle : EnLe (fun _ => False) (en ⟨W.heap.size, W, ok, fun _ => False, nt⟩ m' s.ob W') (enO W W' ok (m' j) (.sr sz rows)) :=
      ⟨fun b ⟨q1, q2, q3⟩ => ⟨⟨q1, q2⟩, q3 j _ hj⟩, fun _ _ => rfl, Nat.le_refl _, fun _ hF => hF.elim⟩
    have hO : ∃ bo, (∀ b, bo = some b → W.heap.size ≤ b ∧ b < W'.heap.size) ∧ RC (enO W W' ok bo (.sr sz rows)) (.r 0 rows.length) sv ∧ RO (enO W W' ok bo (.sr sz rows)) 0 (.sr sz rows) := by
      refine ⟨m' j, hown, ⟨hrt.1, fun o' ho' hle' => ?_⟩, ?_⟩
      · obtain rfl : Ob.sr sz rows = o' := by simpa [enO] using ho'
        obtain ⟨_, k2⟩ := hrt.2 _ hj (Nat.le_refl _)
        exact ⟨rfl, k2⟩
      · rcases hs.ob j _ hj with ⟨y1, y2⟩ | ⟨b', vs, e2, r1, r2, r3⟩
        · exact .inl ⟨y1, y2⟩
        · exact .inr ⟨b', vs, e2, r1, r2, fun i cs hi => let ⟨k1, us', k2, k3⟩ := r3 i cs hi; ⟨k1, us', k2.mono hle, k3⟩⟩
    obtain ⟨bo, k1, k2, k3⟩ := hO
    have hfin : ∃ sv' us' bo, (Ending.returned (.tuple (sv :: u :: us).toArray)) = .returned (.tuple (sv' :: us').toArray) ∧ RowKit.Below W.heap.size W W' ∧ (∀ b, bo = some b → W.heap.size ≤ b ∧ b < W'.heap.size) ∧
      RC (enO W W' ok bo (.sr sz rows)) (.r 0 rows.length) sv' ∧ RO (enO W W' ok bo (.sr sz rows)) 0 (.sr sz rows) ∧ All2 (RP (enO W W' ok bo (.sr sz rows))) l' us' :=
      ⟨sv, u :: us, bo, rfl, hbelow, k1, k2, k3, g2.mono' fun c hc v hv => RP.plain (allPlain_spec hpl c hc) hv⟩
    rcases he with rfl | rfl
    · exact ⟨hs.df, _, hres, hfin⟩
    · exact ⟨hs.df, _, hres, hfin⟩
/-- All but block b is as it lay. -/
structure BelowX (b : Nat) (W W' : World) : Prop where
  os : W'.os = W.os
  tape : W'.tape = W.tape
  output : W'.output = W.output
  size : W.heap.size ≤ W'.heap.size
  block : ∀ k, k < W.heap.size → k ≠ b → W'.heap[k]? = W.heap[k]?
/-- What a call does to the box that its first argument points to. -/
def DoesP (P : Program) (G : Gl) (f : FuncId) (cs : List Ce) (args : List PV) (cs' : List Ce) : Prop :=
  ∀ (W : World) (ok : Nat → Prop) (vals : List Value) (b : Nat) (vs : Array Value) (e : TypeId), (∀ b, ok b → b < W.heap.size) → GlOk G W → (∀ (b' off : Nat) (x : Ce), (G b')[off]? = some x → b' ≠ b) → ¬ ok b → W.heap[b]? = some (.cells vs e (0, 0)) → All2 (RC (enA W ok)) (exts cs) vs.toList → All2 (RP (enA W ok)) args vals →
    (callFunc f (.pointer (some ⟨b, 0, none⟩) :: vals).toArray).run P W = .ok (.enter f (.pointer (some ⟨b, 0, none⟩) :: vals).toArray) W ∧ Calls P f (.pointer (some ⟨b, 0, none⟩) :: vals).toArray W (fun en W' => en = .returned (.tuple #[]) ∧ BelowX b W W' ∧ W'.shape? b = W.shape? b ∧ ∃ vs' e', W'.heap[b]? = some (.cells vs' e' (0, 0)) ∧ All2 (RC (enR W W' ok)) cs' vs'.toList)
theorem lt_of_heap {W : World} {b : Nat} {o : Obj} (h : W.heap[b]? = some o) : b < W.heap.size := (Array.getElem?_eq_some_iff.1 h).1
def endP (cs' : List Ce) (e : Exit) (s : St) : Prop := (e = .ret ∨ e = .normal) ∧ match lk 7777777 s.ob with
  | some (.box cs) => All2 (fun c d => PLe (.c c) (.c d)) cs cs'
  | _ => False
theorem DoesP.of {f : FuncId} {fn : Func} {c : Code} {cs : List Ce} {args : List PV} {cs' : List Ce} (hf : P.funcs[f]? = some fn) (hname : (fn.name == "runtime.NumGoroutine") = false) (hb : fn.body = some c) (hnt : fn.ntmps = nt) (hal : args.length < nt) (hrs : fn.results = #[]) (hl1 : cs.flatMap Ce.labs = []) (hl2 : args.flatMap PV.labs = [])
    (h : Do P G nt c ⟨(0, .v (.c (.p 7777777 0))) :: argTm 1 args, [(7777777, .box (exts cs))]⟩ (endP cs')) : DoesP P G f cs args cs' := by
  intro W ok vals b vs ty hok hgl hgb hnb hh hcs hargs
  have hlt := lt_of_heap hh
  refine ⟨?_, ?_⟩
  · have hn' : fn.name ≠ "runtime.NumGoroutine" := by simpa using hname
    simp [callFunc, hf, hn', hb]
  · refine calls_of_wp hf hb ?_
    have hlen := hargs.length
    let cx : Cx := ⟨W.heap.size, W, ok, fun k => k = b, nt⟩
    let m : Nat → Option Nat := fun j => if j = 7777777 then some b else none
    have hm : ∀ j k, m j = some k → j = 7777777 ∧ k = b := fun j k e => by
      by_cases hj : j = 7777777
      · subst hj; simp [m] at e; exact ⟨rfl, e.symm⟩
      · simp [m, hj] at e
    have hE : ∀ k, (enA W ok).ok k → (en cx m [(7777777, .box (exts cs))] W).ok k := fun k hk => ⟨.inl hk, hok k hk, fun j o ho e => hnb ((hm j k e).2 ▸ hk)⟩
    have hR : RelM G cx m ⟨(0, .v (.c (.p 7777777 0))) :: argTm 1 args, [(7777777, .box (exts cs))]⟩ { tmps := (.pointer (some ⟨b, 0, none⟩) :: vals).toArray ++ Array.replicate (fn.ntmps - (Value.pointer (some ⟨b, 0, none⟩) :: vals).toArray.size) undef, defers := [] } W := by
      refine ⟨Nat.le_refl _, rfl, rfl, rfl, fun _ _ _ => rfl, rfl, by simp [hnt]; show _ = nt; omega, fun t x hx => ?_, fun j o ho => ?_, fun j j' o o' k h1 h2 h3 h4 => (hm j k h3).1.trans (hm j' k h4).1.symm, fun j o k h1 h2 => ?_, fun b' off x hx => ?_, fun b' hb' => ⟨hok b' hb', fun e => hnb (e ▸ hb')⟩, fun o ho => ?_⟩
      rotate_left 4
      · simp only [lk] at ho
        split at ho
        · injection ho with ho; subst ho; exact ⟨rfl, b, rfl, rfl, rfl⟩
        · cases ho
      · simp only [lk] at hx
        split at hx
        · rename_i ht
          injection hx with hx; subst hx ht
          refine ⟨.pointer (some ⟨b, 0, none⟩), by rw [Array.getElem?_append, if_pos (by simp)]; simp, rfl, fun cs2 _ => ⟨b, rfl, rfl⟩⟩
        · rename_i ht
          obtain ⟨ht1, y, h1, h2⟩ := argTm_lk args 1 t x hx
          obtain ⟨v, h3, h4⟩ := hargs.get h1
          refine ⟨v, ?_, ?_⟩
          · have : t - 1 < vals.length := (List.getElem?_eq_some_iff.1 h3).1
            rw [Array.getElem?_append, if_pos (by simp; omega)]
            obtain ⟨s, rfl⟩ : ∃ s, t = s + 1 := ⟨t - 1, by omega⟩
            simpa using h3
          · subst h2
            refine RP.ext_mono (E := enA W ok) (E' := en cx m [(7777777, .box (exts cs))] W) hE rfl (fun j hj => ?_) (PLe.ext y _ _ h4)
            have : j ∈ args.flatMap PV.labs := List.mem_flatMap.2 ⟨y, List.mem_of_getElem? h1, hj⟩
            rw [hl2] at this; cases this
      · simp only [lk] at ho
        split at ho
        · rename_i hj
          injection ho with ho; subst ho hj
          exact ⟨b, vs, ty, rfl, hh, exts_mono (E := enA W ok) hE rfl (by rw [hl1]; intro j hj; cases hj) hcs⟩
        · cases ho
      · simp only [lk] at h1
        split at h1
        · injection h1 with h1; subst h1
          obtain ⟨hj7, rfl⟩ := hm j k h2
          exact ⟨hlt, .inr ⟨rfl, rfl, hj7⟩⟩
        · cases h1
      · obtain ⟨h1, v, h2, h3⟩ := hgl b' off x hx
        exact ⟨World.block_lt_of_cell? W _ h2, hgb b' off x hx, h1, v, h2, h3⟩
    refine Code.wp_mono (fun e a' W' ⟨s, hq, m', hs⟩ => ?_) (h cx _ W rfl ⟨_, hR⟩)
    obtain ⟨he, hret⟩ := hq
    split at hret
    case h_2 => exact hret.elim
    rename_i cs2 hj
    obtain ⟨_, b2, hb2, hbb, hsh⟩ := hs.pin _ hj
    have hbb : b2 = b := hbb
    subst hbb
    obtain ⟨b3, vs2, ty2, r1, r2, r3⟩ := hs.ob 7777777 _ hj
    obtain rfl := some_unique (show m' 7777777 = some b2 from hb2) (show m' 7777777 = some b3 from r1)
    have hle : EnLe (fun _ => True) (en cx m' s.ob W') (enR W W' ok) := ⟨fun c ⟨g1, g2, g3⟩ => ⟨g1, g2⟩, fun _ _ => rfl, Nat.le_refl _, fun j _ o ho => by cases ho⟩
    have hcs : ∀ {cs cs' : List Ce} {us : List Value}, All2 (fun c d => PLe (.c c) (.c d)) cs cs' → All2 (RC (en cx m' s.ob W')) cs us → All2 (RC (enR W W' ok)) cs' us := fun {cs cs'} => by
      induction cs generalizing cs' with
      | nil => intro us h1 h2; cases h1; cases h2; exact .nil
      | cons c cs ih => intro us h1 h2; cases h1 with | cons g1 g1' => cases h2 with | cons g2 g2' => exact .cons (g1 _ _ (RC.mono hle (fun _ _ => trivial) g2)) (ih g1' g2')
    have hfin : (Ending.returned (.tuple #[])) = .returned (.tuple #[]) ∧ BelowX b3 W W' ∧ W'.shape? b3 = W.shape? b3 ∧ ∃ vs' e', W'.heap[b3]? = some (.cells vs' e' (0, 0)) ∧ All2 (RC (enR W W' ok)) cs' vs'.toList :=
      ⟨rfl, ⟨hs.os, hs.tape, hs.output, hs.size, fun k hk hne => hs.keep k hk hne⟩, hsh, vs2, ty2, r2, hcs hret r3⟩
    have hres : (results fn a'.tmps).run P W' = .ok (.tuple #[]) W' := by
      unfold results; simp [hrs]
    rcases he with rfl | rfl
    · exact ⟨hs.df, _, hres, hfin⟩
    · exact ⟨hs.df, _, hres, hfin⟩
end
end Go.Proofs.YtbhokdhkfodpfaaGreatDoor
/- An empty slice as words of the call's own. No condition. -/
namespace Go.Proofs.YtbhokdhkfodpfaaGreatDoor
set_option linter.unusedVariables false
set_option linter.unusedSimpArgs false
section
variable {P : Program} {G : Gl} {nt : Nat} {st : St} {cx : Cx} {a : Act} {W : World} {m : Nat → Option Nat} {QE : Exit → St → Prop}
theorem RelM.emptyW (h : RelM G cx m st a W) {lab : Nat} (hf : st.free lab = true) : RelM G cx (upd m lab Option.none) ⟨st.tm, put lab (.wr []) st.ob⟩ a W := by
  obtain ⟨f1, f2, f3⟩ := St.free_spec hf
  have he : EnLe (· ≠ lab) (en cx m st.ob W) (en cx (upd m lab Option.none) (put lab (.wr []) st.ob) W) := by
    refine ⟨fun b ⟨g1, g2, g3⟩ => ⟨g1, g2, fun j o hj hm => ?_⟩, fun _ _ => rfl, Nat.le_refl _, fun j hj o' ho => ?_⟩
    · by_cases hjl : j = lab
      · subst hjl; rw [upd_self] at hm; cases hm
      · rw [upd_ne _ _ hjl] at hm; rw [lk_put_ne _ _ hjl] at hj; exact g3 j o hj hm
    · have ho' : lk j (put lab (.wr []) st.ob) = some o' := ho
      rw [lk_put_ne _ _ hj] at ho'
      exact ⟨o', ho', rfl, rfl, Nat.le_refl _, fun _ => ⟨upd_ne _ _ hj, fun b _ => rfl⟩⟩
  refine h.move he (fun t x hx j hj e => f1 t x hx (e ▸ hj)) (Nat.le_refl _) rfl rfl rfl (fun _ _ _ => rfl) (fun j o' hj => ?_) (fun j j' o1 o2 b h1 h2 h3 h4 => ?_) (fun j o' b h1 h2 => ?_) (fun o' ho' => by
    have hne := Ne.symm (St.free_pin hf)
    rw [lk_put_ne _ _ hne] at ho'; rw [upd_ne _ _ hne]; exact h.pin o' ho')
  · by_cases hjl : j = lab
    · subst hjl; rw [lk_put_self] at hj; injection hj with hj; subst hj
      exact .inl ⟨rfl, upd_self _ _ _⟩
    · rw [lk_put_ne _ _ hjl] at hj
      exact RO.mono he (fun k hk e => f3 j o' hj (e ▸ hk)) (upd_ne _ _ hjl) (fun b hb => rfl) (h.ob j o' hj)
  · by_cases e1 : j = lab
    · subst e1; rw [upd_self] at h3; cases h3
    · by_cases e2 : j' = lab
      · subst e2; rw [upd_self] at h4; cases h4
      · rw [upd_ne _ _ e1] at h3; rw [upd_ne _ _ e2] at h4; rw [lk_put_ne _ _ e1] at h1; rw [lk_put_ne _ _ e2] at h2
        exact h.inj j j' o1 o2 b h1 h2 h3 h4
  · by_cases hjl : j = lab
    · subst hjl; rw [upd_self] at h2; cases h2
    · rw [upd_ne _ _ hjl] at h2; rw [lk_put_ne _ _ hjl] at h1
      exact h.own j o' b h1 h2
/-- An empty slice in a slot, as a row of the call's own. -/
theorem Do.ownW {c : Code} (t lab : Nat) (ht : lk t st.tm = some (.v (.c .z))) (hf : st.free lab = true) (hd : t < nt) (h : Do P G nt c ⟨put t (.v (.c (.r lab 0))) st.tm, put lab (.wr []) st.ob⟩ QE) : Do P G nt c st QE := by
  intro cx a W hn ⟨m, hr⟩
  have h1 := hr.emptyW hf
  obtain ⟨v, hv, hrt⟩ := hr.tm t _ ht
  have hz : v = .slice none 0 0 := hrt
  subst hz
  refine h cx a W hn ⟨upd m lab Option.none, { h1 with tm := fun s x hx => ?_ }⟩
  by_cases hs : s = t
  · subst hs
    rw [lk_put_self] at hx
    injection hx with hx
    subst hx
    refine ⟨_, hv, rfl, fun o ho hle => ?_⟩
    have ho' : lk lab (put lab (.wr []) st.ob) = some o := ho
    rw [lk_put_self] at ho'; injection ho' with ho'; subst ho'
    exact ⟨rfl, .inl ⟨rfl, rfl, upd_self _ _ _⟩⟩
  · rw [lk_put_ne _ _ hs] at hx
    exact h1.tm s x hx
end
end Go.Proofs.YtbhokdhkfodpfaaGreatDoor
/- Operations under a test whose outcome is known. No condition. -/
namespace Go.Proofs.YtbhokdhkfodpfaaGreatDoor
set_option linter.unusedVariables false
set_option linter.unusedSimpArgs false
section
variable {P : Program} {G : Gl} {nt : Nat} {st : St} {cx : Cx} {a : Act} {W : World} {m : Nat → Option Nat} {Q : St → Prop} {ops l : List Oper} {o : Oper} {j : Nat} {want : Bool}
end
end Go.Proofs.YtbhokdhkfodpfaaGreatDoor
/- The functions of package wide on words. No condition. -/
namespace Go.Proofs.YtbhokdhkfodpfaaGreatDoor
set_option linter.unusedVariables false
set_option linter.unusedSimpArgs false
variable {G : Gl}
/-- Words, as an argument; as a result of new memory. -/
abbrev Wd (x : List Nat) : PV := .c (.w false x)
abbrev Wn (x : List Nat) : PV := .c (.w true x)
abbrev Sh (x : List Nat) : Prop := x.length < 1099511627776
set_option maxHeartbeats 1000000
theorem view_does {x : List Nat} (hx : Sh x) : Does Tryz.prog G 130 [Wd x] (.v (Wd (norm x))) := by
  refine Does.of (nt := 22) Tryz.func130 rfl rfl rfl (by simp) ?_
  simp only [argTm, PV.ext, Ce.ext]
  refine Do.seqk fun K hK => ?_
  refine Do.region [0,2,3] true ?_
  simp [go_sem]
  apply hK; clear hK K
  refine Do.seqk fun K hK => ?_
  refine Do.region [0,2,3] true ?_
  simp [go_sem]
  apply hK; clear hK K
  refine Do.seqk fun K hK => ?_
  refine Do.block ?_
  refine Do.loop (fun n : Nat => ⟨[(0, .v (.c (.w false x))), (2, .v (.c .z)), (3, .int .i64 n)], []⟩) (fun n => n ≤ x.length ∧ ∀ j, n ≤ j → x[j]?.getD 0 = 0) id x.length (St.le_of rfl rfl) ⟨Nat.le_refl _, fun j hj => by simp [hj]⟩ ?_
  rintro n ⟨hn, hz⟩
  refine Do.seqk fun K2 hK2 => ?_
  refine Do.seqk fun K3 hK3 => ?_
  refine Do.region [0,2,3,15] true ?_
  simp [go_sem]
  repeat (refine And.intro (by omega) ?_)
  apply hK3; clear hK3 K3
  refine Do.cond [0,2,3] rfl (fun h => ?_) (fun h => ?_)
  · refine Do.skip ?_
    simp [go_sem] at h ⊢
    apply hK2; clear hK2 K2
    refine Do.block ?_
    refine Do.region [0,2,3] true ?_
    simp [go_sem]
    repeat (refine And.intro (by omega) ?_)
    refine ⟨n - 1, St.le_of (by simp [keep]; omega) rfl, ⟨by omega, fun j hj => ?_⟩, by simp; omega⟩
    by_cases hj' : n ≤ j
    · exact hz j hj'
    · rw [show j = n - 1 by omega]; exact h.2
  · refine Do.exit ?_
    simp [go_sem] at h ⊢
    apply hK; clear hK2 hK K2
    refine Do.seqk fun K hK => ?_
    refine Do.region [0,2,3] true ?_
    simp [go_sem]
    repeat (refine And.intro (by omega) ?_)
    apply hK; clear hK K
    refine Do.ret ?_
    simp [endQ, rets, ret1, go_sem]
    rw [norm_of hn hz h]
    exact TLe.refl _
end Go.Proofs.YtbhokdhkfodpfaaGreatDoor

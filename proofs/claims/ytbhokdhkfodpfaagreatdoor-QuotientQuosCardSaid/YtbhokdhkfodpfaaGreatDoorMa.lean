/- Pure values and the relation to the machine's values: what a value of the machine stands for, in an environment. No condition. The operations that touch no memory, on pure values, and that the machine does the same. No condition. What 'stepV' says, the machine does. No condition. What 'stepV' says, the machine does: the operations one by one. No condition. What 'stepV' says, the machine does. No condition. What 'stepV' says, the machine does. No condition. The state of a walk, and what it says of the machine's. No condition. New objects, objects that are written, rows that grow. No condition. The operations that touch memory, on pure values. No condition. What 'stepM' says of loads and stores, the machine does. No condition. -/
import Derived.Orders
import Derived.Tactics
import Derived.Laws.CopyRow
import Derived.Below
import Derived.RowKit
import Derived.Laws.Small
import Derived.Laws.Tables
import Derived.Laws.Rows
/- Pure values and the relation to the machine's values: what a value of the machine stands for, in an environment. No condition. -/
namespace Go.Proofs.YtbhokdhkfodpfaaGreatDoor
set_option linter.unusedVariables false
set_option linter.unusedSimpArgs false
/-- Whatever a value may stand for, in the blocks that nobody writes. -/
structure Sx where
  p : (Nat → Prop) → World → Value → Prop
  one : ∀ ok W v, p ok W v → v.oneCell' = true
  mono : ∀ (ok ok' : Nat → Prop) W W' v, (∀ b, ok b → ok' b) → (∀ b, ok b → W'.heap[b]? = W.heap[b]?) → p ok W v → p ok' W' v
/-- No function. -/
def nilSx : Sx := ⟨fun _ _ v => v = .nilFunc, fun _ _ _ h => by subst h; rfl, fun _ _ _ _ _ _ _ h => h⟩
/-- A value of one cell. -/
inductive Ce where
  | b (x : Bool)
  | i (k : IntKind) (n : Int)
  | n (w : Nat)
  | z
  | w (fr : Bool) (l : List Nat)
  | p (j off : Nat)
  | q (j n i off : Nat)
  | g (b off : Nat)
  | r (j n : Nat)
  | f (k : Nat)
  | o
  | x (s : Sx)
/-- A value: one cell, a struct, a slice of structs. -/
inductive PV where
  | c (x : Ce)
  | a (cs : List Ce)
  | s (fr : Bool) (l : List (List Ce))
/-- What a slot holds: a value, several, the address of cells that nobody writes; one of these, if a test said yes. -/
inductive TV where
  | v (x : PV)
  | t (l : List PV)
  | e (cs : List Ce)
  | gd (c : Bool) (x : TV)
/-- An object that the call may write. -/
inductive Ob where
  | box (cs : List Ce)
  | wr (l : List Nat)
  | sr (sz : Nat) (l : List (List Ce))
def Ob.len : Ob → Nat
  | .box _ => 0
  | .wr l => l.length
  | .sr _ l => l.length
def Ob.sz : Ob → Nat
  | .sr sz _ => sz
  | _ => 1
def Ob.isBox : Ob → Bool
  | .box _ => true
  | _ => false
/-- Two lists, element by element. -/
inductive All2 {α β : Type} (R : α → β → Prop) : List α → List β → Prop
  | nil : All2 R [] []
  | cons {a b az bs} : R a b → All2 R az bs → All2 R (a :: az) (b :: bs)
namespace All2
variable {α β : Type} {R S : α → β → Prop}
theorem length {az : List α} {bs : List β} (h : All2 R az bs) : az.length = bs.length := by
  induction h with
  | nil => rfl
  | cons _ _ ih => simp [ih]
theorem mono' {az : List α} {bs : List β} (h : All2 R az bs) (hs : ∀ a ∈ az, ∀ b, R a b → S a b) : All2 S az bs := by
  induction h with
  | nil => exact .nil
  | cons h _ ih => exact .cons (hs _ (by simp) _ h) (ih fun a ha => hs a (by simp [ha]))
theorem mono {az : List α} {bs : List β} (h : All2 R az bs) (hs : ∀ a b, R a b → S a b) : All2 S az bs := h.mono' fun a _ => hs a
theorem get {az : List α} {bs : List β} (h : All2 R az bs) : ∀ {i : Nat} {a : α}, az[i]? = some a → ∃ b, bs[i]? = some b ∧ R a b := by
  induction h with
  | nil => intro i a h; simp at h
  | cons h _ ih =>
    intro i a ha
    cases i with
    | zero => simp at ha; subst ha; exact ⟨_, rfl, h⟩
    | succ i => simpa using ih (by simpa using ha)
theorem get' {az : List α} {bs : List β} (h : All2 R az bs) : ∀ {i : Nat} {b : β}, bs[i]? = some b → ∃ a, az[i]? = some a ∧ R a b := by
  induction h with
  | nil => intro i a h; simp at h
  | cons h _ ih =>
    intro i a ha
    cases i with
    | zero => simp at ha; subst ha; exact ⟨_, rfl, h⟩
    | succ i => simpa using ih (by simpa using ha)
theorem append {az as' : List α} {bs bs' : List β} (h : All2 R az bs) (h' : All2 R as' bs') : All2 R (az ++ as') (bs ++ bs') := by
  induction h with
  | nil => exact h'
  | cons h _ ih => exact .cons h ih
theorem take {az : List α} {bs : List β} (h : All2 R az bs) : ∀ n, All2 R (az.take n) (bs.take n) := by
  induction h with
  | nil => intro n; simp; exact .nil
  | cons h _ ih => intro n; cases n with
    | zero => simp; exact .nil
    | succ n => simpa using .cons h (ih n)
theorem drop {az : List α} {bs : List β} (h : All2 R az bs) : ∀ n, All2 R (az.drop n) (bs.drop n) := by
  induction h with
  | nil => intro n; simp; exact .nil
  | cons h hh ih => intro n; cases n with
    | zero => simpa using .cons h hh
    | succ n => simpa using ih n
theorem set {az : List α} {bs : List β} (h : All2 R az bs) {a : α} {b : β} (hr : R a b) : ∀ i, All2 R (az.set i a) (bs.set i b) := by
  induction h with
  | nil => intro i; simp; exact .nil
  | cons h hh ih => intro i; cases i with
    | zero => simpa using .cons hr hh
    | succ i => simpa using .cons h (ih i)
theorem replicate {a : α} {b : β} (h : R a b) : ∀ n, All2 R (List.replicate n a) (List.replicate n b)
  | 0 => by simp; exact .nil
  | n + 1 => by simpa [List.replicate_succ] using .cons h (replicate h n)
end All2
/-- Where values are read: the world, the blocks that nobody writes, those made in this call (from B on), and the objects. -/
structure En where
  W : World
  ok : Nat → Prop
  B : Nat
  m : Nat → Option Nat
  ob : Nat → Option Ob
/-- The cells at an address. -/
def At (W : World) (ad : Addr) (vs : List Value) : Prop := ∀ q u, vs[q]? = some u → W.cell? (ad.add q) = some u
def RC (E : En) : Ce → Value → Prop
  | .b x, v => v = .bool x
  | .i k n, v => v = .int k n
  | .n w, v => v = .int .u64 w
  | .z, v => v = .slice none 0 0
  | .w fr l, v => ∃ a c, v = .slice a l.length c ∧ l.length ≤ c ∧ ∀ i x, l[i]? = some x → ∃ ad : Addr, a = some ad ∧ E.ok ad.block ∧ (fr = true → E.B ≤ ad.block) ∧ E.W.cell? (ad.add i) = some (.int .u64 (x : Nat))
  | .p j off, v => v.oneCell' = true ∧ ∀ cs, E.ob j = some (.box cs) → ∃ b, E.m j = some b ∧ v = .pointer (some ⟨b, off, none⟩)
  | .q j n i off, v => v.oneCell' = true ∧ ∀ o, E.ob j = some o → o.len ≤ n → o.len = n ∧ ∃ b, E.m j = some b ∧ v = .pointer (some ⟨b, i * o.sz + off, none⟩)
  | .g b off, v => v = .pointer (some ⟨b, off, none⟩)
  | .r j n, v => v.oneCell' = true ∧ ∀ o, E.ob j = some o → o.len ≤ n → o.len = n ∧ ((n = 0 ∧ v = .slice none 0 0 ∧ E.m j = none) ∨ ∃ b cap e, E.m j = some b ∧ v = .slice (some ⟨b, 0, none⟩) n cap ∧ n ≤ cap ∧ E.W.shape? b = some (e, cap * o.sz))
  | .f k, v => v = .func (.func k) #[] #[]
  | .o, v => v = .pointer none
  | .x s, v => s.p E.ok E.W v
theorem RC.one {E : En} {c : Ce} {v : Value} (h : RC E c v) : v.oneCell' = true := by
  cases c with
  | w fr l => obtain ⟨a, c, h1, h2, h3⟩ := h; subst h1; rfl
  | p j off => exact h.1
  | q j n i off => exact h.1
  | r j n => exact h.1
  | x s => exact s.one _ _ _ h
  | _ => (have h' : v = _ := h); subst h'; rfl
theorem cells_one {v : Value} (h : v.oneCell' = true) : v.cells = #[v] := by cases v <;> first | rfl | (simp [Value.oneCell'] at h)
/-- Cells that name no object. -/
def Ce.pure : Ce → Bool
  | .p .. | .q .. | .r .. => false
  | .w fr _ => !fr
  | _ => true
/-- A cell as one that came in. -/
def Ce.ext : Ce → Ce
  | .w _ l => .w false l
  | c => c
theorem RC.ext {E : En} {c : Ce} {v : Value} (h : RC E c v) : RC E c.ext v := by
  cases c with
  | w fr l =>
    obtain ⟨a, k, h1, h2, h3⟩ := h
    exact ⟨a, k, h1, h2, fun i x hi => let ⟨ad, g1, g2, g3, g4⟩ := h3 i x hi; ⟨ad, g1, g2, fun hf => by simp at hf, g4⟩⟩
  | _ => exact h
/-- The objects that a cell names. -/
def Ce.labs : Ce → List Nat
  | .p j _ | .q j _ _ _ | .r j _ => [j]
  | _ => []
def RCs (E : En) (cs : List Ce) (vs : List Value) : Prop := (∀ c ∈ cs, c.pure = true) ∧ All2 (RC E) cs vs
def RP (E : En) : PV → Value → Prop
  | .c x, v => RC E x v
  | .a cs, v => ∃ vs, v = .agg vs ∧ All2 (RC E) cs vs.toList
  | .s fr l, v => ∃ a c sz, v = .slice a l.length c ∧ l.length ≤ c ∧ ∀ i cs, l[i]? = some cs → cs.length = sz ∧ ∃ ad : Addr, a = some ad ∧ E.ok ad.block ∧ (fr = true → E.B ≤ ad.block) ∧ ∃ vs, RCs E cs vs ∧ At E.W (ad.add (i * sz)) vs
def RT (E : En) : TV → Value → Prop
  | .v x, v => RP E x v
  | .t l, v => ∃ vs, v = .tuple vs ∧ All2 (RP E) l vs.toList
  | .e cs, v => ∃ ad : Addr, v = .pointer (some ad) ∧ E.ok ad.block ∧ ∃ vs, RCs E cs vs ∧ At E.W ad vs
  | .gd c x, v => (c = true → RT E x v) ∧ (c = false → v = undef)
def RO (E : En) (j : Nat) : Ob → Prop
  | .box cs => ∃ b vs e, E.m j = some b ∧ E.W.heap[b]? = some (.cells vs e (0, 0)) ∧ All2 (RC E) cs vs.toList
  | .wr l => (l = [] ∧ E.m j = none) ∨ ∃ (b : Nat) (vs : Array Value) (e : TypeId), E.m j = some b ∧ E.W.heap[b]? = some (.cells vs e (0, 0)) ∧ ∀ (i : Nat) (x : Nat), l[i]? = some x → vs[i]? = some (Value.int .u64 (x : Nat))
  | .sr sz l => (l = [] ∧ E.m j = none) ∨ ∃ (b : Nat) (vs : Array Value) (e : TypeId), E.m j = some b ∧ E.W.heap[b]? = some (.cells vs e (0, 0)) ∧ ∀ (i : Nat) cs, l[i]? = some cs → cs.length = sz ∧ ∃ us, RCs E cs us ∧ ∀ q u, us[q]? = some u → vs[i * sz + q]? = some u
def PV.labs : PV → List Nat
  | .c x => x.labs
  | .a cs => cs.flatMap Ce.labs
  | .s .. => []
def TV.labs : TV → List Nat
  | .v x => x.labs
  | .t l => l.flatMap PV.labs
  | .e _ => []
  | .gd _ x => x.labs
def Ob.labs : Ob → List Nat
  | .box cs => cs.flatMap Ce.labs
  | _ => []
/-- What stays readable from E to E', of what names objects in L alone. -/
structure EnLe (L : Nat → Prop) (E E' : En) : Prop where
  ok : ∀ b, E.ok b → E'.ok b
  blk : ∀ b, E.ok b → E'.W.heap[b]? = E.W.heap[b]?
  B : E'.B ≤ E.B
  lab : ∀ j, L j → ∀ o', E'.ob j = some o' → ∃ o, E.ob j = some o ∧ o'.sz = o.sz ∧ o'.isBox = o.isBox ∧ o.len ≤ o'.len ∧ (o'.len = o.len → E'.m j = E.m j ∧ ∀ b, E.m j = some b → E'.W.shape? b = E.W.shape? b)
section
variable {L : Nat → Prop} {E E' : En}
theorem cell_of_heap {W W' : World} {ad : Addr} (h : W'.heap[ad.block]? = W.heap[ad.block]?) : W'.cell? ad = W.cell? ad := by unfold World.cell?; rw [h]
theorem add_block (ad : Addr) (n : Nat) : (ad.add n).block = ad.block := by unfold Addr.add; split <;> rfl
theorem RC.mono (h : EnLe L E E') {x : Ce} {v : Value} (hl : ∀ j ∈ x.labs, L j) (hx : RC E x v) : RC E' x v := by
  cases x with
  | w fr l =>
    obtain ⟨a, c, h1, h2, h3⟩ := hx
    refine ⟨a, c, h1, h2, fun i x hi => ?_⟩
    obtain ⟨ad, h4, h5, h6, h7⟩ := h3 i x hi
    exact ⟨ad, h4, h.ok _ h5, fun hf => Nat.le_trans h.B (h6 hf), (cell_of_heap (by rw [add_block]; exact h.blk _ h5)).trans h7⟩
  | p j off =>
    refine ⟨hx.1, ?_⟩
    intro cs hcs
    obtain ⟨o, h1, h2, h3, h4, h5⟩ := h.lab j (hl j (by simp [Ce.labs])) _ hcs
    cases o with
    | box ds => rw [(h5 rfl).1]; exact hx.2 ds h1
    | _ => simp [Ob.isBox] at h3
  | q j n i off =>
    refine ⟨hx.1, ?_⟩
    intro o' ho' hle
    obtain ⟨o, h1, h2, h3, h4, h5⟩ := h.lab j (hl j (by simp [Ce.labs])) _ ho'
    obtain ⟨h6, h7⟩ := hx.2 o h1 (Nat.le_trans h4 hle)
    have he : o'.len = o.len := by omega
    rw [(h5 he).1, h2]
    exact ⟨by omega, h7⟩
  | r j n =>
    refine ⟨hx.1, ?_⟩
    intro o' ho' hle
    obtain ⟨o, h1, h2, h3, h4, h5⟩ := h.lab j (hl j (by simp [Ce.labs])) _ ho'
    obtain ⟨h6, h7⟩ := hx.2 o h1 (Nat.le_trans h4 hle)
    have he : o'.len = o.len := by omega
    obtain ⟨e1, e2⟩ := h5 he
    refine ⟨by omega, ?_⟩
    rcases h7 with ⟨g1, g2, g3⟩ | ⟨b, cap, e, g1, g2, g3, g4⟩
    · exact .inl ⟨g1, g2, by rw [e1]; exact g3⟩
    · exact .inr ⟨b, cap, e, by rw [e1]; exact g1, g2, g3, by rw [e2 b g1, h2]; exact g4⟩
  | x s => exact s.mono _ _ _ _ _ h.ok h.blk hx
  | _ => exact hx
theorem Ce.labs_of_pure {c : Ce} (h : c.pure = true) : c.labs = [] := by cases c <;> first | rfl | (simp [Ce.pure] at h)
theorem RCs.mono (h : EnLe L E E') {cs : List Ce} {vs : List Value} (hx : RCs E cs vs) : RCs E' cs vs :=
  ⟨hx.1, hx.2.mono' fun c hc v hv => RC.mono h (by simp [Ce.labs_of_pure (hx.1 c hc)]) hv⟩
theorem At.mono {W W' : World} {ad : Addr} {vs : List Value} (h : W'.heap[ad.block]? = W.heap[ad.block]?) (hx : At W ad vs) : At W' ad vs :=
  fun q u hq => (cell_of_heap (by rw [add_block]; exact h)).trans (hx q u hq)
theorem RP.mono (h : EnLe L E E') {x : PV} {v : Value} (hl : ∀ j ∈ x.labs, L j) (hx : RP E x v) : RP E' x v := by
  cases x with
  | c x => exact RC.mono h hl hx
  | a cs =>
    obtain ⟨vs, h1, h2⟩ := hx
    exact ⟨vs, h1, h2.mono' fun c hc v hv => RC.mono h (fun j hj => hl j (by simp only [PV.labs, List.mem_flatMap]; exact ⟨c, hc, hj⟩)) hv⟩
  | s fr l =>
    obtain ⟨a, c, sz, h1, h2, h3⟩ := hx
    refine ⟨a, c, sz, h1, h2, fun i cs hi => ?_⟩
    obtain ⟨h4, ad, h5, h6, h7, vs, h8, h9⟩ := h3 i cs hi
    exact ⟨h4, ad, h5, h.ok _ h6, fun hf => Nat.le_trans h.B (h7 hf), vs, h8.mono h, h9.mono (by rw [add_block]; exact h.blk _ h6)⟩
theorem RT.mono (h : EnLe L E E') {x : TV} {v : Value} (hl : ∀ j ∈ x.labs, L j) (hx : RT E x v) : RT E' x v := by
  induction x with
  | v x => exact RP.mono h hl hx
  | gd c x ih => exact ⟨fun hc => ih hl (hx.1 hc), hx.2⟩
  | t l =>
    obtain ⟨vs, h1, h2⟩ := hx
    exact ⟨vs, h1, h2.mono' fun c hc v hv => RP.mono h (fun j hj => hl j (by simp only [TV.labs, List.mem_flatMap]; exact ⟨c, hc, hj⟩)) hv⟩
  | e cs =>
    obtain ⟨ad, h1, h2, vs, h3, h4⟩ := hx
    exact ⟨ad, h1, h.ok _ h2, vs, h3.mono h, h4.mono (h.blk _ h2)⟩
/-- An object that stays as it is. -/
theorem RO.mono (h : EnLe L E E') {j : Nat} {o : Ob} (hl : ∀ k ∈ o.labs, L k) (hm : E'.m j = E.m j) (hb : ∀ b, E.m j = some b → E'.W.heap[b]? = E.W.heap[b]?) (hx : RO E j o) : RO E' j o := by
  cases o with
  | box cs =>
    obtain ⟨b, vs, e, h1, h2, h3⟩ := hx
    exact ⟨b, vs, e, by rw [hm]; exact h1, by rw [hb b h1]; exact h2, h3.mono' fun c hc v hv => RC.mono h (fun j hj => hl j (by simp only [Ob.labs, List.mem_flatMap]; exact ⟨c, hc, hj⟩)) hv⟩
  | wr l =>
    rcases hx with ⟨h1, h2⟩ | ⟨b, vs, e, h1, h2, h3⟩
    · exact .inl ⟨h1, by rw [hm]; exact h2⟩
    · exact .inr ⟨b, vs, e, by rw [hm]; exact h1, by rw [hb b h1]; exact h2, h3⟩
  | sr sz l =>
    rcases hx with ⟨h1, h2⟩ | ⟨b, vs, e, h1, h2, h3⟩
    · exact .inl ⟨h1, by rw [hm]; exact h2⟩
    · refine .inr ⟨b, vs, e, by rw [hm]; exact h1, by rw [hb b h1]; exact h2, fun i cs hi => ?_⟩
      obtain ⟨h4, us, h5, h6⟩ := h3 i cs hi
      exact ⟨h4, us, h5.mono h, h6⟩
theorem EnLe.refl (E : En) : EnLe L E E := ⟨fun _ h => h, fun _ _ => rfl, Nat.le_refl _, fun j _ o' h => ⟨o', h, rfl, rfl, Nat.le_refl _, fun _ => ⟨rfl, fun _ _ => rfl⟩⟩⟩
end
end Go.Proofs.YtbhokdhkfodpfaaGreatDoor
/- The operations that touch no memory, on pure values, and that the machine does the same. No condition. -/
namespace Go.Proofs.YtbhokdhkfodpfaaGreatDoor
set_option linter.unusedVariables false
set_option linter.unusedSimpArgs false
/-- A number of a kind. -/
def mkI : IntKind → Int → Option Ce
  | .u64, n => if 0 ≤ n then some (.n n.toNat) else none
  | k, n => some (.i k n)
/-- A value that names no memory, as a cell. -/
def cellOf : Value → Option Ce
  | .bool b => some (.b b)
  | .int k n => mkI k n
  | .slice none 0 0 => some .z
  | .pointer none => some .o
  | .func (.func f) x y => if x.size = 0 ∧ y.size = 0 then some (.f f) else none
  | .nilFunc => some (.x nilSx)
  | _ => none
def cellsOf : List Value → Option (List Ce)
  | [] => some []
  | v :: vs => match cellOf v, cellsOf vs with
    | some c, some cs => some (c :: cs)
    | _, _ => none
def cval : Value → Option TV
  | .agg cs => (cellsOf cs.toList).map fun l => .v (.a l)
  | v => (cellOf v).map fun c => .v (.c c)
inductive TK where
  | int (k : IntKind)
  | bool
  | slice (e : TypeId)
  | struct (fs : List (Nat × Nat))
  | array (n : Nat) (e : TypeId)
  | other
/-- What is known of a type. -/
structure TI where
  size : Nat
  bytes : Nat
  zero : List Ce
  kind : TK
def TK.agg : TK → Bool
  | .struct _ | .array .. => true
  | _ => false
/-- Where the fields lie, and how many cells they have. -/
def placesOf (P : Program) : List Field → Option (List (Nat × Nat))
  | [] => some []
  | f :: fs => match P.info? f.type, placesOf P fs with
    | some i, some l => some ((f.offset, i.size) :: l)
    | _, _ => none
def tkOf (P : Program) : TypeDesc → Option TK
  | .int k => some (.int k)
  | .bool => some .bool
  | .slice e => some (.slice e)
  | .struct fs => (placesOf P fs.toList).map .struct
  | .array n e => some (.array n e)
  | _ => some .other
def tiOf (P : Program) (t : TypeId) : Option TI :=
  match P.info? t, P.underlying t with
  | some i, some d => match i.zero, tkOf P d with
    | some z, some k => match cellsOf z.cells.toList with
      | some l => if z.cells.size = i.size then some ⟨i.size, i.bytes, l, k⟩ else none
      | none => none
    | _, _ => none
  | _, _ => none
def inK (k : IntKind) (n : Int) : Prop := k.min ≤ n ∧ n ≤ k.max
@[go_sem] theorem inK_i64 (n : Int) : inK .i64 n ↔ (-9223372036854775808 ≤ n ∧ n ≤ 9223372036854775807) := by
  unfold inK; simp [IntKind.min, IntKind.max, IntKind.signed, IntKind.bits]
@[go_sem] theorem inK_u8 (n : Int) : inK .u8 n ↔ (0 ≤ n ∧ n ≤ 255) := by
  unfold inK; simp [IntKind.min, IntKind.max, IntKind.signed, IntKind.bits]
theorem wrap_in {k : IntKind} {n : Int} (h : inK k n) : k.wrap n = n := by
  unfold inK at h
  unfold IntKind.wrap
  cases k <;> simp [IntKind.min, IntKind.max, IntKind.signed, IntKind.bits] at h ⊢ <;> first | omega | (split <;> omega)
abbrev M64 : Nat := 18446744073709551616
theorem wrap_u64 (n : Int) : IntKind.u64.wrap n = n % 18446744073709551616 := by
  unfold IntKind.wrap; simp [IntKind.signed, IntKind.bits]
theorem wrap_u64_nat (n : Nat) : IntKind.u64.wrap n = ((n % M64 : Nat) : Int) := by rw [wrap_u64]; simp
abbrev TV.bool (x : Bool) : TV := .v (.c (.b x))
abbrev TV.int (k : IntKind) (n : Int) : TV := .v (.c (.i k n))
abbrev TV.nat (n : Nat) : TV := .v (.c (.n n))
/-- Two numbers of a kind that is not u64; md: exact. -/
def binI (md : Bool) (op : BinOp) (k : IntKind) (a b : Int) : Option (Prop × TV) :=
  match op with
  | .add => if md then some (inK k (a + b), .int k (a + b)) else some (True, .int k (k.wrap (a + b)))
  | .sub => if md then some (inK k (a - b), .int k (a - b)) else some (True, .int k (k.wrap (a - b)))
  | .mul => if md then some (inK k (a * b), .int k (a * b)) else some (True, .int k (k.wrap (a * b)))
  | .quo => if md then some (0 ≤ a ∧ 0 < b ∧ inK k (a / b), .int k (a / b)) else some (b ≠ 0, .int k (k.wrap (a.tdiv b)))
  | .rem => if md then some (0 ≤ a ∧ 0 < b, .int k (a % b)) else some (b ≠ 0, .int k (a.tmod b))
  | .and => if k = .i64 then some (0 ≤ a ∧ a ≤ 9223372036854775807 ∧ 0 ≤ b ∧ b ≤ 9223372036854775807, .int k ((a.toNat &&& b.toNat : Nat) : Int)) else none
  | .or => if k = .i64 then some (0 ≤ a ∧ a ≤ 9223372036854775807 ∧ 0 ≤ b ∧ b ≤ 9223372036854775807, .int k ((a.toNat ||| b.toNat : Nat) : Int)) else none
  | .shl => some (0 ≤ b ∧ b < k.bits ∧ inK k (a * 2 ^ b.toNat), .int k (a * 2 ^ b.toNat))
  | .shr => some (0 ≤ b ∧ b < k.bits, .int k (a / 2 ^ b.toNat))
  | .eql => some (True, .bool (a == b))
  | .neq => some (True, .bool (a != b))
  | .lss => some (True, .bool (decide (a < b)))
  | .leq => some (True, .bool (decide (a ≤ b)))
  | .gtr => some (True, .bool (decide (a > b)))
  | .geq => some (True, .bool (decide (a ≥ b)))
  | _ => none
/-- Two words. -/
def binN (md : Bool) (op : BinOp) (a b : Nat) : Option (Prop × TV) :=
  match op with
  | .add => if md then some (a + b < M64, .nat (a + b)) else some (True, .nat ((a + b) % M64))
  | .sub => if md then some (b ≤ a ∧ a < M64, .nat (a - b)) else some (b ≤ M64, .nat ((a + M64 - b) % M64))
  | .mul => if md then some (a * b < M64, .nat (a * b)) else some (True, .nat (a * b % M64))
  | .quo => some (0 < b ∧ a < M64, .nat (a / b))
  | .rem => some (0 < b, .nat (a % b))
  | .and => some (a < M64 ∧ b < M64, .nat (a &&& b))
  | .or => some (a < M64 ∧ b < M64, .nat (a ||| b))
  | .xor => some (a < M64 ∧ b < M64, .nat (a ^^^ b))
  | .shl => some (True, .nat (a * 2 ^ b % M64))
  | .shr => some (a < M64, .nat (a / 2 ^ b))
  | .eql => some (True, .bool (a == b))
  | .neq => some (True, .bool (a != b))
  | .lss => some (True, .bool (decide (a < b)))
  | .leq => some (True, .bool (decide (a ≤ b)))
  | .gtr => some (True, .bool (decide (a > b)))
  | .geq => some (True, .bool (decide (a ≥ b)))
  | _ => none
/-- A word shifted by a number. -/
def binS (op : BinOp) (a : Nat) (s : Int) : Option (Prop × TV) :=
  match op with
  | .shl => some (0 ≤ s, .nat (a * 2 ^ s.toNat % M64))
  | .shr => some (0 ≤ s ∧ a < M64, .nat (a / 2 ^ s.toNat))
  | _ => none
def isBool (P : Program) (t : TypeId) : Bool :=
  match P.underlying t with
  | some .bool => true
  | _ => false
def bin (P : Program) (md : Bool) (op : BinOp) (t : TypeId) (x y : TV) : Option (Prop × TV) :=
  match x, y with
  | .v (.c (.i k a)), .v (.c (.i k' b)) => if k = k' ∧ k ≠ .u64 then binI md op k a b else none
  | .v (.c (.n a)), .v (.c (.n b)) => binN md op a b
  | .v (.c (.n a)), .v (.c (.i k s)) => if k ≠ .u64 then binS op a s else none
  | .v (.c (.b a)), .v (.c (.b b)) => if isBool P t then (match op with
    | .eql => some (True, .bool (a == b))
    | .neq => some (True, .bool (!(a == b)))
    | _ => none) else none
  | _, _ => none
def un (md : Bool) (op : UnOp) (x : TV) : Option (Prop × TV) :=
  match op, x with
  | .not, .v (.c (.b a)) => some (True, .bool (!a))
  | .neg, .v (.c (.i k a)) => if k ≠ .u64 then (if md then some (inK k (-a), .int k (-a)) else some (True, .int k (k.wrap (-a)))) else none
  | .xor, .v (.c (.n a)) => some (a < M64, .nat (18446744073709551615 ^^^ a))
  | _, _ => none
def conv (P : Program) (md : Bool) (src dst : TypeId) (x : TV) : Option (Prop × TV) :=
  match tiOf P src, tiOf P dst, x with
  | some ⟨_, _, _, .int _⟩, some ⟨_, _, _, .int .u64⟩, .v (.c (.i k n)) => if k ≠ .u64 then (if md then some (0 ≤ n ∧ n < M64, .nat n.toNat) else some (True, .nat (n % 18446744073709551616).toNat)) else none
  | some ⟨_, _, _, .int _⟩, some ⟨_, _, _, .int .u64⟩, .v (.c (.n n)) => some (n < M64, .nat n)
  | some ⟨_, _, _, .int _⟩, some ⟨_, _, _, .int k'⟩, .v (.c (.i k n)) => if k ≠ .u64 then (if md then some (inK k' n, .int k' n) else some (True, .int k' (k'.wrap n))) else none
  | some ⟨_, _, _, .int _⟩, some ⟨_, _, _, .int k'⟩, .v (.c (.n n)) => if md then some (inK k' n, .int k' n) else some (True, .int k' (k'.wrap n))
  | _, _, _ => none
def PV.cells : PV → Option (List Ce)
  | .c x => some [x]
  | .a cs => some cs
  | .s .. => none
def TV.cells : TV → Option (List Ce)
  | .v x => x.cells
  | _ => none
/-- Cells put over others, from off on. -/
def over (cs : List Ce) (off : Nat) (new : List Ce) : List Ce := cs.take off ++ new ++ cs.drop (off + new.length)
def build (fs : List (Nat × Nat)) (ρ : Operand → Option TV) : List (Nat × Operand) → List Ce → Option (List Ce)
  | [], cs => some cs
  | (i, x) :: rest, cs => match fs[i]?, ρ x with
    | some (off, sz), some v => match v.cells with
      | some new => if new.length = sz ∧ off + new.length ≤ cs.length then build fs ρ rest (over cs off new) else none
      | _ => none
    | _, _ => none
def ints (ρ : Operand → Option TV) : List Operand → Option (List Int)
  | [] => some []
  | x :: xs => match ρ x, ints ρ xs with
    | some (.v (.c (.i .i64 n))), some l => some (n :: l)
    | _, _ => none
def minL : Int → List Int → Int
  | x, [] => x
  | x, y :: l => minL (if y < x then y else x) l
def maxL : Int → List Int → Int
  | x, [] => x
  | x, y :: l => maxL (if y > x then y else x) l
/-- One of two. -/
def pk (c a b : Bool) : Bool := if c then a else b
@[go_sem] theorem pk_false (c a : Bool) : pk c a false = (c && a) := by cases c <;> rfl
@[go_sem] theorem pk_true (c b : Bool) : pk c true b = (c || b) := by cases c <;> rfl
/-- A bool, and whether it is there. -/
def TV.gbool : TV → Option (Bool × Bool)
  | .v (.c (.b a)) => some (true, a)
  | .gd g (.v (.c (.b a))) => some (g, a)
  | _ => none
/-- A builtin that touches no memory. -/
def stepB (P : Program) (ρ : Operand → Option TV) : Builtin → List Operand → List TypeId → Option (Prop × TV)
  | .len, [x], [t] => match tiOf P t, ρ x with
    | some ⟨_, _, _, .slice _⟩, some (.v (.c (.w _ l))) => some (True, .int .i64 l.length)
    | some ⟨_, _, _, .slice _⟩, some (.v (.c .z)) => some (True, .int .i64 0)
    | some ⟨_, _, _, .slice _⟩, some (.v (.s _ l)) => some (True, .int .i64 l.length)
    | _, _ => none
  | .min, az, _ => match ints ρ az with
    | some (x :: l) => some (True, .int .i64 (minL x l))
    | _ => none
  | .max, az, _ => match ints ρ az with
    | some (x :: l) => some (True, .int .i64 (maxL x l))
    | _ => none
  | _, _, _ => none
/-- An operation that touches no memory: what it asks, what it yields. -/
def stepV (P : Program) (md : Bool) (ρ : Operand → Option TV) : Op → Option (Prop × TV)
  | .move x => (ρ x).map fun v => (True, v)
  | .assign x => (ρ x).map fun v => (True, v)
  | .pick c a b => match ρ c, ρ a, ρ b with
    | some c, some a, some b => match c.gbool, a.gbool, b.gbool with
      | some (gc, c), some (ga, a), some (gb, b) => some (gc = true ∧ (c = true → ga = true) ∧ (c = false → gb = true), .bool (pk c a b))
      | _, _, _ => none
    | _, _, _ => none
  | .binOp op t x y _ => match ρ x, ρ y with
    | some x, some y => bin P md op t x y
    | _, _ => none
  | .unOp op _ x => match ρ x with
    | some x => un md op x
    | none => none
  | .convert src dst x => match ρ x with
    | some x => conv P md src dst x
    | none => none
  | .extract x i => match ρ x with
    | some (.t l) => match l[i]? with
      | some v => some (True, .v v)
      | none => none
    | _ => none
  | .build t parts => match tiOf P t with
    | some ⟨_, _, zero, .struct fs⟩ => match build fs ρ parts.toList zero with
      | some cs => some (True, .v (.a cs))
      | none => none
    | _ => none
  | .makeFunc (.func f) x y => if x.size = 0 ∧ y.size = 0 then some (True, .v (.c (.f f))) else none
  | .index t x ix => match tiOf P t, ρ x, ρ ix with
    | some ⟨_, _, _, .array n e⟩, some (.v (.a cs)), some (.v (.c (.i _ i))) => match tiOf P e with
      | some ⟨1, _, _, k⟩ => if k.agg then none else some (0 ≤ i ∧ i < n ∧ n = cs.length, .v (.c (cs.getD i.toNat .z)))
      | _ => none
    | _, _, _ => none
  | .call { callee := .builtin bi, args := az, argTypes := ts } => stepB P ρ bi az.toList ts.toList
  | _ => none
end Go.Proofs.YtbhokdhkfodpfaaGreatDoor
/- What 'stepV' says, the machine does. No condition. -/
namespace Go.Proofs.YtbhokdhkfodpfaaGreatDoor
set_option linter.unusedVariables false
set_option linter.unusedSimpArgs false
section
variable {P : Program} {E : En} {W : World}
theorem All2.nil_iff {α β : Type} {R : α → β → Prop} {bs : List β} (h : All2 R [] bs) : bs = [] := by cases h; rfl
theorem All2.cons_iff {α β : Type} {R : α → β → Prop} {a : α} {az : List α} {bs : List β} (h : All2 R (a :: az) bs) : ∃ b l, bs = b :: l ∧ R a b ∧ All2 R az l := by
  cases h with
  | cons h1 h2 => exact ⟨_, _, rfl, h1, h2⟩
theorem mkI_RC {k : IntKind} {n : Int} {c : Ce} (h : mkI k n = some c) : RC E c (.int k n) := by
  unfold mkI at h
  split at h
  · split at h
    · injection h with h; subst h; show Value.int _ _ = Value.int _ _; congr 1; omega
    · cases h
  · injection h with h; subst h; rfl
theorem cellOf_RC {v : Value} {c : Ce} (h : cellOf v = some c) : RC E c v := by
  unfold cellOf at h
  split at h
  · injection h with h; subst h; rfl
  · exact mkI_RC h
  · injection h with h; subst h; rfl
  · injection h with h; subst h; rfl
  · split at h
    · rename_i hs
      injection h with h; subst h
      show Value.func _ _ _ = Value.func _ _ _
      rw [Array.eq_empty_of_size_eq_zero hs.1, Array.eq_empty_of_size_eq_zero hs.2]
    · cases h
  · injection h with h; subst h; rfl
  · cases h
theorem mkI_pure {k : IntKind} {n : Int} {c : Ce} (h : mkI k n = some c) : c.pure = true := by
  unfold mkI at h
  split at h
  · split at h
    · injection h with h; subst h; rfl
    · cases h
  · injection h with h; subst h; rfl
theorem cellOf_pure {v : Value} {c : Ce} (h : cellOf v = some c) : c.pure = true := by
  unfold cellOf at h
  split at h
  · injection h with h; subst h; rfl
  · exact mkI_pure h
  · injection h with h; subst h; rfl
  · injection h with h; subst h; rfl
  · split at h
    · injection h with h; subst h; rfl
    · cases h
  · injection h with h; subst h; rfl
  · cases h
theorem cellsOf_RCs (E : En) : ∀ {vs : List Value} {cs : List Ce}, cellsOf vs = some cs → RCs E cs vs
  | [], cs, h => by simp only [cellsOf] at h; injection h with h; subst h; exact ⟨by simp, .nil⟩
  | v :: vs, cs, h => by
    simp only [cellsOf] at h
    split at h
    · rename_i c cs' h1 h2
      injection h with h; subst h
      obtain ⟨h3, h4⟩ := cellsOf_RCs E h2
      exact ⟨by intro x hx; rcases List.mem_cons.1 hx with rfl | hx; exact cellOf_pure h1; exact h3 x hx, .cons (cellOf_RC h1) h4⟩
    · cases h
theorem cval_RT {v : Value} {x : TV} (h : cval v = some x) : RT E x v := by
  unfold cval at h
  split at h
  · rename_i cs
    cases hc : cellsOf cs.toList with
    | none => simp [hc] at h
    | some l => simp [hc] at h; subst h; exact ⟨cs, rfl, (cellsOf_RCs _ hc).2⟩
  · cases hc : cellOf v with
    | none => simp [hc] at h
    | some l => simp [hc] at h; subst h; exact cellOf_RC hc
/-- What 'tiOf' says. -/
theorem tiOf_spec {t : TypeId} {ti : TI} (h : tiOf P t = some ti) : ∃ i z d, P.info? t = some i ∧ P.underlying t = some d ∧ i.size = ti.size ∧ i.bytes = ti.bytes ∧ i.zero = some z ∧ (∀ E, RCs E ti.zero z.cells.toList) ∧ z.cells.size = ti.size ∧ tkOf P d = some ti.kind := by
  unfold tiOf at h
  split at h
  · rename_i i d h1 h2
    split at h
    · rename_i z k h3 h6
      split at h
      · rename_i l h4
        split at h
        · rename_i h5
          injection h with h; subst h
          exact ⟨i, z, d, h1, h2, rfl, rfl, h3, fun E => cellsOf_RCs E h4, h5, h6⟩
        · cases h
      · cases h
    · cases h
  · cases h
@[simp] theorem run_typeInfo_ {t : TypeId} {i : TypeInfo} (h : P.info? t = some i) (w : World) : (typeInfo t).run P w = .ok i w := by simp [typeInfo, h]
theorem run_sizeOf_ {t : TypeId} {i : TypeInfo} (h : P.info? t = some i) (w : World) : (sizeOf t).run P w = .ok i.size w := by simp [sizeOf, typeInfo, h]
theorem run_underlying_ {t : TypeId} {d : TypeDesc} (h : P.underlying t = some d) (w : World) : (underlying t).run P w = .ok d w := by simp [underlying, h]
theorem run_zeroValue_ {t : TypeId} {i : TypeInfo} {z : Value} (h : P.info? t = some i) (hz : i.zero = some z) (w : World) : (zeroValue t).run P w = .ok z w := by simp [zeroValue, typeInfo, h, hz]
theorem run_isAgg_ {t : TypeId} {d : TypeDesc} {k : TK} (h : P.underlying t = some d) (hk : tkOf P d = some k) (w : World) : (isAgg t).run P w = .ok k.agg w := by
  cases d <;> simp [tkOf] at hk <;> (try (obtain ⟨l, _, rfl⟩ := hk)) <;> (try subst hk) <;> simp [isAgg, underlying, h, TK.agg]
theorem bits_or (a b : Nat) (ha : a < M64) (hb : b < M64) : IntKind.u64.wrap ((BitVec.ofInt 64 (a : Int) ||| BitVec.ofInt 64 (b : Int)).toNat : Int) = ((a ||| b : Nat) : Int) := by
  have h1 : (a ||| b) < 2 ^ 64 := Nat.or_lt_two_pow (by simpa [M64] using ha) (by simpa [M64] using hb)
  rw [wrap_u64, BitVec.toNat_or, BitVec.ofInt_natCast, BitVec.ofInt_natCast, BitVec.toNat_ofNat, BitVec.toNat_ofNat, Nat.mod_eq_of_lt (by simpa [M64] using ha), Nat.mod_eq_of_lt (by simpa [M64] using hb)]
  omega
theorem bits_and (a b : Nat) (ha : a < M64) (hb : b < M64) : IntKind.u64.wrap ((BitVec.ofInt 64 (a : Int) &&& BitVec.ofInt 64 (b : Int)).toNat : Int) = ((a &&& b : Nat) : Int) := by
  have h1 : (a &&& b) < 2 ^ 64 := Nat.and_lt_two_pow _ (by simpa [M64] using hb)
  rw [wrap_u64, BitVec.toNat_and, BitVec.ofInt_natCast, BitVec.ofInt_natCast, BitVec.toNat_ofNat, BitVec.toNat_ofNat, Nat.mod_eq_of_lt (by simpa [M64] using ha), Nat.mod_eq_of_lt (by simpa [M64] using hb)]
  omega
theorem bits_xor (a b : Nat) (ha : a < M64) (hb : b < M64) : IntKind.u64.wrap ((BitVec.ofInt 64 (a : Int) ^^^ BitVec.ofInt 64 (b : Int)).toNat : Int) = ((a ^^^ b : Nat) : Int) := by
  have h1 : (a ^^^ b) < 2 ^ 64 := Nat.xor_lt_two_pow (by simpa [M64] using ha) (by simpa [M64] using hb)
  rw [wrap_u64, BitVec.toNat_xor, BitVec.ofInt_natCast, BitVec.ofInt_natCast, BitVec.toNat_ofNat, BitVec.toNat_ofNat, Nat.mod_eq_of_lt (by simpa [M64] using ha), Nat.mod_eq_of_lt (by simpa [M64] using hb)]
  omega
theorem wrap_i64_nat {n : Nat} (h : n < 2 ^ 63) : IntKind.i64.wrap (n : Int) = n := wrap_in (by rw [inK_i64]; omega)
theorem bits_i64 (f : Nat → Nat → Nat) (hf : ∀ a b, a < 2 ^ 63 → b < 2 ^ 63 → f a b < 2 ^ 63) (g : BitVec 64 → BitVec 64 → BitVec 64) (hg : ∀ x y, (g x y).toNat = f x.toNat y.toNat) (a b : Int) (ha : 0 ≤ a) (ha' : a ≤ 9223372036854775807) (hb : 0 ≤ b) (hb' : b ≤ 9223372036854775807) :
    IntKind.i64.wrap ((g (BitVec.ofInt 64 a) (BitVec.ofInt 64 b)).toNat : Int) = ((f a.toNat b.toNat : Nat) : Int) := by
  obtain ⟨x, rfl⟩ := Int.eq_ofNat_of_zero_le ha
  obtain ⟨y, rfl⟩ := Int.eq_ofNat_of_zero_le hb
  rw [hg, BitVec.ofInt_natCast, BitVec.ofInt_natCast, BitVec.toNat_ofNat, BitVec.toNat_ofNat, Nat.mod_eq_of_lt (by omega), Nat.mod_eq_of_lt (by omega)]
  exact wrap_i64_nat (hf x y (by omega) (by omega))
theorem two_mul_pow_mod (a s : Nat) (h : 64 ≤ s) : a * 2 ^ s % M64 = 0 := by
  have : 2 ^ s = M64 * 2 ^ (s - 64) := by rw [show M64 = 2 ^ 64 from rfl, ← Nat.pow_add]; congr 1; omega
  rw [this, Nat.mul_left_comm]; exact Nat.mul_mod_right M64 _
theorem shl_u64 (a s : Nat) : IntKind.u64.wrap ((a : Int) * 2 ^ (min s 64)) = ((a * 2 ^ s % M64 : Nat) : Int) := by
  rw [wrap_u64]
  by_cases h : s ≤ 64
  · rw [Nat.min_eq_left h, Int.natCast_emod, Int.natCast_mul, Int.natCast_pow]; rfl
  · rw [Nat.min_eq_right (by omega), two_mul_pow_mod a s (by omega)]; omega
theorem shr_u64 (a s : Nat) (h : a < M64) : (a : Int).fdiv (2 ^ (min s 64)) = ((a / 2 ^ s : Nat) : Int) := by
  rw [Int.fdiv_eq_ediv_of_nonneg _ (Int.le_of_lt (Int.pow_pos (by omega)))]
  by_cases hs : s ≤ 64
  · rw [Nat.min_eq_left hs]; push_cast; rfl
  · rw [Nat.min_eq_right (by omega)]
    have h1 : a / 2 ^ s = 0 := Nat.div_eq_of_lt (Nat.lt_of_lt_of_le h (show 2 ^ 64 ≤ 2 ^ s from Nat.pow_le_pow_right (by omega) (by omega)))
    rw [h1]; have h' : a < 18446744073709551616 := h; have h2 : (2 : Int) ^ 64 = 18446744073709551616 := rfl; rw [h2]; omega
end
end Go.Proofs.YtbhokdhkfodpfaaGreatDoor
/- What 'stepV' says, the machine does: the operations one by one. No condition. -/
namespace Go.Proofs.YtbhokdhkfodpfaaGreatDoor
set_option linter.unusedVariables false
set_option linter.unusedSimpArgs false
section
variable {P : Program} {E : En} {W : World}
theorem rt_i {k : IntKind} {n : Int} {v : Value} (h : RT E (.v (.c (.i k n))) v) : v = .int k n := h
theorem rt_n {n : Nat} {v : Value} (h : RT E (.v (.c (.n n))) v) : v = .int .u64 n := h
theorem rt_b {n : Bool} {v : Value} (h : RT E (.v (.c (.b n))) v) : v = .bool n := h
theorem binI_run {md : Bool} {op : BinOp} {k : IntKind} {a b : Int} {p : Prop} {r : TV} (t : TypeId) (h : binI md op k a b = some (p, r)) (hp : p) :
    ∃ z, (binOp op t (.int k a) (.int k b)).run P W = .ok z W ∧ RT E r z := by
  unfold binI at h
  cases op <;> simp only [] at h
  case add => split at h <;> (simp only [Option.some.injEq, Prod.mk.injEq] at h; obtain ⟨rfl, rfl⟩ := h; refine ⟨.int k (k.wrap (a + b)), by simp [binOp, Op.intArith], ?_⟩); (exact congrArg _ (wrap_in hp)); rfl
  case sub => split at h <;> (simp only [Option.some.injEq, Prod.mk.injEq] at h; obtain ⟨rfl, rfl⟩ := h; refine ⟨.int k (k.wrap (a - b)), by simp [binOp, Op.intArith], ?_⟩); (exact congrArg _ (wrap_in hp)); rfl
  case mul => split at h <;> (simp only [Option.some.injEq, Prod.mk.injEq] at h; obtain ⟨rfl, rfl⟩ := h; refine ⟨.int k (k.wrap (a * b)), by simp [binOp, Op.intArith], ?_⟩); (exact congrArg _ (wrap_in hp)); rfl
  case quo =>
    split at h <;> (simp only [Option.some.injEq, Prod.mk.injEq] at h; obtain ⟨rfl, rfl⟩ := h)
    · obtain ⟨h1, h2, h3⟩ := hp
      refine ⟨.int k (k.wrap (a.tdiv b)), by simp [binOp, Op.intDiv, show b ≠ 0 by omega], ?_⟩
      rw [Int.tdiv_eq_ediv_of_nonneg h1, wrap_in h3]; rfl
    · exact ⟨.int k (k.wrap (a.tdiv b)), by simp [binOp, Op.intDiv, hp], rfl⟩
  case rem =>
    split at h <;> (simp only [Option.some.injEq, Prod.mk.injEq] at h; obtain ⟨rfl, rfl⟩ := h)
    · obtain ⟨h1, h2⟩ := hp
      refine ⟨.int k (a.tmod b), by simp [binOp, Op.intDiv, show b ≠ 0 by omega], ?_⟩
      rw [Int.tmod_eq_emod_of_nonneg h1]; rfl
    · exact ⟨.int k (a.tmod b), by simp [binOp, Op.intDiv, hp], rfl⟩
  case and =>
    split at h
    · rename_i hk; subst hk
      simp only [Option.some.injEq, Prod.mk.injEq] at h; obtain ⟨rfl, rfl⟩ := h
      obtain ⟨h1, h2, h3, h4⟩ := hp
      refine ⟨_, by simp [binOp, Op.intBits]; rfl, ?_⟩
      exact congrArg _ (bits_i64 (· &&& ·) (fun a b _ hb => Nat.and_lt_two_pow _ hb) (· &&& ·) (fun x y => BitVec.toNat_and ..) a b h1 h2 h3 h4)
    · cases h
  case or =>
    split at h
    · rename_i hk; subst hk
      simp only [Option.some.injEq, Prod.mk.injEq] at h; obtain ⟨rfl, rfl⟩ := h
      obtain ⟨h1, h2, h3, h4⟩ := hp
      refine ⟨_, by simp [binOp, Op.intBits]; rfl, ?_⟩
      exact congrArg _ (bits_i64 (· ||| ·) (fun a b ha hb => Nat.or_lt_two_pow ha hb) (· ||| ·) (fun x y => BitVec.toNat_or ..) a b h1 h2 h3 h4)
    · cases h
  case shl =>
    simp only [Option.some.injEq, Prod.mk.injEq] at h; obtain ⟨rfl, rfl⟩ := h
    obtain ⟨h1, h2, h3⟩ := hp
    refine ⟨.int k (k.wrap (a * 2 ^ (min b.toNat k.bits))), by simp [binOp, Op.shift, show ¬ b < 0 by omega], ?_⟩
    rw [Nat.min_eq_left (by omega), wrap_in h3]; rfl
  case shr =>
    simp only [Option.some.injEq, Prod.mk.injEq] at h; obtain ⟨rfl, rfl⟩ := h
    obtain ⟨h1, h2⟩ := hp
    refine ⟨.int k (a.fdiv (2 ^ (min b.toNat k.bits))), by simp [binOp, Op.shift, show ¬ b < 0 by omega], ?_⟩
    rw [Nat.min_eq_left (by omega), Int.fdiv_eq_ediv_of_nonneg _ (Int.le_of_lt (Int.pow_pos (by omega)))]; rfl
  case xor => cases h
  case andNot => cases h
  all_goals (simp only [Option.some.injEq, Prod.mk.injEq] at h; obtain ⟨rfl, rfl⟩ := h; exact ⟨_, by simp [binOp, Op.intCmp], rfl⟩)
theorem natbeq (a b : Nat) : ((a : Int) == (b : Int)) = (a == b) := by
  rw [Bool.eq_iff_iff, beq_iff_eq, beq_iff_eq]; omega
theorem natbne (a b : Nat) : ((a : Int) != (b : Int)) = (a != b) := by rw [bne, natbeq]; rfl
theorem binN_run {md : Bool} {op : BinOp} {a b : Nat} {p : Prop} {r : TV} (t : TypeId) (h : binN md op a b = some (p, r)) (hp : p) :
    ∃ z, (binOp op t (.int .u64 a) (.int .u64 b)).run P W = .ok z W ∧ RT E r z := by
  unfold binN at h
  cases op <;> simp only [] at h
  case add =>
    refine ⟨.int .u64 (IntKind.u64.wrap ((a + b : Nat) : Int)), by simp [binOp, Op.intArith], ?_⟩
    rw [wrap_u64_nat]
    split at h <;> (simp only [Option.some.injEq, Prod.mk.injEq] at h; obtain ⟨rfl, rfl⟩ := h)
    · rw [Nat.mod_eq_of_lt hp]; rfl
    · rfl
  case sub =>
    refine ⟨.int .u64 (IntKind.u64.wrap ((a : Int) - b)), by simp [binOp, Op.intArith], ?_⟩
    rw [wrap_u64]
    split at h <;> (simp only [Option.some.injEq, Prod.mk.injEq] at h; obtain ⟨rfl, rfl⟩ := h)
    · obtain ⟨h1, h2⟩ := hp
      show Value.int _ _ = Value.int _ _
      congr 1; simp only [M64] at h2; omega
    · show Value.int _ _ = Value.int _ _
      congr 1; simp only [M64] at hp ⊢; omega
  case mul =>
    refine ⟨.int .u64 (IntKind.u64.wrap ((a * b : Nat) : Int)), by simp [binOp, Op.intArith], ?_⟩
    rw [wrap_u64_nat]
    split at h <;> (simp only [Option.some.injEq, Prod.mk.injEq] at h; obtain ⟨rfl, rfl⟩ := h)
    · rw [Nat.mod_eq_of_lt hp]; rfl
    · rfl
  case quo =>
    simp only [Option.some.injEq, Prod.mk.injEq] at h; obtain ⟨rfl, rfl⟩ := h
    obtain ⟨h1, h2⟩ := hp
    refine ⟨.int .u64 (IntKind.u64.wrap ((a : Int).tdiv b)), by simp [binOp, Op.intDiv, show ¬ b = 0 by omega], ?_⟩
    rw [Int.tdiv_eq_ediv_of_nonneg (by omega), ← Int.natCast_ediv, wrap_u64_nat, Nat.mod_eq_of_lt (Nat.lt_of_le_of_lt (Nat.div_le_self _ _) h2)]; rfl
  case rem =>
    simp only [Option.some.injEq, Prod.mk.injEq] at h; obtain ⟨rfl, rfl⟩ := h
    refine ⟨.int .u64 ((a : Int).tmod b), by simp [binOp, Op.intDiv, show ¬ b = 0 by omega], ?_⟩
    rw [Int.tmod_eq_emod_of_nonneg (by omega), ← Int.natCast_emod]; rfl
  case and =>
    simp only [Option.some.injEq, Prod.mk.injEq] at h; obtain ⟨rfl, rfl⟩ := h
    exact ⟨_, by simp [binOp, Op.intBits]; rfl, congrArg _ (bits_and a b hp.1 hp.2)⟩
  case or =>
    simp only [Option.some.injEq, Prod.mk.injEq] at h; obtain ⟨rfl, rfl⟩ := h
    exact ⟨_, by simp [binOp, Op.intBits]; rfl, congrArg _ (bits_or a b hp.1 hp.2)⟩
  case xor =>
    simp only [Option.some.injEq, Prod.mk.injEq] at h; obtain ⟨rfl, rfl⟩ := h
    exact ⟨_, by simp [binOp, Op.intBits]; rfl, congrArg _ (bits_xor a b hp.1 hp.2)⟩
  case shl =>
    simp only [Option.some.injEq, Prod.mk.injEq] at h; obtain ⟨rfl, rfl⟩ := h
    exact ⟨.int .u64 (IntKind.u64.wrap ((a : Int) * 2 ^ (min b 64))), by simp [binOp, Op.shift, IntKind.bits, show ¬ (b : Int) < 0 by omega], congrArg _ (shl_u64 a b)⟩
  case shr =>
    simp only [Option.some.injEq, Prod.mk.injEq] at h; obtain ⟨rfl, rfl⟩ := h
    exact ⟨.int .u64 ((a : Int).fdiv (2 ^ (min b 64))), by simp [binOp, Op.shift, IntKind.bits, show ¬ (b : Int) < 0 by omega], congrArg _ (shr_u64 a b hp)⟩
  case andNot => cases h
  case eql => simp only [Option.some.injEq, Prod.mk.injEq] at h; obtain ⟨rfl, rfl⟩ := h; exact ⟨.bool ((a : Int) == (b : Int)), by simp [binOp, Op.intCmp], congrArg _ (natbeq a b)⟩
  case neq => simp only [Option.some.injEq, Prod.mk.injEq] at h; obtain ⟨rfl, rfl⟩ := h; exact ⟨.bool ((a : Int) != (b : Int)), by simp [binOp, Op.intCmp], congrArg _ (natbne a b)⟩
  case lss => simp only [Option.some.injEq, Prod.mk.injEq] at h; obtain ⟨rfl, rfl⟩ := h; exact ⟨.bool (decide ((a : Int) < (b : Int))), by simp [binOp, Op.intCmp], congrArg _ (decide_eq_decide.2 (by omega))⟩
  case leq => simp only [Option.some.injEq, Prod.mk.injEq] at h; obtain ⟨rfl, rfl⟩ := h; exact ⟨.bool (decide ((a : Int) ≤ (b : Int))), by simp [binOp, Op.intCmp], congrArg _ (decide_eq_decide.2 (by omega))⟩
  case gtr => simp only [Option.some.injEq, Prod.mk.injEq] at h; obtain ⟨rfl, rfl⟩ := h; exact ⟨.bool (decide ((a : Int) > (b : Int))), by simp [binOp, Op.intCmp], congrArg _ (decide_eq_decide.2 (by omega))⟩
  case geq => simp only [Option.some.injEq, Prod.mk.injEq] at h; obtain ⟨rfl, rfl⟩ := h; exact ⟨.bool (decide ((a : Int) ≥ (b : Int))), by simp [binOp, Op.intCmp], congrArg _ (decide_eq_decide.2 (by omega))⟩
theorem binS_run {op : BinOp} {a : Nat} {k : IntKind} {s : Int} {p : Prop} {r : TV} (t : TypeId) (h : binS op a s = some (p, r)) (hp : p) :
    ∃ z, (binOp op t (.int .u64 a) (.int k s)).run P W = .ok z W ∧ RT E r z := by
  unfold binS at h
  cases op <;> simp only [] at h
  case shl =>
    simp only [Option.some.injEq, Prod.mk.injEq] at h; obtain ⟨rfl, rfl⟩ := h
    exact ⟨.int .u64 (IntKind.u64.wrap ((a : Int) * 2 ^ (min s.toNat 64))), by simp [binOp, Op.shift, IntKind.bits, show ¬ s < 0 by omega], congrArg _ (shl_u64 a _)⟩
  case shr =>
    simp only [Option.some.injEq, Prod.mk.injEq] at h; obtain ⟨rfl, rfl⟩ := h
    exact ⟨.int .u64 ((a : Int).fdiv (2 ^ (min s.toNat 64))), by simp [binOp, Op.shift, IntKind.bits, show ¬ s < 0 by omega], congrArg _ (shr_u64 a _ hp.2)⟩
  all_goals cases h
theorem bin_run {md : Bool} {op : BinOp} {t : TypeId} {x y : TV} {p : Prop} {r : TV} {u v : Value} (h : bin P md op t x y = some (p, r)) (hp : p) (hx : RT E x u) (hy : RT E y v) :
    ∃ z, (binOp op t u v).run P W = .ok z W ∧ RT E r z := by
  unfold bin at h
  split at h
  · obtain rfl := rt_i hx
    obtain rfl := rt_i hy
    split at h
    · rename_i hk
      obtain rfl := hk.1
      exact binI_run t h hp
    · cases h
  · obtain rfl := rt_n hx
    obtain rfl := rt_n hy
    exact binN_run t h hp
  · obtain rfl := rt_n hx
    obtain rfl := rt_i hy
    split at h
    · exact binS_run t h hp
    · cases h
  · obtain rfl := rt_b hx
    obtain rfl := rt_b hy
    split at h
    · rename_i hb
      have hu : P.underlying t = some .bool := by
        unfold isBool at hb
        split at hb
        · assumption
        · cases hb
      cases op <;> simp only [] at h
      case eql => simp only [Option.some.injEq, Prod.mk.injEq] at h; obtain ⟨rfl, rfl⟩ := h; exact ⟨_, run_eql_bool W t _ _ hu, rfl⟩
      case neq => simp only [Option.some.injEq, Prod.mk.injEq] at h; obtain ⟨rfl, rfl⟩ := h; exact ⟨_, run_neq_bool W t _ _ hu, rfl⟩
      all_goals cases h
    · cases h
  · cases h
end
end Go.Proofs.YtbhokdhkfodpfaaGreatDoor
/- What 'stepV' says, the machine does. No condition. -/
namespace Go.Proofs.YtbhokdhkfodpfaaGreatDoor
set_option linter.unusedVariables false
set_option linter.unusedSimpArgs false
section
variable {P : Program} {E : En} {W : World}
theorem un_run {md : Bool} {op : UnOp} {x : TV} {p : Prop} {r : TV} {u : Value} (h : un md op x = some (p, r)) (hp : p) (hx : RT E x u) :
    ∃ z, (Op.unary op u).run P W = .ok z W ∧ RT E r z := by
  unfold un at h
  split at h
  · obtain rfl := rt_b hx
    simp only [Option.some.injEq, Prod.mk.injEq] at h; obtain ⟨rfl, rfl⟩ := h
    exact ⟨_, rfl, rfl⟩
  · rename_i k a
    obtain rfl := rt_i hx
    split at h
    · refine ⟨.int k (k.wrap (0 - a)), by simp [Op.unary, Op.intArith], ?_⟩
      rw [Int.zero_sub]
      split at h <;> (simp only [Option.some.injEq, Prod.mk.injEq] at h; obtain ⟨rfl, rfl⟩ := h)
      · exact congrArg _ (wrap_in hp)
      · rfl
    · cases h
  · rename_i a
    obtain rfl := rt_n hx
    simp only [Option.some.injEq, Prod.mk.injEq] at h; obtain ⟨rfl, rfl⟩ := h
    refine ⟨_, by simp [Op.unary, Op.intBits, IntKind.signed, IntKind.max, IntKind.bits]; rfl, ?_⟩
    exact congrArg _ (bits_xor 18446744073709551615 a (by decide) hp)
  · cases h
theorem tiOf_int {t : TypeId} {a b : Nat} {z : List Ce} {k : IntKind} (h : tiOf P t = some ⟨a, b, z, .int k⟩) : P.underlying t = some (.int k) := by
  obtain ⟨i, z, d, h1, h2, h3, h4, h5, h6, h7, h8⟩ := tiOf_spec h
  cases d <;> simp [tkOf] at h8
  subst h8; exact h2
theorem tiOf_slice {t : TypeId} {a b : Nat} {z : List Ce} {e : TypeId} (h : tiOf P t = some ⟨a, b, z, .slice e⟩) : P.underlying t = some (.slice e) := by
  obtain ⟨i, z, d, h1, h2, h3, h4, h5, h6, h7, h8⟩ := tiOf_spec h
  cases d <;> simp [tkOf] at h8
  subst h8; exact h2
theorem tiOf_struct {t : TypeId} {a b : Nat} {z : List Ce} {fs : List (Nat × Nat)} (h : tiOf P t = some ⟨a, b, z, .struct fs⟩) : ∃ g, P.underlying t = some (.struct g) ∧ placesOf P g.toList = some fs := by
  obtain ⟨i, z, d, h1, h2, h3, h4, h5, h6, h7, h8⟩ := tiOf_spec h
  cases d <;> simp [tkOf] at h8
  exact ⟨_, h2, h8⟩
theorem tiOf_array {t : TypeId} {a b : Nat} {z : List Ce} {n : Nat} {e : TypeId} (h : tiOf P t = some ⟨a, b, z, .array n e⟩) : P.underlying t = some (.array n e) := by
  obtain ⟨i, z, d, h1, h2, h3, h4, h5, h6, h7, h8⟩ := tiOf_spec h
  cases d <;> simp [tkOf] at h8
  obtain ⟨rfl, rfl⟩ := h8; exact h2
theorem conv_run {md : Bool} {src dst : TypeId} {x : TV} {p : Prop} {r : TV} {u : Value} (h : conv P md src dst x = some (p, r)) (hp : p) (hx : RT E x u) :
    ∃ z, (convert src dst u).run P W = .ok z W ∧ RT E r z := by
  unfold conv at h
  split at h
  · rename_i h1 h2
    obtain rfl := rt_i hx
    rename_i k n
    split at h
    · refine ⟨.int .u64 (IntKind.u64.wrap n), by simp [convert, underlying, tiOf_int h1, tiOf_int h2, Conv.intToInt], ?_⟩
      rw [wrap_u64]
      split at h <;> (simp only [Option.some.injEq, Prod.mk.injEq] at h; obtain ⟨rfl, rfl⟩ := h)
      · obtain ⟨h3, h4⟩ := hp
        show Value.int _ _ = Value.int _ _
        congr 1; simp only [M64] at h4; omega
      · show Value.int _ _ = Value.int _ _
        congr 1; omega
    · cases h
  · rename_i h1 h2
    obtain rfl := rt_n hx
    rename_i n
    simp only [Option.some.injEq, Prod.mk.injEq] at h; obtain ⟨rfl, rfl⟩ := h
    refine ⟨.int .u64 (IntKind.u64.wrap n), by simp [convert, underlying, tiOf_int h1, tiOf_int h2, Conv.intToInt], ?_⟩
    rw [wrap_u64_nat, Nat.mod_eq_of_lt hp]; rfl
  · rename_i k' k n hne h1 h2
    obtain rfl := rt_i hx
    split at h
    · refine ⟨.int k' (k'.wrap n), by simp [convert, underlying, tiOf_int h1, tiOf_int h2, Conv.intToInt], ?_⟩
      split at h <;> (simp only [Option.some.injEq, Prod.mk.injEq] at h; obtain ⟨rfl, rfl⟩ := h)
      · exact congrArg _ (wrap_in hp)
      · rfl
    · cases h
  · rename_i k' n hne h1 h2
    obtain rfl := rt_n hx
    refine ⟨.int k' (k'.wrap n), by simp [convert, underlying, tiOf_int h1, tiOf_int h2, Conv.intToInt], ?_⟩
    split at h <;> (simp only [Option.some.injEq, Prod.mk.injEq] at h; obtain ⟨rfl, rfl⟩ := h)
    · exact congrArg _ (wrap_in hp)
    · rfl
  · cases h
theorem gbool_run {x : TV} {g a : Bool} {v : Value} (h : x.gbool = some (g, a)) (hx : RT E x v) : g = true → v = .bool a := by
  intro hg
  unfold TV.gbool at h
  split at h
  · simp only [Option.some.injEq, Prod.mk.injEq] at h; obtain ⟨rfl, rfl⟩ := h; exact hx
  · simp only [Option.some.injEq, Prod.mk.injEq] at h; obtain ⟨rfl, rfl⟩ := h; exact hx.1 hg
  · cases h
variable {ρ : Operand → Option TV} {val : Operand → Value}
theorem ints_run (hρ : ∀ x v, ρ x = some v → RT E v (val x)) : ∀ {xs : List Operand} {l : List Int}, ints ρ xs = some l → xs.map val = l.map (Value.int .i64)
  | [], l, h => by simp only [ints] at h; injection h with h; subst h; rfl
  | x :: xs, l, h => by
    simp only [ints] at h
    split at h
    · rename_i n l' h1 h2
      injection h with h; subst h
      have h3 := rt_i (hρ _ _ h1)
      simp [h3, ints_run hρ h2]
    · cases h
theorem min_run : ∀ (l : List Int) (x : Int), (List.foldlM Builtin.min2 (Value.int .i64 x) (l.map (Value.int .i64))).run P W = .ok (.int .i64 (minL x l)) W
  | [], x => rfl
  | y :: l, x => by
    simp only [List.map_cons, List.foldlM_cons, Sem.run_bind, Builtin.min2, Sem.run_pure, Result.andThen_ok]
    rw [min_run l]; rfl
theorem max_run : ∀ (l : List Int) (x : Int), (List.foldlM Builtin.max2 (Value.int .i64 x) (l.map (Value.int .i64))).run P W = .ok (.int .i64 (maxL x l)) W
  | [], x => rfl
  | y :: l, x => by
    simp only [List.map_cons, List.foldlM_cons, Sem.run_bind, Builtin.max2, Sem.run_pure, Result.andThen_ok]
    rw [max_run l]; rfl
theorem stepB_run {bi : Builtin} {az : List Operand} {ts : List TypeId} {t : TypeId} {p : Prop} {r : TV} (h : stepB P ρ bi az ts = some (p, r)) (hp : p) (hρ : ∀ x v, ρ x = some v → RT E v (val x)) :
    ∃ z, (∀ cn, (builtin bi ts.toArray t cn (az.map val).toArray).run P W = .ok (.value z) W) ∧ RT E r z := by
  unfold stepB at h
  split at h
  · split at h
    · rename_i h1 h2
      obtain ⟨a, c, h3, h4, h5⟩ := hρ _ _ h2
      simp only [Option.some.injEq, Prod.mk.injEq] at h; obtain ⟨rfl, rfl⟩ := h
      exact ⟨_, fun cn => by simp [builtin, Builtin.len_, underlying, tiOf_slice h1, h3, goInt], rfl⟩
    · rename_i h1 h2
      have h3 : _ = _ := hρ _ _ h2
      simp only [Option.some.injEq, Prod.mk.injEq] at h; obtain ⟨rfl, rfl⟩ := h
      exact ⟨_, fun cn => by simp [builtin, Builtin.len_, underlying, tiOf_slice h1, h3, goInt], rfl⟩
    · rename_i h1 h2
      obtain ⟨a, c, sz, h3, h4, h5⟩ := hρ _ _ h2
      simp only [Option.some.injEq, Prod.mk.injEq] at h; obtain ⟨rfl, rfl⟩ := h
      exact ⟨_, fun cn => by simp [builtin, Builtin.len_, underlying, tiOf_slice h1, h3, goInt], rfl⟩
    · cases h
  · split at h
    · rename_i h1
      simp only [Option.some.injEq, Prod.mk.injEq] at h; obtain ⟨rfl, rfl⟩ := h
      have h2 := ints_run hρ h1
      exact ⟨_, fun cn => by simp [builtin, Builtin.min_, h2, min_run], rfl⟩
    · cases h
  · split at h
    · rename_i h1
      simp only [Option.some.injEq, Prod.mk.injEq] at h; obtain ⟨rfl, rfl⟩ := h
      have h2 := ints_run hρ h1
      exact ⟨_, fun cn => by simp [builtin, Builtin.max_, h2, max_run], rfl⟩
    · cases h
  · cases h
end
end Go.Proofs.YtbhokdhkfodpfaaGreatDoor
/- What 'stepV' says, the machine does. No condition. -/
namespace Go.Proofs.YtbhokdhkfodpfaaGreatDoor
set_option linter.unusedVariables false
set_option linter.unusedSimpArgs false
section
variable {P : Program} {E : En} {W : World}
theorem PV.cells_RC {x : PV} {cs : List Ce} {v : Value} (h : x.cells = some cs) (hx : RP E x v) : All2 (RC E) cs v.cells.toList := by
  cases x with
  | c x =>
    simp only [PV.cells, Option.some.injEq] at h
    subst h
    rw [cells_one (RC.one hx)]
    exact .cons hx .nil
  | a l =>
    simp only [PV.cells, Option.some.injEq] at h
    subst h
    obtain ⟨vs, h1, h2⟩ := hx
    subst h1; exact h2
  | s fr l => simp [PV.cells] at h
theorem fold_over (off : Nat) : ∀ (vs : List Value) (k : Nat) (cells : Array Value), off + k + vs.length ≤ cells.size →
    ((vs.zipIdx k).foldl (fun (cs : Array Value) (x : Value × Nat) => cs.setIfInBounds (off + x.2) x.1) cells).toList = cells.toList.take (off + k) ++ vs ++ cells.toList.drop (off + k + vs.length)
  | [], k, cells, h => by simp
  | v :: vs, k, cells, h => by
    have h' : off + (k + 1) + vs.length ≤ (cells.setIfInBounds (off + k) v).size := by simp at h ⊢; omega
    simp only [List.zipIdx_cons, List.foldl_cons]
    rw [fold_over off vs (k + 1) _ h', Array.toList_setIfInBounds]
    have := list_seg_step cells.toList (off + k) v vs (by simp at h ⊢; omega)
    simpa [Nat.add_assoc] using this
theorem All2.over {R : Ce → Value → Prop} {cs new : List Ce} {vs us : List Value} (h : All2 R cs vs) (hn : All2 R new us) (off : Nat) : All2 R (over cs off new) (vs.take off ++ us ++ vs.drop (off + us.length)) := by
  unfold Go.Proofs.YtbhokdhkfodpfaaGreatDoor.over
  rw [← hn.length]
  exact ((h.take off).append hn).append (h.drop _)
theorem over_length {cs new : List Ce} {off : Nat} (h : off + new.length ≤ cs.length) : (over cs off new).length = cs.length := by unfold over; simp; omega
variable {ρ : Operand → Option TV} {val : Operand → Value}
theorem build_run (fs : List (Nat × Nat)) (hρ : ∀ x v, ρ x = some v → RT E v (val x)) : ∀ (parts : List (Nat × Operand)) (cs r : List Ce) (cells : Array Value), build fs ρ parts cs = some r → All2 (RC E) cs cells.toList →
    ∃ out, Instr.fill (fun i => fs[i]?) cells (parts.map fun (i, x) => (i, val x)) = some out ∧ All2 (RC E) r out.toList
  | [], cs, r, cells, h, hc => by simp only [build, Option.some.injEq] at h; subst h; exact ⟨cells, rfl, hc⟩
  | (i, x) :: parts, cs, r, cells, h, hc => by
    simp only [build] at h
    split at h
    · rename_i off sz v h1 h2
      split at h
      · rename_i new h3
        split at h
        · rename_i h4
          have hv := hρ _ _ h2
          cases v with
          | v pv =>
            have h5 := PV.cells_RC h3 hv
            have h6 : (val x).cells.size = sz := by rw [← h4.1, h5.length]; simp
            have h7 : cells.size = cs.length := by rw [hc.length]; simp
            have hle : off + 0 + (val x).cells.toList.length ≤ cells.size := by have := h5.length; simp at this ⊢; omega
            obtain ⟨out, h8, h9⟩ := build_run fs hρ parts _ r ((val x).cells.toList.zipIdx.foldl (fun (cs : Array Value) (x : Value × Nat) => cs.setIfInBounds (off + x.2) x.1) cells) h (by
              rw [fold_over off _ 0 _ hle]
              have := All2.over hc h5 off
              simpa using this)
            refine ⟨out, ?_, h9⟩
            simp only [List.map_cons, Instr.fill, h1, h6]
            rw [if_neg (by simp; omega), ← h8]
            congr 1
            rw [← Array.foldl_toList, Array.toList_zipIdx]
          | _ => simp [TV.cells] at h3
        · cases h
      · cases h
    · cases h
theorem placesOf_run : ∀ (fs : List Field) (l : List (Nat × Nat)), placesOf P fs = some l → fs.mapM (fun f => (P.info? f.type).map fun i => (f.offset, i.size)) = some l
  | [], l, h => by simp only [placesOf, Option.some.injEq] at h; subst h; rfl
  | f :: fs, l, h => by
    simp only [placesOf] at h
    split at h
    · rename_i i l' h1 h2
      simp only [Option.some.injEq] at h; subst h
      simp [h1, placesOf_run fs l' h2]
    · cases h
theorem stepV_run {md : Bool} {o : Oper} {p : Prop} {r : TV} (h : stepV P md ρ o.op = some (p, r)) (hp : p) (hρ : ∀ x v, ρ x = some v → RT E v (val x)) :
    ∃ z, (execOp val o).run P W = .ok (.value z) W ∧ RT E r z := by
  obtain ⟨dst, op, type, pos, after, guard⟩ := o
  simp only [] at h
  cases op with
  | move x =>
    simp only [stepV, Option.map_eq_some_iff] at h
    obtain ⟨v, h1, h2⟩ := h
    simp only [Prod.mk.injEq] at h2; obtain ⟨rfl, rfl⟩ := h2
    exact ⟨_, rfl, hρ _ _ h1⟩
  | assign x =>
    simp only [stepV, Option.map_eq_some_iff] at h
    obtain ⟨v, h1, h2⟩ := h
    simp only [Prod.mk.injEq] at h2; obtain ⟨rfl, rfl⟩ := h2
    exact ⟨_, rfl, hρ _ _ h1⟩
  | pick c a b =>
    simp only [stepV] at h
    split at h
    · rename_i c' a' b' h1 h2 h3
      split at h
      · rename_i gc c ga a gb b h4 h5 h6
        simp only [Option.some.injEq, Prod.mk.injEq] at h; obtain ⟨rfl, rfl⟩ := h
        obtain ⟨g1, g2, g3⟩ := hp
        have e1 := gbool_run h4 (hρ _ _ h1) g1
        have e2 := gbool_run h5 (hρ _ _ h2)
        have e3 := gbool_run h6 (hρ _ _ h3)
        cases c with
        | true => exact ⟨.bool a, by simp [execOp, e1, asBool, e2 (g2 rfl)], rfl⟩
        | false => exact ⟨.bool b, by simp [execOp, e1, asBool, e3 (g3 rfl)], rfl⟩
      · cases h
    · cases h
  | binOp op t x y yt =>
    simp only [stepV] at h
    split at h
    · rename_i x' y' h1 h2
      obtain ⟨z, h3, h4⟩ := bin_run (W := W) h hp (hρ _ _ h1) (hρ _ _ h2)
      refine ⟨z, ?_, h4⟩
      have hk : (∃ k n, val x = .int k n) ∨ ∃ b, val x = .bool b := by
        have hx := hρ _ _ h1
        unfold bin at h
        split at h
        · exact .inl ⟨_, _, rt_i hx⟩
        · exact .inl ⟨_, _, rt_n hx⟩
        · exact .inl ⟨_, _, rt_n hx⟩
        · exact .inr ⟨_, rt_b hx⟩
        · cases h
      have hg : (eqGuard op t x y (val x) (val y)).run P W = .ok () W := by
        unfold eqGuard
        rcases hk with ⟨k, n, e⟩ | ⟨b, e⟩ <;> rw [e] <;> cases op <;> simp
      simp [execOp, hg, h3]
    · cases h
  | unOp op t x =>
    simp only [stepV] at h
    split at h
    · rename_i x' h1
      obtain ⟨z, h3, h4⟩ := un_run (P := P) (W := W) h hp (hρ _ _ h1)
      exact ⟨z, by simp [execOp, h3], h4⟩
    · cases h
  | convert src dst x =>
    simp only [stepV] at h
    split at h
    · rename_i x' h1
      obtain ⟨z, h3, h4⟩ := conv_run (W := W) h hp (hρ _ _ h1)
      exact ⟨z, by simp [execOp, h3], h4⟩
    · cases h
  | extract x i =>
    simp only [stepV] at h
    split at h
    · rename_i l h1
      obtain ⟨vs, h2, h3⟩ := hρ _ _ h1
      split at h
      · rename_i v h4
        simp only [Option.some.injEq, Prod.mk.injEq] at h; obtain ⟨rfl, rfl⟩ := h
        obtain ⟨z, h5, h6⟩ := h3.get h4
        exact ⟨z, by simp [execOp, h2, Instr.extract, show vs[i]? = some z by simpa using h5], h6⟩
      · cases h
    · cases h
  | build t parts =>
    simp only [stepV] at h
    split at h
    · rename_i a b zero fs h1
      split at h
      · rename_i cs h2
        simp only [Option.some.injEq, Prod.mk.injEq] at h; obtain ⟨rfl, rfl⟩ := h
        obtain ⟨i, z, d, g1, g2, g3, g4, g5, g6, g7, g8⟩ := tiOf_spec h1
        obtain ⟨g, h3, h4⟩ := tiOf_struct h1
        obtain ⟨out, h5, h6⟩ := build_run fs hρ parts.toList zero cs z.cells h2 (g6 E).2
        refine ⟨.agg out, ?_, out, rfl, h6⟩
        have hb : P.built t (parts.map fun (i, x) => (i, val x)).toList = some out := by
          unfold Program.built
          simp only [g1, h3, g5, placesOf_run _ _ h4]
          rw [← h5]
          congr 1
          · funext i; simp
          · simp
        simp [execOp, run_build W t _ out hb]
      · cases h
    · cases h
  | makeFunc fn x y =>
    cases fn with
    | func f =>
      simp only [stepV] at h
      split at h
      · rename_i hs
        simp only [Option.some.injEq, Prod.mk.injEq] at h; obtain ⟨rfl, rfl⟩ := h
        refine ⟨.func (.func f) #[] #[], ?_, rfl⟩
        simp [execOp, Instr.makeFunc, Array.eq_empty_of_size_eq_zero hs.1, Array.eq_empty_of_size_eq_zero hs.2]
      · cases h
    | _ => simp [stepV] at h
  | index t x ix =>
    simp only [stepV] at h
    split at h
    · rename_i a b z n e cs k i h1 h2 h3
      split at h
      · rename_i b' z' k' h4
        split at h
        · cases h
        · rename_i hk
          simp only [Option.some.injEq, Prod.mk.injEq] at h; obtain ⟨rfl, rfl⟩ := h
          obtain ⟨vs, h5, h6⟩ := hρ _ _ h2
          obtain ⟨g1, g2, g3⟩ := hp
          obtain ⟨z, h7, h8⟩ := h6.get (i := i.toNat) (List.getElem?_eq_getElem (by omega))
          obtain ⟨ii, zz, d, q1, q2, q3, q4, q5, q6, q7, q8⟩ := tiOf_spec h4
          refine ⟨z, ?_, ?_⟩
          · have hag := run_isAgg_ q2 q8 W
            simp only [] at q3 hag
            simp [execOp, Instr.index, rt_i (hρ _ _ h3), asIntOf, underlying, tiOf_array h1, h5, g1, g2, sizeOf, typeInfo, q1, q3, part, hag, hk, show vs[i.toNat]? = some z by simpa using h7]
          · show RC E _ z
            rwa [List.getD, List.getElem?_eq_getElem (by omega)]
      · cases h
    · cases h
  | call c =>
    obtain ⟨callee, az, ts⟩ := c
    cases callee with
    | builtin bi =>
      simp only [stepV] at h
      obtain ⟨z, h1, h2⟩ := stepB_run (W := W) (t := type) h hp hρ
      refine ⟨z, ?_, h2⟩
      have e1 : (List.map val az.toList).toArray = az.map val := by apply Array.ext'; simp
      rw [e1] at h1
      simp [execOp, resolve, invoke]
      simpa using h1 _
    | _ => simp [stepV] at h
  | _ => simp [stepV] at h
end
end Go.Proofs.YtbhokdhkfodpfaaGreatDoor
/- The state of a walk, and what it says of the machine's. No condition. -/
namespace Go.Proofs.YtbhokdhkfodpfaaGreatDoor
set_option linter.unusedVariables false
set_option linter.unusedSimpArgs false
def lk {α : Type} (t : Nat) : List (Nat × α) → Option α
  | [] => none
  | (k, v) :: l => if k = t then some v else lk t l
def put {α : Type} (t : Nat) (v : α) : List (Nat × α) → List (Nat × α)
  | [] => [(t, v)]
  | (k, u) :: l => if t = k then (t, v) :: l else if t < k then (t, v) :: (k, u) :: l else (k, u) :: put t v l
def del {α : Type} (t : Nat) : List (Nat × α) → List (Nat × α)
  | [] => []
  | (k, u) :: l => if k = t then del t l else (k, u) :: del t l
def keep {α : Type} (ts : List Nat) : List (Nat × α) → List (Nat × α)
  | [] => []
  | (k, u) :: l => if k ∈ ts then (k, u) :: keep ts l else keep ts l
section
variable {α : Type}
theorem lk_put (t s : Nat) (v : α) : ∀ l : List (Nat × α), lk s (put t v l) = if s = t then some v else lk s l
  | [] => by simp only [put, lk]; by_cases h : s = t <;> simp [h, Ne.symm, eq_comm]
  | (k, u) :: l => by
    simp only [put]
    by_cases h1 : t = k
    · subst h1
      simp only [if_true, lk]
      by_cases h : s = t
      · subst h; simp
      · simp [h, Ne.symm h]
    · simp only [h1, if_false]
      by_cases h2 : t < k
      · simp only [h2, if_true, lk]
        by_cases h : s = t
        · subst h; simp
        · simp [h, Ne.symm h]
      · simp only [h2, if_false, lk, lk_put t s v l]
        by_cases h : s = t
        · subst h; simp [Ne.symm h1]
        · simp [h]
theorem lk_put_self (t : Nat) (v : α) (l : List (Nat × α)) : lk t (put t v l) = some v := by rw [lk_put]; simp
theorem lk_put_ne {t s : Nat} (v : α) (l : List (Nat × α)) (h : s ≠ t) : lk s (put t v l) = lk s l := by rw [lk_put]; simp [h]
theorem lk_del (t s : Nat) : ∀ l : List (Nat × α), lk s (del t l) = if s = t then none else lk s l
  | [] => by simp [del, lk]
  | (k, u) :: l => by
    simp only [del]
    by_cases h1 : k = t
    · subst h1
      simp only [if_true, lk, lk_del k s l]
      by_cases h : s = k
      · subst h; simp
      · simp [h, Ne.symm h]
    · simp only [h1, if_false, lk, lk_del t s l]
      by_cases h : s = t
      · subst h; simp [h1]
      · simp [h]
theorem lk_keep (ts : List Nat) (s : Nat) : ∀ l : List (Nat × α), lk s (keep ts l) = if s ∈ ts then lk s l else none
  | [] => by simp [keep, lk]
  | (k, u) :: l => by
    simp only [keep]
    by_cases h1 : k ∈ ts
    · simp only [h1, if_true, lk, lk_keep ts s l]
      by_cases h : k = s
      · subst h; simp [h1]
      · simp [h]
    · simp only [h1, if_false, lk, lk_keep ts s l]
      by_cases h : k = s
      · subst h; simp [h1]
      · simp [h]
end
structure St where
  tm : List (Nat × TV)
  ob : List (Nat × Ob)
/-- What a call finds. -/
structure Cx where
  B : Nat
  W0 : World
  okIn : Nat → Prop
  bo : Nat → Prop
  nt : Nat
def okOf (cx : Cx) (m : Nat → Option Nat) (ob : List (Nat × Ob)) (W : World) (b : Nat) : Prop :=
  (cx.okIn b ∨ cx.B ≤ b) ∧ b < W.heap.size ∧ ∀ j o, lk j ob = some o → m j ≠ some b
def en (cx : Cx) (m : Nat → Option Nat) (ob : List (Nat × Ob)) (W : World) : En := ⟨W, okOf cx m ob W, cx.B, m, fun j => lk j ob⟩
/-- The program's own variables, as cells. -/
abbrev Gl := Nat → List Ce
structure RelM (G : Gl) (cx : Cx) (m : Nat → Option Nat) (st : St) (a : Act) (W : World) : Prop where
  size : cx.B ≤ W.heap.size
  os : W.os = cx.W0.os
  tape : W.tape = cx.W0.tape
  output : W.output = cx.W0.output
  keep : ∀ b, b < cx.B → ¬ cx.bo b → W.heap[b]? = cx.W0.heap[b]?
  df : a.defers = []
  nt : a.tmps.size = cx.nt
  tm : ∀ t x, lk t st.tm = some x → ∃ v, a.tmps[t]? = some v ∧ RT (en cx m st.ob W) x v
  ob : ∀ j o, lk j st.ob = some o → RO (en cx m st.ob W) j o
  inj : ∀ j j' o o' b, lk j st.ob = some o → lk j' st.ob = some o' → m j = some b → m j' = some b → j = j'
  own : ∀ j o b, lk j st.ob = some o → m j = some b → b < W.heap.size ∧ (cx.B ≤ b ∨ (cx.bo b ∧ o.isBox = true ∧ j = 7777777))
  gl : ∀ b off x, (G b)[off]? = some x → b < cx.B ∧ ¬ cx.bo b ∧ x.pure = true ∧ ∃ v, cx.W0.cell? ⟨b, off, none⟩ = some v ∧ ∀ E, RC E x v
  okIn : ∀ b, cx.okIn b → b < cx.B ∧ ¬ cx.bo b
  pin : ∀ o, lk 7777777 st.ob = some o → o.isBox = true ∧ ∃ b, m 7777777 = some b ∧ cx.bo b ∧ W.shape? b = cx.W0.shape? b
def Rel (G : Gl) (cx : Cx) (st : St) (a : Act) (W : World) : Prop := ∃ m, RelM G cx m st a W
section
variable {G : Gl} {cx : Cx} {m m' : Nat → Option Nat} {st : St} {a : Act} {W W' : World}
/-- Another world, and other objects. -/
theorem RelM.move (h : RelM G cx m st a W) {ob' : List (Nat × Ob)} {L : Nat → Prop} (he : EnLe L (en cx m st.ob W) (en cx m' ob' W'))
    (hL : ∀ t x, lk t st.tm = some x → ∀ j ∈ x.labs, L j) (hs : W.heap.size ≤ W'.heap.size) (h1 : W'.os = W.os) (h2 : W'.tape = W.tape) (h3 : W'.output = W.output)
    (hk : ∀ b, b < cx.B → ¬ cx.bo b → W'.heap[b]? = W.heap[b]?)
    (ho : ∀ j o, lk j ob' = some o → RO (en cx m' ob' W') j o)
    (hi : ∀ j j' o o' b, lk j ob' = some o → lk j' ob' = some o' → m' j = some b → m' j' = some b → j = j')
    (hw : ∀ j o b, lk j ob' = some o → m' j = some b → b < W'.heap.size ∧ (cx.B ≤ b ∨ (cx.bo b ∧ o.isBox = true ∧ j = 7777777)))
    (hp : ∀ o, lk 7777777 ob' = some o → o.isBox = true ∧ ∃ b, m' 7777777 = some b ∧ cx.bo b ∧ W'.shape? b = cx.W0.shape? b) : RelM G cx m' ⟨st.tm, ob'⟩ a W' where
  pin := hp
  size := Nat.le_trans h.size hs
  os := h1.trans h.os
  tape := h2.trans h.tape
  output := h3.trans h.output
  keep := fun b hb hn => (hk b hb hn).trans (h.keep b hb hn)
  df := h.df
  nt := h.nt
  tm := fun t x hx => let ⟨v, hv, hr⟩ := h.tm t x hx; ⟨v, hv, RT.mono he (hL t x hx) hr⟩
  ob := ho
  inj := hi
  own := hw
  gl := h.gl
  okIn := h.okIn
/-- The same heap. -/
theorem RelM.heap (h : RelM G cx m st a W) (hh : W'.heap = W.heap) (h1 : W'.os = W.os) (h2 : W'.tape = W.tape) (h3 : W'.output = W.output) : RelM G cx m st a W' := by
  have he : EnLe (fun _ => True) (en cx m st.ob W) (en cx m st.ob W') := by
    refine ⟨fun b hb => ?_, fun b _ => by show W'.heap[b]? = W.heap[b]?; rw [hh], Nat.le_refl _, fun j _ o ho => ⟨o, ho, rfl, rfl, Nat.le_refl _, fun _ => ⟨rfl, fun b _ => by show W'.shape? b = W.shape? b; unfold World.shape?; rw [hh]⟩⟩⟩
    obtain ⟨g1, g2, g3⟩ := hb
    exact ⟨g1, by rw [hh]; exact g2, g3⟩
  refine h.move he (fun _ _ _ _ _ => trivial) (by rw [hh]; exact Nat.le_refl _) h1 h2 h3 (fun b _ _ => by rw [hh]) (fun j o ho => ?_) h.inj (fun j o b hj hb => by rw [hh]; exact h.own j o b hj hb) (fun o ho => let ⟨g1, b, g2, g3, g4⟩ := h.pin o ho; ⟨g1, b, g2, g3, by rw [← g4]; unfold World.shape?; rw [hh]⟩)
  exact RO.mono he (fun _ _ => trivial) rfl (fun b _ => by show W'.heap[b]? = W.heap[b]?; rw [hh]) (h.ob j o ho)
/-- A value into a slot. -/
theorem RelM.slot (h : RelM G cx m st a W) {d : Nat} (hd : d < cx.nt) {x : TV} {v : Value} (hx : RT (en cx m st.ob W) x v) : RelM G cx m ⟨put d x st.tm, st.ob⟩ (a.put (some d) v) W :=
  { h with
    nt := by show (a.tmps.setIfInBounds d v).size = _; simp [h.nt]
    tm := fun t y hy => by
      by_cases ht : t = d
      · subst ht
        rw [lk_put_self] at hy
        injection hy with hy
        subst hy
        exact ⟨v, by simp [Act.put, h.nt, hd], hx⟩
      · rw [lk_put_ne _ _ ht] at hy
        obtain ⟨u, hu, hr⟩ := h.tm t y hy
        exact ⟨u, by simp [Act.put, Array.getElem?_setIfInBounds_ne (Ne.symm ht), hu], hr⟩ }
/-- Whatever into a slot that is forgotten. -/
theorem RelM.forget (h : RelM G cx m st a W) (d : Nat) (v : Value) : RelM G cx m ⟨del d st.tm, st.ob⟩ (a.put (some d) v) W :=
  { h with
    nt := by show (a.tmps.setIfInBounds d v).size = _; simp [h.nt]
    tm := fun t y hy => by
      rw [lk_del] at hy
      split at hy
      · cases hy
      · rename_i ht
        obtain ⟨u, hu, hr⟩ := h.tm t y hy
        exact ⟨u, by simp [Act.put, Array.getElem?_setIfInBounds_ne (Ne.symm ht), hu], hr⟩ }
/-- Fewer slots. -/
theorem RelM.sub (h : RelM G cx m st a W) (tm' : List (Nat × TV)) (hs : ∀ t x, lk t tm' = some x → lk t st.tm = some x) : RelM G cx m ⟨tm', st.ob⟩ a W :=
  { h with tm := fun t x hx => h.tm t x (hs t x hx) }
/-- Fewer objects. -/
theorem RelM.fewer (h : RelM G cx m st a W) (ob' : List (Nat × Ob)) (hs : ∀ j o, lk j ob' = some o → lk j st.ob = some o) : RelM G cx m ⟨st.tm, ob'⟩ a W := by
  have he : EnLe (fun _ => True) (en cx m st.ob W) (en cx m ob' W) :=
    ⟨fun b ⟨g1, g2, g3⟩ => ⟨g1, g2, fun j o hj => g3 j o (hs j o hj)⟩, fun _ _ => rfl, Nat.le_refl _, fun j _ o ho => ⟨o, hs j o ho, rfl, rfl, Nat.le_refl _, fun _ => ⟨rfl, fun _ _ => rfl⟩⟩⟩
  exact h.move he (fun _ _ _ _ _ => trivial) (Nat.le_refl _) rfl rfl rfl (fun _ _ _ => rfl) (fun j o ho => RO.mono he (fun _ _ => trivial) rfl (fun _ _ => rfl) (h.ob j o (hs j o ho)))
    (fun j j' o o' b hj hj' => h.inj j j' o o' b (hs j o hj) (hs j' o' hj')) (fun j o b hj => h.own j o b (hs j o hj)) (fun o ho => h.pin o (hs _ o ho))
/-- Does something name an object? -/
def Ce.has (l : Nat) : Ce → Bool
  | .p j _ | .q j _ _ _ | .r j _ => j == l
  | _ => false
def csHas (l : Nat) : List Ce → Bool
  | [] => false
  | c :: cs => c.has l || csHas l cs
def PV.has (l : Nat) : PV → Bool
  | .c x => x.has l
  | .a cs => csHas l cs
  | .s .. => false
def psHas (l : Nat) : List PV → Bool
  | [] => false
  | c :: cs => c.has l || psHas l cs
def TV.has (l : Nat) : TV → Bool
  | .v x => x.has l
  | .t x => psHas l x
  | .e _ => false
  | .gd _ x => x.has l
def tmHas (l : Nat) : List (Nat × TV) → Bool
  | [] => false
  | (_, x) :: r => x.has l || tmHas l r
def obHas (l : Nat) : List (Nat × Ob) → Bool
  | [] => false
  | (k, .box cs) :: r => k == l || csHas l cs || obHas l r
  | (k, _) :: r => k == l || obHas l r
def St.free (st : St) (l : Nat) : Bool := !(tmHas l st.tm || obHas l st.ob || l == 7777777)
theorem Ce.has_labs {l : Nat} {c : Ce} (h : c.has l = false) : l ∉ c.labs := by cases c <;> simp [Ce.has, Ce.labs] at h ⊢ <;> exact Ne.symm h
theorem csHas_labs {l : Nat} : ∀ {cs : List Ce}, csHas l cs = false → l ∉ cs.flatMap Ce.labs
  | [], _ => by simp
  | c :: cs, h => by
    simp only [csHas, Bool.or_eq_false_iff] at h
    simp only [List.flatMap_cons, List.mem_append, not_or]
    exact ⟨Ce.has_labs h.1, csHas_labs h.2⟩
theorem PV.has_labs {l : Nat} {x : PV} (h : x.has l = false) : l ∉ x.labs := by
  cases x with
  | c x => exact Ce.has_labs h
  | a cs => exact csHas_labs h
  | s fr l => simp [PV.labs]
theorem psHas_labs {l : Nat} : ∀ {cs : List PV}, psHas l cs = false → l ∉ cs.flatMap PV.labs
  | [], _ => by simp
  | c :: cs, h => by
    simp only [psHas, Bool.or_eq_false_iff] at h
    simp only [List.flatMap_cons, List.mem_append, not_or]
    exact ⟨PV.has_labs h.1, psHas_labs h.2⟩
theorem TV.has_labs {l : Nat} {x : TV} (h : x.has l = false) : l ∉ x.labs := by
  induction x with
  | v x => exact PV.has_labs h
  | t x => exact psHas_labs h
  | e cs => simp [TV.labs]
  | gd c x ih => exact ih h
theorem tmHas_labs {l : Nat} : ∀ {tm : List (Nat × TV)}, tmHas l tm = false → ∀ t x, lk t tm = some x → l ∉ x.labs
  | [], _, t, x, hx => by simp [lk] at hx
  | (k, y) :: r, h, t, x, hx => by
    simp only [tmHas, Bool.or_eq_false_iff] at h
    simp only [lk] at hx
    split at hx
    · injection hx with hx; subst hx; exact TV.has_labs h.1
    · exact tmHas_labs h.2 t x hx
theorem obHas_labs {l : Nat} : ∀ {ob : List (Nat × Ob)}, obHas l ob = false → lk l ob = none ∧ ∀ j o, lk j ob = some o → l ∉ o.labs
  | [], _ => ⟨rfl, fun j o ho => by simp [lk] at ho⟩
  | (k, y) :: r, h => by
    have h' : k ≠ l ∧ l ∉ y.labs ∧ obHas l r = false := by
      cases y <;> simp only [obHas, Bool.or_eq_false_iff] at h
      · exact ⟨by simpa using h.1.1, csHas_labs h.1.2, h.2⟩
      · exact ⟨by simpa using h.1, by simp [Ob.labs], h.2⟩
      · exact ⟨by simpa using h.1, by simp [Ob.labs], h.2⟩
    obtain ⟨h1, h2, h3⟩ := h'
    obtain ⟨h4, h5⟩ := obHas_labs h3
    refine ⟨by simp [lk, h1, h4], fun j o ho => ?_⟩
    simp only [lk] at ho
    split at ho
    · injection ho with ho; subst ho; exact h2
    · exact h5 j o ho
theorem St.free_spec {st : St} {l : Nat} (h : st.free l = true) : (∀ t x, lk t st.tm = some x → l ∉ x.labs) ∧ lk l st.ob = none ∧ ∀ j o, lk j st.ob = some o → l ∉ o.labs := by
  simp only [St.free, Bool.not_eq_true', Bool.or_eq_false_iff] at h
  exact ⟨tmHas_labs h.1.1, obHas_labs h.1.2⟩
theorem St.free_pin {st : St} {l : Nat} (h : st.free l = true) : l ≠ 7777777 := by
  simp only [St.free, Bool.not_eq_true', Bool.or_eq_false_iff] at h
  simpa using h.2
end
end Go.Proofs.YtbhokdhkfodpfaaGreatDoor
/- New objects, objects that are written, rows that grow. No condition. -/
namespace Go.Proofs.YtbhokdhkfodpfaaGreatDoor
set_option linter.unusedVariables false
set_option linter.unusedSimpArgs false
section
variable {G : Gl} {cx : Cx} {m : Nat → Option Nat} {st : St} {a : Act} {W : World}
theorem heap_alloc_old {W : World} {o : Obj} {b : Nat} (h : b < W.heap.size) : (W.alloc o).heap[b]? = W.heap[b]? := by
  show (W.heap.push o)[b]? = _
  simp [Array.getElem?_push, Nat.ne_of_lt h]
theorem heap_alloc_new {W : World} {o : Obj} : (W.alloc o).heap[W.heap.size]? = some o := by
  show (W.heap.push o)[W.heap.size]? = _
  simp
theorem shape_of_heap {W W' : World} {b : Nat} (h : W'.heap[b]? = W.heap[b]?) : W'.shape? b = W.shape? b := by unfold World.shape?; rw [h]
/-- A map with one place turned. -/
def upd (m : Nat → Option Nat) (l : Nat) (b : Option Nat) : Nat → Option Nat := fun j => if j = l then b else m j
theorem upd_self (m : Nat → Option Nat) (l : Nat) (b : Option Nat) : upd m l b l = b := by simp [upd]
theorem upd_ne (m : Nat → Option Nat) {l j : Nat} (b : Option Nat) (h : j ≠ l) : upd m l b j = m j := by simp [upd, h]
/-- The environment behind a new object. -/
theorem en_new (h : RelM G cx m st a W) {lab : Nat} (o : Ob) (ob : Obj) : EnLe (· ≠ lab) (en cx m st.ob W) (en cx (upd m lab (some W.heap.size)) (put lab o st.ob) (W.alloc ob)) := by
  refine ⟨fun b ⟨g1, g2, g3⟩ => ⟨g1, by simp; omega, fun j o' hj => ?_⟩, fun b ⟨g1, g2, g3⟩ => heap_alloc_old g2, Nat.le_refl _, fun j hj o' ho' => ?_⟩
  · by_cases hjl : j = lab
    · subst hjl; rw [upd_self]; intro e; injection e with e; omega
    · rw [upd_ne _ _ hjl]; rw [lk_put_ne _ _ hjl] at hj; exact g3 j o' hj
  · have ho2 : lk j st.ob = some o' := by rw [← lk_put_ne o st.ob hj]; exact ho'
    refine ⟨o', ho2, rfl, rfl, Nat.le_refl _, fun _ => ⟨upd_ne _ _ hj, fun b hb => ?_⟩⟩
    exact shape_of_heap (heap_alloc_old (h.own j o' b ho2 hb).1)
/-- A new object. -/
theorem RelM.new (h : RelM G cx m st a W) {lab : Nat} (hf : st.free lab = true) (o : Ob) (ob : Obj)
    (ho : RO (en cx (upd m lab (some W.heap.size)) (put lab o st.ob) (W.alloc ob)) lab o) :
    RelM G cx (upd m lab (some W.heap.size)) ⟨st.tm, put lab o st.ob⟩ a (W.alloc ob) := by
  obtain ⟨f1, f2, f3⟩ := St.free_spec hf
  have he := en_new h (lab := lab) o ob
  refine h.move he (fun t x hx j hj e => f1 t x hx (e ▸ hj)) (by simp) rfl rfl rfl (fun b hb _ => heap_alloc_old (Nat.lt_of_lt_of_le hb h.size)) (fun j o' hj => ?_) (fun j j' o1 o2 b h1 h2 h3 h4 => ?_) (fun j o' b h1 h2 => ?_) (fun o' ho' => by
    have hne := Ne.symm (St.free_pin hf)
    rw [lk_put_ne _ _ hne] at ho'; rw [upd_ne _ _ hne]
    obtain ⟨g1, b, g2, g3, g4⟩ := h.pin o' ho'
    exact ⟨g1, b, g2, g3, (shape_of_heap (heap_alloc_old (h.own _ o' b ho' g2).1)).trans g4⟩)
  · by_cases hjl : j = lab
    · subst hjl; rw [lk_put_self] at hj; injection hj with hj; subst hj; exact ho
    · rw [lk_put_ne _ _ hjl] at hj
      exact RO.mono he (fun k hk e => f3 j o' hj (e ▸ hk)) (upd_ne _ _ hjl) (fun b hb => heap_alloc_old (h.own j o' b hj hb).1) (h.ob j o' hj)
  · by_cases e1 : j = lab <;> by_cases e2 : j' = lab
    · rw [e1, e2]
    · subst e1; rw [upd_self] at h3; rw [upd_ne _ _ e2] at h4; rw [lk_put_ne _ _ e2] at h2
      injection h3 with h3; have := (h.own j' o2 b h2 h4).1; omega
    · subst e2; rw [upd_self] at h4; rw [upd_ne _ _ e1] at h3; rw [lk_put_ne _ _ e1] at h1
      injection h4 with h4; have := (h.own j o1 b h1 h3).1; omega
    · rw [upd_ne _ _ e1] at h3; rw [upd_ne _ _ e2] at h4; rw [lk_put_ne _ _ e1] at h1; rw [lk_put_ne _ _ e2] at h2
      exact h.inj j j' o1 o2 b h1 h2 h3 h4
  · by_cases e1 : j = lab
    · subst e1; rw [upd_self] at h2; injection h2 with h2; subst h2; exact ⟨by simp, .inl h.size⟩
    · rw [upd_ne _ _ e1] at h2; rw [lk_put_ne _ _ e1] at h1
      have := h.own j o' b h1 h2
      exact ⟨by simp; omega, this.2⟩
theorem en_upd (h : RelM G cx m st a W) {j b : Nat} {o o' : Ob} {vs : Array Value} (hj : lk j st.ob = some o) (hb : m j = some b) {old : Array Value} {e : TypeId} (hh : W.heap[b]? = some (.cells old e (0, 0)))
    (hs : vs.size = old.size) (h1 : o'.sz = o.sz) (h2 : o'.isBox = o.isBox) (h3 : o.len ≤ o'.len) : EnLe (fun _ => True) (en cx m st.ob W) (en cx m (put j o' st.ob) (W.setRow b vs)) := by
  refine ⟨fun c ⟨g1, g2, g3⟩ => ⟨g1, by simpa using g2, fun k o2 hk => ?_⟩, fun c ⟨g1, g2, g3⟩ => setRow_other W b c vs (fun e => g3 j o hj (e ▸ hb)), Nat.le_refl _, fun k _ o2 ho2 => ?_⟩
  · by_cases hkj : k = j
    · subst hkj; exact g3 k o hj
    · rw [lk_put_ne _ _ hkj] at hk; exact g3 k o2 hk
  · have hsh : ∀ c, (W.setRow b vs).shape? c = W.shape? c := fun c => by
      by_cases hc : c = b
      · subst hc; simp [World.shape?, setRow_heap W c old vs e (0, 0) hh, hh, hs]
      · exact shape_of_heap (setRow_other W b c vs hc)
    by_cases hkj : k = j
    · subst hkj
      have : o2 = o' := by have : lk k (put k o' st.ob) = some o2 := ho2; rw [lk_put_self] at this; injection this with this; exact this.symm
      subst this
      exact ⟨o, hj, h1, h2, h3, fun _ => ⟨rfl, fun c _ => hsh c⟩⟩
    · have : lk k st.ob = some o2 := by rw [← lk_put_ne o' st.ob hkj]; exact ho2
      exact ⟨o2, this, rfl, rfl, Nat.le_refl _, fun _ => ⟨rfl, fun c _ => hsh c⟩⟩
/-- An object is written. -/
theorem RelM.write (h : RelM G cx m st a W) {j b : Nat} {o o' : Ob} {vs : Array Value} (hj : lk j st.ob = some o) (hb : m j = some b) {old : Array Value} {e : TypeId} (hh : W.heap[b]? = some (.cells old e (0, 0)))
    (hs : vs.size = old.size) (h1 : o'.sz = o.sz) (h2 : o'.isBox = o.isBox) (h3 : o.len ≤ o'.len) (ho : RO (en cx m (put j o' st.ob) (W.setRow b vs)) j o') :
    RelM G cx m ⟨st.tm, put j o' st.ob⟩ a (W.setRow b vs) := by
  have he := en_upd h hj hb hh hs h1 h2 h3
  refine h.move he (fun _ _ _ _ _ => trivial) (by simp) rfl rfl rfl (fun c hc hn => setRow_other W b c vs (fun e => by
      subst e; rcases (h.own j o c hj hb).2 with h' | h'
      · omega
      · exact hn h'.1)) (fun k o2 hk => ?_) (fun k k' o1 o2 c g1 g2 g3 g4 => ?_) (fun k o2 c g1 g2 => ?_) (fun o2 ho2 => by
    have hsh : ∀ c, (W.setRow b vs).shape? c = W.shape? c := fun c => by
      by_cases hc : c = b
      · subst hc; simp [World.shape?, setRow_heap W c old vs e (0, 0) hh, hh, hs]
      · exact shape_of_heap (setRow_other W b c vs hc)
    by_cases hkj : 7777777 = j
    · subst hkj; rw [lk_put_self] at ho2; injection ho2 with ho2; subst ho2
      rw [h2]; obtain ⟨g1, c, g2, g3, g4⟩ := h.pin o hj; exact ⟨g1, c, g2, g3, (hsh c).trans g4⟩
    · rw [lk_put_ne _ _ hkj] at ho2; obtain ⟨g1, c, g2, g3, g4⟩ := h.pin o2 ho2; exact ⟨g1, c, g2, g3, (hsh c).trans g4⟩)
  · by_cases hkj : k = j
    · subst hkj; rw [lk_put_self] at hk; injection hk with hk; subst hk; exact ho
    · rw [lk_put_ne _ _ hkj] at hk
      exact RO.mono he (fun _ _ => trivial) rfl (fun c hc => setRow_other W b c vs (fun e => hkj (by subst e; exact h.inj k j o2 o c hk hj hc hb))) (h.ob k o2 hk)
  · have f : ∀ {k o2}, lk k (put j o' st.ob) = some o2 → ∃ o3, lk k st.ob = some o3 := fun {k o2} hk => by
      by_cases hkj : k = j
      · subst hkj; exact ⟨_, hj⟩
      · rw [lk_put_ne _ _ hkj] at hk; exact ⟨_, hk⟩
    obtain ⟨o3, q1⟩ := f g1
    obtain ⟨o4, q2⟩ := f g2
    exact h.inj k k' o3 o4 c q1 q2 g3 g4
  · by_cases hkj : k = j
    · subst hkj
      rw [lk_put_self] at g1; injection g1 with g1; subst g1
      rw [h2]; simpa using h.own k o c hj g2
    · rw [lk_put_ne _ _ hkj] at g1; simpa using h.own k o2 c g1 g2
theorem en_grow (h : RelM G cx m st a W) {j : Nat} {o o' : Ob} (ob : Obj) (hj : lk j st.ob = some o) (h1 : o'.sz = o.sz) (h2 : o'.isBox = o.isBox) (h3 : o.len < o'.len) :
    EnLe (fun _ => True) (en cx m st.ob W) (en cx (upd m j (some W.heap.size)) (put j o' st.ob) (W.alloc ob)) := by
  refine ⟨fun b ⟨g1, g2, g3⟩ => ⟨g1, by simp; omega, fun k o2 hk => ?_⟩, fun b ⟨g1, g2, g3⟩ => heap_alloc_old g2, Nat.le_refl _, fun k _ o2 ho2 => ?_⟩
  · by_cases hkj : k = j
    · subst hkj; rw [upd_self]; intro e; injection e with e; omega
    · rw [upd_ne _ _ hkj]; rw [lk_put_ne _ _ hkj] at hk; exact g3 k o2 hk
  · by_cases hkj : k = j
    · subst hkj
      have : o2 = o' := by have : lk k (put k o' st.ob) = some o2 := ho2; rw [lk_put_self] at this; injection this with this; exact this.symm
      subst this
      exact ⟨o, hj, h1, h2, Nat.le_of_lt h3, fun e => by omega⟩
    · have q : lk k st.ob = some o2 := by rw [← lk_put_ne o' st.ob hkj]; exact ho2
      exact ⟨o2, q, rfl, rfl, Nat.le_refl _, fun _ => ⟨upd_ne _ _ hkj, fun b hb => shape_of_heap (heap_alloc_old (h.own k o2 b q hb).1)⟩⟩
/-- A row that moves to a new block, as it becomes longer. -/
theorem RelM.grow (h : RelM G cx m st a W) {j : Nat} {o o' : Ob} (ob : Obj) (hj : lk j st.ob = some o) (h1 : o'.sz = o.sz) (h2 : o'.isBox = o.isBox) (h3 : o.len < o'.len)
    (ho : RO (en cx (upd m j (some W.heap.size)) (put j o' st.ob) (W.alloc ob)) j o') :
    RelM G cx (upd m j (some W.heap.size)) ⟨st.tm, put j o' st.ob⟩ a (W.alloc ob) := by
  have he := en_grow h ob hj h1 h2 h3
  refine h.move he (fun _ _ _ _ _ => trivial) (by simp) rfl rfl rfl (fun c hc hn => heap_alloc_old (Nat.lt_of_lt_of_le hc h.size)) (fun k o2 hk => ?_) (fun k k' o1 o2 b g1 g2 g3 g4 => ?_) (fun k o2 b g1 g2 => ?_) (fun o2 ho2 => by
    by_cases hkj : 7777777 = j
    · subst hkj
      have hbx := (h.pin o hj).1
      rw [hbx] at h2
      cases o <;> cases o' <;> simp [Ob.isBox] at hbx h2 <;> simp [Ob.len] at h3
    · rw [lk_put_ne _ _ hkj] at ho2; rw [upd_ne _ _ hkj]
      obtain ⟨g1, b, g2, g3, g4⟩ := h.pin o2 ho2
      exact ⟨g1, b, g2, g3, (shape_of_heap (heap_alloc_old (h.own _ o2 b ho2 g2).1)).trans g4⟩)
  · by_cases hkj : k = j
    · subst hkj; rw [lk_put_self] at hk; injection hk with hk; subst hk; exact ho
    · rw [lk_put_ne _ _ hkj] at hk
      exact RO.mono he (fun _ _ => trivial) (upd_ne _ _ hkj) (fun c hc => heap_alloc_old (h.own k o2 c hk hc).1) (h.ob k o2 hk)
  · by_cases e1 : k = j <;> by_cases e2 : k' = j
    · rw [e1, e2]
    · subst e1; rw [upd_self] at g3; rw [upd_ne _ _ e2] at g4; rw [lk_put_ne _ _ e2] at g2
      injection g3 with g3; have := (h.own k' o2 b g2 g4).1; omega
    · subst e2; rw [upd_self] at g4; rw [upd_ne _ _ e1] at g3; rw [lk_put_ne _ _ e1] at g1
      injection g4 with g4; have := (h.own k o1 b g1 g3).1; omega
    · rw [upd_ne _ _ e1] at g3; rw [upd_ne _ _ e2] at g4; rw [lk_put_ne _ _ e1] at g1; rw [lk_put_ne _ _ e2] at g2
      exact h.inj k k' o1 o2 b g1 g2 g3 g4
  · by_cases e1 : k = j
    · subst e1; rw [upd_self] at g2; injection g2 with g2; subst g2; exact ⟨by simp, .inl h.size⟩
    · rw [upd_ne _ _ e1] at g2; rw [lk_put_ne _ _ e1] at g1
      have := h.own k o2 b g1 g2
      exact ⟨by simp; omega, this.2⟩
end
end Go.Proofs.YtbhokdhkfodpfaaGreatDoor
/- The operations that touch memory, on pure values. No condition. -/
namespace Go.Proofs.YtbhokdhkfodpfaaGreatDoor
set_option linter.unusedVariables false
set_option linter.unusedSimpArgs false
/-- What becomes of the objects. -/
inductive Eff where
  | none
  | new (o : Ob)
  | upd (j : Nat) (o : Ob)
/-- What an operation asks; what it leaves in its slot; what becomes of the objects. -/
structure Out where
  pre : Prop
  v : Option TV
  ef : Eff
def partOf (ti : TI) (cs : List Ce) : Option TV :=
  if ti.kind.agg then (if ti.size ≤ cs.length then some (.v (.a (cs.take ti.size))) else none)
  else match cs with
    | c :: _ => some (.v (.c c))
    | [] => none
def exts : List Ce → List Ce
  | [] => []
  | c :: cs => c.ext :: exts cs
def allPure : List Ce → Bool
  | [] => true
  | c :: cs => c.pure && allPure cs
def loadM (G : Gl) (η : Nat → Option Ob) (ti : TI) : TV → Option Out
  | .e cs => (partOf ti cs).map fun x => ⟨True, some x, .none⟩
  | .v (.c (.p j off)) => match η j with
    | some (.box cs) => (partOf ti (cs.drop off)).map fun x => ⟨True, some x, .none⟩
    | _ => none
  | .v (.c (.q j n i off)) => match η j with
    | some (.wr l) => if off = 0 then (partOf ti [.n (l.getD i 0)]).map fun x => ⟨l.length = n ∧ i < n, some x, .none⟩ else none
    | some (.sr _ l) => (partOf ti ((l.getD i []).drop off)).map fun x => ⟨l.length = n ∧ i < n, some x, .none⟩
    | _ => none
  | .v (.c (.g b off)) => (partOf ti [(G b).getD off .z]).map fun x => ⟨off < (G b).length, some x, .none⟩
  | _ => none
def storeM (η : Nat → Option Ob) (ti : TI) (new : List Ce) : TV → Option Out
  | .v (.c (.p j off)) => match η j with
    | some (.box cs) => if new.length = ti.size ∧ off + new.length ≤ cs.length then some ⟨True, none, .upd j (.box (over cs off new))⟩ else none
    | _ => none
  | .v (.c (.q j n i off)) => match η j with
    | some (.wr l) => match new with
      | [.n w] => if off = 0 ∧ ti.size = 1 then some ⟨l.length = n ∧ i < n, none, .upd j (.wr (l.set i w))⟩ else none
      | _ => none
    | some (.sr sz l) => if new.length = ti.size ∧ allPure (exts new) then (if off = 0 ∧ new.length = sz then some ⟨l.length = n ∧ i < n, none, .upd j (.sr sz (l.set i (exts new)))⟩
      else if off + new.length ≤ sz then some ⟨l.length = n ∧ i < n, none, .upd j (.sr sz (l.set i (over (l.getD i []) off (exts new))))⟩ else none) else none
    | _ => none
  | _ => none
/-- Words given one by one. -/
def wordsOf (ρ : Operand → Option TV) : Nat → List (Nat × Operand) → Option (List Nat)
  | _, [] => some []
  | k, (i, x) :: rest => if i = k then (match ρ x, wordsOf ρ (k + 1) rest with
    | some (.v (.c (.n w))), some l => some (w :: l)
    | _, _ => none) else none
/-- Structs given one by one. -/
def rowsOf (ρ : Operand → Option TV) (sz : Nat) : Nat → List (Nat × Operand) → Option (List (List Ce))
  | _, [] => some []
  | k, (i, x) :: rest => if i = k then (match ρ x, rowsOf ρ sz (k + 1) rest with
    | some v, some l => match v.cells with
      | some cs => if cs.length = sz ∧ allPure (exts cs) then some (exts cs :: l) else none
      | none => none
    | _, _ => none) else none
def isWord (ti : TI) : Bool :=
  match ti.kind, ti.zero with
  | .int .u64, [.n k] => k == 0 && ti.size == 1
  | _, _ => false
/-- A bound of a slice expression. -/
def bnd (ρ : Operand → Option TV) (d : Int) : Option Operand → Option Int
  | none => some d
  | some x => match ρ x with
    | some (.v (.c (.i .i64 n))) => some n
    | _ => none
/-- The words, or the structs, of a slice that is appended. -/
def wsrc (η : Nat → Option Ob) : TV → Option (Prop × List Nat)
  | .v (.c (.w _ l)) => some (True, l)
  | .v (.c .z) => some (True, [])
  | .v (.c (.r j n)) => match η j with
    | some (.wr l) => some (l.length = n, l)
    | _ => none
  | _ => none
def ssrc (η : Nat → Option Ob) (sz : Nat) : TV → Option (Prop × List (List Ce))
  | .v (.s _ l) => some (∀ cs ∈ l, cs.length = sz, l)
  | .v (.c .z) => some (True, [])
  | .v (.c (.r j n)) => match η j with
    | some (.sr sz' l) => if sz' = sz then some (l.length = n, l) else none
    | _ => none
  | _ => none
def indexM (η : Nat → Option Ob) (e : TI) (i : Int) : TV → Option Out
  | .v (.c (.w _ l)) => if e.size = 1 then some ⟨0 ≤ i ∧ i < l.length, some (.e [.n (l.getD i.toNat 0)]), .none⟩ else none
  | .v (.s _ l) => some ⟨0 ≤ i ∧ i < l.length ∧ (l.getD i.toNat []).length = e.size, some (.e (l.getD i.toNat [])), .none⟩
  | .v (.c (.r j n)) => match η j with
    | some o => if o.isBox then none else if o.sz = e.size then some ⟨o.len = n ∧ 0 ≤ i ∧ i < n, some (.v (.c (.q j n i.toNat 0))), .none⟩ else none
    | none => none
  | _ => none
def sliceM (sz : Nat) (lo hi : Int) (mx : Option Int) : TV → Option Out
  | .v (.c (.w fr l)) => if sz = 1 then some ⟨0 ≤ lo ∧ lo ≤ hi ∧ hi ≤ l.length ∧ (∀ x, mx = some x → hi ≤ x ∧ x ≤ l.length), some (.v (.c (.w fr ((l.drop lo.toNat).take (hi.toNat - lo.toNat))))), .none⟩ else none
  | .v (.s fr l) => some ⟨0 ≤ lo ∧ lo ≤ hi ∧ hi ≤ l.length ∧ (∀ x, mx = some x → hi ≤ x ∧ x ≤ l.length) ∧ ∀ cs ∈ l, cs.length = sz, some (.v (.s fr ((l.drop lo.toNat).take (hi.toNat - lo.toNat)))), .none⟩
  | .v (.c .z) => some ⟨lo = 0 ∧ hi = 0 ∧ (∀ x, mx = some x → x = 0), some (.v (.c .z)), .none⟩
  | _ => none
def lenTV : TV → Option Int
  | .v (.c (.w _ l)) => some l.length
  | .v (.s _ l) => some l.length
  | .v (.c .z) => some 0
  | _ => none
def fieldM (η : Nat → Option Ob) (off : Nat) : TV → Option Out
  | .v (.c (.p j o)) => match η j with
    | some (.box _) => some ⟨True, some (.v (.c (.p j (o + off)))), .none⟩
    | _ => none
  | .v (.c (.q j n i o)) => match η j with
    | some ob => some ⟨ob.len = n, some (.v (.c (.q j n i (o + off)))), .none⟩
    | _ => none
  | .v (.c (.g b o)) => some ⟨True, some (.v (.c (.g b (o + off)))), .none⟩
  | .e cs => some ⟨True, some (.e (cs.drop off)), .none⟩
  | _ => none
def appendM (P : Program) (η : Nat → Option Ob) (t u : TypeId) (s x : TV) : Option Out :=
  match tiOf P t, tiOf P u, s with
  | some ⟨_, _, _, .slice e⟩, some ⟨_, _, _, .slice _⟩, .v (.c (.r j n)) => match tiOf P e, η j with
    | some te, some (.wr l) => if isWord te ∧ te.bytes ≤ 64 then (match wsrc η x with
      | some (p, l') => some ⟨p ∧ l.length = n ∧ (l ++ l').length < 1099511627776, some (.v (.c (.r j (l ++ l').length))), .upd j (.wr (l ++ l'))⟩
      | none => none) else none
    | some te, some (.sr sz l) => if te.size = sz ∧ te.bytes ≤ 64 ∧ 0 < sz then (match ssrc η sz x with
      | some (p, l') => some ⟨p ∧ l.length = n ∧ (l ++ l').length < 1099511627776, some (.v (.c (.r j (l ++ l').length))), .upd j (.sr sz (l ++ l'))⟩
      | none => none) else none
    | _, _ => none
  | _, _, _ => none
/-- An operation that touches memory. -/
def stepM (P : Program) (G : Gl) (lab : Nat) (ρ : Operand → Option TV) (η : Nat → Option Ob) : Op → Option Out
  | .alloc t => match tiOf P t with
    | some ti => some ⟨True, some (.v (.c (.p lab 0))), .new (.box ti.zero)⟩
    | none => none
  | .box t x => match tiOf P t, ρ x with
    | some ti, some v => match v.cells with
      | some cs => if cs.length = ti.size then some ⟨True, some (.v (.c (.p lab 0))), .new (.box cs)⟩ else none
      | none => none
    | _, _ => none
  | .load t x => match tiOf P t, ρ x with
    | some ti, some v => loadM G η ti v
    | _, _ => none
  | .store t x y => match tiOf P t, ρ x, ρ y with
    | some ti, some v, some w => match w.cells with
      | some cs => storeM η ti cs v
      | none => none
    | _, _, _ => none
  | .nilCheck x => match ρ x with
    | some (.v (.c (.p j o))) => match η j with
      | some (.box _) => some ⟨True, some (.v (.c (.p j o))), .none⟩
      | _ => none
    | some (.e cs) => some ⟨True, some (.e cs), .none⟩
    | _ => none
  | .makeSlice t x y => match tiOf P t, ρ x, ρ y with
    | some ⟨_, _, _, .slice e⟩, some (.v (.c (.i .i64 n))), some (.v (.c (.i .i64 n'))) => match tiOf P e with
      | some te => if isWord te then some ⟨0 ≤ n ∧ n = n' ∧ te.bytes * n ≤ 281474976710656 ∧ n ≤ 281474976710656, some (.v (.c (.r lab n.toNat))), .new (.wr (List.replicate n.toNat 0))⟩
        else if 0 < te.size then some ⟨0 ≤ n ∧ n = n' ∧ te.bytes * n ≤ 281474976710656 ∧ n ≤ 281474976710656, some (.v (.c (.r lab n.toNat))), .new (.sr te.size (List.replicate n.toNat te.zero))⟩ else none
      | none => none
    | _, _, _ => none
  | .buildSlice t n parts => match tiOf P t with
    | some ⟨_, _, _, .slice e⟩ => match tiOf P e with
      | some te => if parts.toList.length = n then (if isWord te then (match wordsOf ρ 0 parts.toList with
          | some l => some ⟨n ≤ 16777216, some (.v (.c (.r lab n))), .new (.wr l)⟩
          | none => none)
        else (match rowsOf ρ te.size 0 parts.toList with
          | some l => some ⟨0 < te.size ∧ n * te.size ≤ 16777216, some (.v (.c (.r lab n))), .new (.sr te.size l)⟩
          | none => none)) else none
      | none => none
    | _ => none
  | .slice t x lo hi mx => match tiOf P t, ρ x with
    | some ⟨_, _, _, .slice e⟩, some v => match tiOf P e, lenTV v with
      | some te, some n => match bnd ρ 0 lo, bnd ρ n hi with
        | some l, some h => match mx with
          | none => sliceM te.size l h none v
          | some y => match ρ y, hi with
            | some (.v (.c (.i .i64 m))), some _ => sliceM te.size l h (some m) v
            | _, _ => none
        | _, _ => none
      | _, _ => none
    | _, _ => none
  | .indexAddr t x ix => match tiOf P t, ρ x, ρ ix with
    | some ⟨_, _, _, .slice e⟩, some v, some (.v (.c (.i _ i))) => match tiOf P e with
      | some te => indexM η te i v
      | none => none
    | some ⟨_, _, _, .array n e⟩, some (.v (.c (.g b o))), some (.v (.c (.i _ i))) => match tiOf P e with
      | some te => if n ≤ 1 then none else some ⟨0 ≤ i ∧ i < n, some (.v (.c (.g b (o + i.toNat * te.size)))), .none⟩
      | none => none
    | _, _, _ => none
  | .fieldAddr s x f => match tiOf P s, ρ x with
    | some ⟨_, _, _, .struct fs⟩, some v => match fs[f]? with
      | some (off, sz) => if sz = 0 then none else fieldM η off v
      | none => none
    | _, _ => none
  | .call { callee := .builtin .len, args := az, argTypes := ts } => match az.toList, ts.toList with
    | [x], [t] => match tiOf P t, ρ x with
      | some ⟨_, _, _, .slice _⟩, some (.v (.c (.r j n))) => match η j with
        | some o => if o.isBox then none else some ⟨o.len = n, some (.int .i64 n), .none⟩
        | none => none
      | _, _ => none
    | _, _ => none
  | .call { callee := .builtin .append, args := az, argTypes := ts } => match az.toList, ts.toList with
    | [x, y], [t, u] => match ρ x, ρ y with
      | some v, some w => appendM P η t u v w
      | _, _ => none
    | _, _ => none
  | _ => none
end Go.Proofs.YtbhokdhkfodpfaaGreatDoor
/- What 'stepM' says of loads and stores, the machine does. No condition. -/
namespace Go.Proofs.YtbhokdhkfodpfaaGreatDoor
set_option linter.unusedVariables false
set_option linter.unusedSimpArgs false
def opv (tm : List (Nat × TV)) : Operand → Option TV
  | .tmp t => lk t tm
  | .const v => cval v
  | .global g => some (.v (.c (.g g 0)))
  | .func f => some (.v (.c (.f f)))
section
variable {P : Program} {G : Gl} {cx : Cx} {m : Nat → Option Nat} {st : St} {a : Act} {W : World} {E : En}
theorem RelM.opv (h : RelM G cx m st a W) {x : Operand} {v : TV} (hx : opv st.tm x = some v) : RT (en cx m st.ob W) v (a.eval x) := by
  cases x with
  | tmp t =>
    obtain ⟨u, h1, h2⟩ := h.tm t v hx
    have : a.eval (.tmp t) = u := by simp [Act.eval, h1]
    rw [this]; exact h2
  | const c => exact cval_RT hx
  | global g => simp only [Go.Proofs.YtbhokdhkfodpfaaGreatDoor.opv, Option.some.injEq] at hx; subst hx; rfl
  | func f => simp only [Go.Proofs.YtbhokdhkfodpfaaGreatDoor.opv, Option.some.injEq] at hx; subst hx; rfl
theorem addr_add (ad : Addr) (x y : Nat) : (ad.add x).add y = ad.add (x + y) := by
  unfold Addr.add
  by_cases hx : x = 0 <;> by_cases hy : y = 0 <;> simp [hx, hy, Nat.add_assoc]
theorem addr_add0 (b o q : Nat) : (⟨b, o, none⟩ : Addr).add q = ⟨b, o + q, none⟩ := by
  unfold Addr.add; split
  · rename_i h; subst h; rfl
  · rfl
/-- A load of cells that are known. -/
theorem part_run {t : TypeId} {ti : TI} (ht : tiOf P t = some ti) {cs : List Ce} {us : List Value} {ad : Addr} (hA : At W ad us) (hR : All2 (RC E) cs us) {x : TV} (hx : partOf ti cs = some x) :
    ∃ v, (Instr.loadAt t (.pointer (some ad))).run P W = .ok v W ∧ RT E x v := by
  obtain ⟨i, z, d, h1, h2, h3, h4, h5, h6, h7, h8⟩ := tiOf_spec ht
  have hag := run_isAgg_ h2 h8 W
  unfold partOf at hx
  split at hx
  · rename_i hk
    split at hx
    · rename_i hle
      injection hx with hx; subst hx
      have hl : (us.take ti.size).length = ti.size := by simp; have := hR.length; omega
      have hr := run_loadCells_list (P := P) W ad (us.take ti.size) (fun j v hj => hA j v (by rw [List.getElem?_take] at hj; split at hj <;> simp_all))
      rw [hl] at hr
      exact ⟨.agg (us.take ti.size).toArray, by simp [Instr.loadAt, Instr.sureAddr, loadVar, hag, hk, sizeOf, typeInfo, h1, h3, hr], _, rfl, by simpa using hR.take ti.size⟩
    · cases hx
  · rename_i hk
    split at hx
    · rename_i c cs'
      injection hx with hx; subst hx
      obtain ⟨u, us', e, h9, h10⟩ := hR.cons_iff
      subst e
      have hc : W.cell? ad = some u := by have := hA 0 u rfl; simpa [Addr.add] using this
      exact ⟨u, by simp [Instr.loadAt, Instr.sureAddr, loadVar, hag, hk, hc], h9⟩
    · cases hx
theorem At_heap {b : Nat} {vs : Array Value} {e : TypeId} {fr : Nat × Nat} (h : W.heap[b]? = some (.cells vs e fr)) (off : Nat) : At W ⟨b, off, none⟩ (vs.toList.drop off) := by
  intro q u hq
  rw [addr_add0]
  simp only [World.cell?, h]
  simpa using hq
/-- What the row says of the cells of an element. -/
theorem RO.elem {j : Nat} {o : Ob} (h : RO E j o) {l : List (List Ce)} {sz : Nat} (ho : o = .sr sz l) {i : Nat} {cs : List Ce} (hi : l[i]? = some cs) :
    ∃ (b : Nat) (vs : Array Value) (e : TypeId), E.m j = some b ∧ E.W.heap[b]? = some (.cells vs e (0, 0)) ∧ cs.length = sz ∧ ∃ us, RCs E cs us ∧ ∀ q u, us[q]? = some u → vs[i * sz + q]? = some u := by
  subst ho
  rcases h with ⟨h1, h2⟩ | ⟨b, vs, e, h1, h2, h3⟩
  · subst h1; simp at hi
  · obtain ⟨h4, us, h5, h6⟩ := h3 i cs hi
    exact ⟨b, vs, e, h1, h2, h4, us, h5, h6⟩
theorem getD_some {α : Type} {l : List α} {i : Nat} {d : α} (h : i < l.length) : l[i]? = some (l.getD i d) := by
  rw [List.getD, List.getElem?_eq_getElem h]; rfl
theorem loadM_run {t : TypeId} {ti : TI} (ht : tiOf P t = some ti) (h : RelM G cx m st a W) {x : TV} {v : Value} (hx : RT (en cx m st.ob W) x v) {out : Out}
    (ho : loadM G (fun j => lk j st.ob) ti x = some out) (hp : out.pre) :
    out.ef = .none ∧ ∃ y u, out.v = some y ∧ (Instr.loadAt t v).run P W = .ok u W ∧ RT (en cx m st.ob W) y u := by
  unfold loadM at ho
  split at ho
  · obtain ⟨ad, h1, h2, vs, h3, h4⟩ := hx
    simp only [Option.map_eq_some_iff] at ho
    obtain ⟨y, h5, h6⟩ := ho
    subst h6 h1
    obtain ⟨u, h7, h8⟩ := part_run ht h4 h3.2 h5
    exact ⟨rfl, y, u, rfl, h7, h8⟩
  · rename_i j off
    split at ho
    · rename_i cs hj
      simp only [Option.map_eq_some_iff] at ho
      obtain ⟨y, h5, h6⟩ := ho
      subst h6
      obtain ⟨b, h1, h2⟩ := hx.2 cs hj
      subst h2
      obtain ⟨b', vs, e, g1, g2, g3⟩ := h.ob j _ hj
      have hbb : b' = b := by have g1' : m j = some b' := g1; have h1' : m j = some b := h1; rw [g1'] at h1'; exact Option.some.inj h1'
      subst hbb
      obtain ⟨u, h7, h8⟩ := part_run (P := P) (W := W) ht (At_heap g2 off) (g3.drop off) h5
      exact ⟨rfl, y, u, rfl, h7, h8⟩
    · cases ho
  · rename_i j n i off
    split at ho
    · rename_i l hj
      split at ho
      · rename_i hoff
        subst hoff
        simp only [Option.map_eq_some_iff] at ho
        obtain ⟨y, h5, h6⟩ := ho
        subst h6
        obtain ⟨hl, hi⟩ := hp
        obtain ⟨q1, b, q2, q3⟩ := hx.2 _ hj (by simp only [Ob.len]; omega)
        subst q3
        rcases h.ob j _ hj with ⟨g1, g2⟩ | ⟨b', vs, e, g1, g2, g3⟩
        · simp [g1] at hl; omega
        have hbb : b' = b := by have g1' : m j = some b' := g1; have h1' : m j = some b := q2; rw [g1'] at h1'; exact Option.some.inj h1'
        subst hbb
        have hc := g3 i _ (getD_some (d := 0) (by omega))
        obtain ⟨u, h7, h8⟩ := part_run (P := P) (W := W) (E := en cx m st.ob W) (ad := ⟨b', i * Ob.sz (.wr l) + 0, none⟩) (us := [.int .u64 ((l.getD i 0 : Nat) : Int)]) ht (by
          intro q u hq
          cases q with
          | zero => simp at hq; subst hq; rw [addr_add0]; simp only [World.cell?]; rw [show W.heap[b']? = _ from g2]; simpa [Ob.sz] using hc
          | succ q => simp at hq) (.cons (show RC _ (.n (l.getD i 0)) _ from rfl) .nil) h5
        exact ⟨rfl, y, u, rfl, h7, h8⟩
      · cases ho
    · rename_i sz l hj
      simp only [Option.map_eq_some_iff] at ho
      obtain ⟨y, h5, h6⟩ := ho
      subst h6
      obtain ⟨hl, hi⟩ := hp
      obtain ⟨q1, b, q2, q3⟩ := hx.2 _ hj (by simp only [Ob.len]; omega)
      subst q3
      obtain ⟨b', vs, e, g1, g2, g3, us, g4, g5⟩ := (h.ob j _ hj).elem rfl (getD_some (d := []) (show i < l.length by omega))
      have hbb : b' = b := by have g1' : m j = some b' := g1; have h1' : m j = some b := q2; rw [g1'] at h1'; exact Option.some.inj h1'
      subst hbb
      obtain ⟨u, h7, h8⟩ := part_run (P := P) (W := W) (E := en cx m st.ob W) (ad := ⟨b', i * Ob.sz (.sr sz l) + off, none⟩) (us := us.drop off) ht (by
        intro q u hq
        rw [addr_add0]; simp only [World.cell?]; rw [show W.heap[b']? = _ from g2]
        have := g5 (off + q) u (by simpa using hq)
        simpa [Ob.sz, Nat.add_assoc] using this) (g4.2.drop off) h5
      exact ⟨rfl, y, u, rfl, h7, h8⟩
    · cases ho
  · rename_i b off
    simp only [Option.map_eq_some_iff] at ho
    obtain ⟨y, h5, h6⟩ := ho
    subst h6
    have hx' : v = .pointer (some ⟨b, off, none⟩) := hx
    subst hx'
    obtain ⟨k1, k2, k3, u, k4, k5⟩ := h.gl b off _ (getD_some (d := .z) hp)
    have hc : W.cell? ⟨b, off, none⟩ = some u := by
      rw [← k4]; exact cell_of_heap (h.keep b k1 k2)
    obtain ⟨u', h7, h8⟩ := part_run (P := P) (W := W) (E := en cx m st.ob W) (ad := ⟨b, off, none⟩) (us := [u]) ht (by
      intro q w hq
      cases q with
      | zero => simp at hq; subst hq; simpa [Addr.add] using hc
      | succ q => simp at hq) (.cons (k5 _) .nil) h5
    exact ⟨rfl, y, u', rfl, h7, h8⟩
  · cases ho
end
end Go.Proofs.YtbhokdhkfodpfaaGreatDoor

/- Part 0 of the texts below the theorem of the last part. -/
import Derived.WalkKit
import Derived.WalkSpells
import Derived.OrdersIn
import Derived.RangeFuncNested
import Derived.RangeFuncBound
import Derived.RangeFuncCalls
import Derived.RangeFuncLeaves
import Derived.Shelf.Unicode.DecodeSlow
import Derived.Maps.AppendAt
section
/- QL, part a: ideal values, the relation between an ideal state and a world, how it is kept. Plain; no program in sight. -/
set_option linter.unusedVariables false
set_option linter.unusedSimpArgs false
namespace Go.QL
open Go Go.RowKit

/-- A value without its place in memory: a slice that is done is its list; what a call still writes is told by its number. -/
inductive IV where
  | int (k : IntKind) (n : Int)
  | bool (b : Bool)
  | str (s : ByteArray)
  | nils
  | sl (full : Bool) (xs : List IV)
  | row (k n : Nat)
  | ptr (k off : Nat)
  | eptr (k n off : Nat)
  | rsub (k n off len : Nat)
  | dptr (cells : List IV)
  | nilp
  | agg (xs : List IV)
  | tup (xs : List IV)
  | fn (f : Fn) (fs cs : List IV)
  | nilf
  | yf (k : Nat)
  | und
  | junk
  deriving Inhabited

def flat : IV → List IV
  | .agg xs => xs
  | v => [v]
def flats (xs : List IV) : List IV := xs.flatMap flat

inductive Slot where
  | box (b : Nat)
  | fix (b : Nat)
  | row (v : Value) (n : Nat)
  | gone

/-- Memory that is written no more. -/
abbrev DM := Nat → Nat → Option Value

def hblk : Value → Option Nat
  | .slice (some a) _ c => if c = 0 then none else some a.block
  | _ => none

def RowAt (ρ : List Slot) (k n : Nat) (v : Value) : Prop :=
  match ρ[k]? with
  | some (.row v' m) => n ≤ m ∧ (n = m → v = v')
  | some .gone => True
  | _ => False
def EltAt (ρ : List Slot) (k n off : Nat) (a : Option Addr) : Prop :=
  match ρ[k]? with
  | some (.row v' m) => n ≤ m ∧ (n = m → ∃ b, hblk v' = some b ∧ a = some ⟨b, off, none⟩)
  | some .gone => True
  | _ => False

def PtrAt (ρ : List Slot) (k off : Nat) (a : Option Addr) : Prop :=
  match ρ[k]? with
  | some (.box b) => a = some ⟨b, off, none⟩
  | some (.fix b) => a = some ⟨b, off, none⟩
  | some .gone => True
  | _ => False

inductive VR (D : DM) (ρ : List Slot) : IV → Value → Prop
  | int (k : IntKind) (n : Int) : VR D ρ (.int k n) (.int k n)
  | bool (b : Bool) : VR D ρ (.bool b) (.bool b)
  | str (s : ByteArray) : VR D ρ (.str s) (.string s)
  | nils : VR D ρ .nils (.slice none 0 0)
  | sl (full : Bool) (xs : List IV) (A : Option Addr) (c b o : Nat) (g : Nat → Value) (hc : xs.length ≤ c) (hm : c ≤ maxLen) (hf : full = true → c = xs.length)
      (hA : xs ≠ [] → A = some ⟨b, o, none⟩) (hg : ∀ j u, (flats xs)[j]? = some u → D b (o + j) = some (g j)) (hv : ∀ j u, (flats xs)[j]? = some u → VR D ρ u (g j)) :
      VR D ρ (.sl full xs) (.slice A xs.length c)
  | row (k n : Nat) (A : Option Addr) (c : Nat) (h : RowAt ρ k n (.slice A n c)) : VR D ρ (.row k n) (.slice A n c)
  | ptr (k off : Nat) (a : Option Addr) (h : PtrAt ρ k off a) : VR D ρ (.ptr k off) (.pointer a)
  | eptr (k n off : Nat) (a : Option Addr) (h : EltAt ρ k n off a) : VR D ρ (.eptr k n off) (.pointer a)
  | rsub (k n off len : Nat) (A : Option Addr) (c : Nat) (h : EltAt ρ k n off A) : VR D ρ (.rsub k n off len) (.slice A len c)
  | dptr (cells : List IV) (b o : Nat) (g : Nat → Value) (hg : ∀ j u, cells[j]? = some u → D b (o + j) = some (g j)) (hv : ∀ j u, cells[j]? = some u → VR D ρ u (g j)) :
      VR D ρ (.dptr cells) (.pointer (some ⟨b, o, none⟩))
  | nilp : VR D ρ .nilp (.pointer none)
  | agg (xs : List IV) (vs : Array Value) (hl : xs.length = vs.size) (hv : ∀ (i : Nat) u v, xs[i]? = some u → vs[i]? = some v → VR D ρ u v) : VR D ρ (.agg xs) (.agg vs)
  | tup (xs : List IV) (vs : Array Value) (hl : xs.length = vs.size) (hv : ∀ (i : Nat) u v, xs[i]? = some u → vs[i]? = some v → VR D ρ u v) : VR D ρ (.tup xs) (.tuple vs)
  | fn (f : Fn) (fs cs : List IV) (vs us : Array Value) (hl : fs.length = vs.size) (hl2 : cs.length = us.size) (hv : ∀ (i : Nat) u v, fs[i]? = some u → vs[i]? = some v → VR D ρ u v)
      (hv2 : ∀ (i : Nat) u v, cs[i]? = some u → us[i]? = some v → VR D ρ u v) : VR D ρ (.fn f fs cs) (.func f vs us)
  | nilf : VR D ρ .nilf .nilFunc
  | yf (k b : Nat) (h : ρ[k]? = some (.fix b)) : VR D ρ (.yf k) (.func (.yield b) #[] #[])
  | und : VR D ρ .und (.tuple #[])
  | junk (v : Value) : VR D ρ .junk v

/-- Lists side by side. -/
def Rel2 (D : DM) (ρ : List Slot) (xs : List IV) (vs : List Value) : Prop :=
  xs.length = vs.length ∧ ∀ (i : Nat) u v, xs[i]? = some u → vs[i]? = some v → VR D ρ u v

def Slot.le : Slot → Slot → Prop
  | .box b, s => s = .box b ∨ s = .gone
  | .fix b, s => s = .fix b
  | .row v n, .row v' m => n ≤ m ∧ (n = m → v = v')
  | .row _ _, .gone => True
  | .gone, .gone => True
  | _, _ => False

structure Ext (D : DM) (ρ : List Slot) (D' : DM) (ρ' : List Slot) : Prop where
  d : ∀ b o v, D b o = some v → D' b o = some v
  s : ∀ (k : Nat) s, ρ[k]? = some s → ∃ s', ρ'[k]? = some s' ∧ Slot.le s s'

theorem Slot.le_refl (s : Slot) : Slot.le s s := by cases s <;> simp [Slot.le]
theorem Slot.le_trans {a b c : Slot} (h : Slot.le a b) (k : Slot.le b c) : Slot.le a c := by
  cases a <;> cases b <;> cases c <;> simp_all [Slot.le]
  rcases h with ⟨h1, h2⟩
  rcases k with ⟨k1, k2⟩
  refine ⟨by omega, fun e => ?_⟩
  rw [h2 (by omega), k2 (by omega)]
theorem Ext.refl (D : DM) (ρ : List Slot) : Ext D ρ D ρ := ⟨fun _ _ _ h => h, fun _ s h => ⟨s, h, Slot.le_refl s⟩⟩
theorem Ext.trans {D D' D'' : DM} {ρ ρ' ρ'' : List Slot} (h : Ext D ρ D' ρ') (k : Ext D' ρ' D'' ρ'') : Ext D ρ D'' ρ'' :=
  ⟨fun b o v e => k.d _ _ _ (h.d _ _ _ e), fun i s e => let ⟨s', e', l⟩ := h.s i s e; let ⟨s'', e'', l'⟩ := k.s i s' e'; ⟨s'', e'', Slot.le_trans l l'⟩⟩

theorem RowAt.ext {ρ ρ' : List Slot} {D D' : DM} (x : Ext D ρ D' ρ') {k n : Nat} {v : Value} (h : RowAt ρ k n v) : RowAt ρ' k n v := by
  unfold RowAt at *
  cases e : ρ[k]? with
  | none => rw [e] at h; exact h.elim
  | some s =>
    obtain ⟨s', e', l⟩ := x.s k s e
    rw [e] at h
    rw [e']
    cases s <;> cases s' <;> simp_all [Slot.le]
    rcases h with ⟨h1, h2⟩
    rcases l with ⟨l1, l2⟩
    refine ⟨by omega, fun e => ?_⟩
    subst e
    have : n = _ := Nat.le_antisymm h1 l1
    rw [h2 this, l2 this.symm]
theorem EltAt.ext {ρ ρ' : List Slot} {D D' : DM} (x : Ext D ρ D' ρ') {k n off : Nat} {a : Option Addr} (h : EltAt ρ k n off a) : EltAt ρ' k n off a := by
  unfold EltAt at *
  cases e : ρ[k]? with
  | none => rw [e] at h; exact h.elim
  | some s =>
    obtain ⟨s', e', l⟩ := x.s k s e
    rw [e] at h
    rw [e']
    cases s <;> cases s' <;> simp_all [Slot.le]
    rcases h with ⟨h1, h2⟩
    rcases l with ⟨l1, l2⟩
    refine ⟨by omega, fun e => ?_⟩
    subst e
    have : n = _ := Nat.le_antisymm h1 l1
    obtain ⟨b, hb, ha⟩ := h2 this
    exact ⟨b, by rw [← l2 this.symm]; exact hb, ha⟩
theorem PtrAt.ext {ρ ρ' : List Slot} {D D' : DM} (x : Ext D ρ D' ρ') {k off : Nat} {a : Option Addr} (h : PtrAt ρ k off a) : PtrAt ρ' k off a := by
  unfold PtrAt at *
  cases e : ρ[k]? with
  | none => rw [e] at h; exact h.elim
  | some s =>
    obtain ⟨s', e', l⟩ := x.s k s e
    rw [e] at h
    rw [e']
    cases s <;> cases s' <;> simp_all [Slot.le]
theorem VR.ext {D D' : DM} {ρ ρ' : List Slot} {u : IV} {v : Value} (h : VR D ρ u v) (x : Ext D ρ D' ρ') : VR D' ρ' u v := by
  induction h with
  | int k n => exact .int k n
  | bool b => exact .bool b
  | str s => exact .str s
  | nils => exact .nils
  | sl full xs A c b o g hc hm hf hA hg hv ih => exact .sl full xs A c b o g hc hm hf hA (fun j u e => x.d _ _ _ (hg j u e)) ih
  | row k n A c h => exact .row k n A c (h.ext x)
  | ptr k off a h => exact .ptr k off a (h.ext x)
  | eptr k n off a h => exact .eptr k n off a (h.ext x)
  | rsub k n off len A c h => exact .rsub k n off len A c (h.ext x)
  | dptr cells b o g hg hv ih => exact .dptr cells b o g (fun j u e => x.d _ _ _ (hg j u e)) ih
  | nilp => exact .nilp
  | agg xs vs hl hv ih => exact .agg xs vs hl ih
  | tup xs vs hl hv ih => exact .tup xs vs hl ih
  | fn f fs cs vs us hl hl2 hv hv2 ih ih2 => exact .fn f fs cs vs us hl hl2 ih ih2
  | nilf => exact .nilf
  | yf k b h =>
    obtain ⟨s', e', l⟩ := x.s k _ h
    simp only [Slot.le] at l
    subst l
    exact .yf k b e'
  | und => exact .und
  | junk v => exact .junk v
theorem Rel2.ext {D D' : DM} {ρ ρ' : List Slot} {xs : List IV} {vs : List Value} (h : Rel2 D ρ xs vs) (x : Ext D ρ D' ρ') : Rel2 D' ρ' xs vs :=
  ⟨h.1, fun i u v e e' => (h.2 i u v e e').ext x⟩

/-- What stands at one of the call's own blocks. -/
inductive IObj where
  | box (T : TypeId) (cs : List IV)
  | row (e sz : Nat) (xs : List IV)
  | obj (o : Obj)
  | loop (st : LoopState) (pend : Option Code) (fn : FuncId) (tmps : List IV) (params : Array Tmp) (assign body : Code) (k : Nat)
  | gone

def RowOk (w : World) (n0 : Nat) (e : TypeId) (sz : Nat) (v : Value) (n : Nat) (vs : List Value) : Prop :=
  vs.length = n * sz ∧ ((n = 0 ∧ ∃ A, v = .slice A 0 0) ∨
    ∃ g cap cur, 0 < cap ∧ v = .slice (some ⟨g, 0, none⟩) n cap ∧ n0 ≤ g ∧ w.heap[g]? = some (.cells cur e (0, 0)) ∧ n ≤ cap ∧ cap ≤ maxLen ∧ cur.size = cap * sz ∧ cur.toList.take (n * sz) = vs)

def ObjOk (n0 : Nat) (D : DM) (ρ : List Slot) (w : World) : Slot → IObj → Prop
  | .box b, .box T cs => ∃ vs : Array Value, w.heap[b]? = some (.cells vs T (0, 0)) ∧ Rel2 D ρ cs vs.toList
  | .row v n, .row e sz xs => n = xs.length ∧ (∀ x ∈ xs, (flat x).length = sz) ∧ 0 < sz ∧ ∃ vs, RowOk w n0 e sz v n vs ∧ Rel2 D ρ (flats xs) vs
  | .fix b, .obj o => w.heap[b]? = some o
  | .fix b, .loop st pend fn tmps params assign body k => ∃ (vs : Array Value) (bk : Nat), ρ[k]? = some (.fix bk) ∧ w.heap[b]? = some (.loop { state := st, pending := pend, fn, tmps := vs, params, assign, body, defers := bk }) ∧ Rel2 D ρ tmps vs.toList
  | .gone, .gone => True
  | .box _, .gone => True
  | .fix _, .gone => True
  | _, _ => False

def Slot.blk : Slot → Option Nat
  | .box b => some b
  | .fix b => some b
  | .row v _ => hblk v
  | .gone => none

/-- The blocks of the library's variables that are read. -/
def LB (b : Nat) : Prop :=
  b = 0 ∨ b = 1 ∨
  b = 2 ∨
  False
/-- What the library's variables hold that are read. -/
def Laid (w : World) : Prop :=
  Lib.Utf8Tabs 0 1 w ∧
  (∃ m, w.cell? ⟨2, 0, none⟩ = some (.int .i64 m)) ∧
  True
theorem below_cell {w w' : World} (h : Below w.heap.size w w') {p : Addr} {v : Value} (hp : w.cell? p = some v) : w'.cell? p = some v := by
  rcases Nat.lt_or_ge p.block w.heap.size with hb | hb
  · rw [h.cell hb]; exact hp
  · have : w.heap[p.block]? = none := Array.getElem?_eq_none hb
    simp [World.cell?, this] at hp
theorem Laid.below {w w' : World} (h : Laid w) (b : Below w.heap.size w w') : Laid w' := by
  unfold Laid at h ⊢
  refine ⟨⟨fun c hc => below_cell b (h.1.1 c hc), fun i hi => ⟨below_cell b (h.1.2 i hi).1, below_cell b (h.1.2 i hi).2⟩⟩, ?_⟩
  replace h := h.2
  refine ⟨h.1.imp fun m hm => below_cell b hm, ?_⟩
  trivial
/-- Where it all began: the world, and what of it was known to be written no more. -/
structure Base where
  w : World
  d : DM
  l : Laid w
  free : Nat → Prop
  hf : ∀ b, w.heap.size ≤ b → free b
  lf : ∀ b, LB b → ¬ free b
/-- What is not free stays as it was. -/
structure Keeps (F : Nat → Prop) (a w : World) : Prop where
  os : w.os = a.os
  tape : w.tape = a.tape
  output : w.output = a.output
  size : a.heap.size ≤ w.heap.size
  block : ∀ k, ¬ F k → w.heap[k]? = a.heap[k]?
theorem Keeps.on {F : Nat → Prop} {a w w' : World} (h : Keeps F a w) (hF : ∀ b, a.heap.size ≤ b → F b) (os : w'.os = w.os) (tape : w'.tape = w.tape) (output : w'.output = w.output) (size : w.heap.size ≤ w'.heap.size) (block : ∀ k, k < w.heap.size → ¬ F k → w'.heap[k]? = w.heap[k]?) : Keeps F a w' :=
  ⟨os.trans h.os, tape.trans h.tape, output.trans h.output, Nat.le_trans h.size size, fun k hk => (block k (Nat.lt_of_not_le fun hle => hk (hF k (Nat.le_trans h.size hle))) hk).trans (h.block k hk)⟩
theorem Keeps.below {F : Nat → Prop} {a w w' : World} (h : Keeps F a w) (hF : ∀ b, a.heap.size ≤ b → F b) (b : Below w.heap.size w w') : Keeps F a w' := h.on hF b.os b.tape b.output b.size fun k hk _ => b.block k hk
abbrev Base.heap (b : Base) : Array Obj := b.w.heap
structure St (W0 : Base) (D : DM) (ρ : List Slot) (σ : List IObj) (w : World) : Prop where
  below : Keeps W0.free W0.w w
  dc : ∀ b o v, D b o = some v → w.cell? ⟨b, o, none⟩ = some v
  dn : ∀ b o v, D b o = some v → W0.d b o = some v ∨ W0.free b
  len : ρ.length = σ.length
  ok : ∀ (k : Nat) s o, ρ[k]? = some s → σ[k]? = some o → ObjOk 0 D ρ w s o
  own : ∀ (k : Nat) s b, ρ[k]? = some s → s.blk = some b → W0.free b ∧ b < w.heap.size ∧ ∀ o, D b o = none
  inj : ∀ (j k : Nat) s t b, ρ[j]? = some s → ρ[k]? = some t → s.blk = some b → t.blk = some b → j = k
theorem Laid.keeps {F : Nat → Prop} {a w : World} (h : Laid a) (k : Keeps F a w) (hF : ∀ b, LB b → ¬ F b) : Laid w := by
  have key : ∀ {b o : Nat}, LB b → w.cell? ⟨b, o, none⟩ = a.cell? ⟨b, o, none⟩ := fun {b o} hb => World.cell?_of_block (w := a) (a := ⟨b, o, none⟩) (k.block b (hF b hb))
  unfold Laid at h ⊢
  refine ⟨⟨fun c hc => (key (by simp [LB])).trans (h.1.1 c hc), fun i hi => ⟨(key (by simp [LB])).trans (h.1.2 i hi).1, (key (by simp [LB])).trans (h.1.2 i hi).2⟩⟩, ?_⟩
  replace h := h.2
  refine ⟨h.1.imp fun m hm => (key (by simp [LB])).trans hm, ?_⟩
  trivial
theorem St.laid {W0 : Base} {D : DM} {ρ : List Slot} {σ : List IObj} {w : World} (h : St W0 D ρ σ w) : Laid w := W0.l.keeps h.below W0.lf
theorem St.fresh0 {W0 : Base} {D : DM} {ρ : List Slot} {σ : List IObj} {w : World} (h : St W0 D ρ σ w) : W0.free w.heap.size := W0.hf _ h.below.size

theorem RowOk.kept {w w' : World} {n0 : Nat} {e : TypeId} {sz : Nat} {v : Value} {n : Nat} {vs : List Value} (h : RowOk w n0 e sz v n vs) (hk : ∀ b, hblk v = some b → w'.heap[b]? = w.heap[b]?) : RowOk w' n0 e sz v n vs := by
  obtain ⟨h1, h2⟩ := h
  refine ⟨h1, h2.imp id ?_⟩
  rintro ⟨g, cap, cur, hc, rfl, hb, hh, r⟩
  refine ⟨g, cap, cur, hc, rfl, hb, ?_, r⟩
  rw [hk g (by simp [hblk]; omega)]
  exact hh
theorem ObjOk.kept {n0 : Nat} {D D' : DM} {ρ ρ' : List Slot} {w w' : World} {s : Slot} {o : IObj} (h : ObjOk n0 D ρ w s o) (x : Ext D ρ D' ρ') (hk : ∀ b, s.blk = some b → w'.heap[b]? = w.heap[b]?) : ObjOk n0 D' ρ' w' s o := by
  cases s with
  | box b =>
    have e := hk b rfl
    cases o with
    | box T cs => obtain ⟨vs, h1, h2⟩ := h; exact ⟨vs, e.trans h1, h2.ext x⟩
    | row => exact h.elim
    | obj o => exact h.elim
    | loop => exact h.elim
    | gone => trivial
  | fix b =>
    have e := hk b rfl
    cases o with
    | box T cs => exact h.elim
    | row => exact h.elim
    | obj o => exact e.trans h
    | loop st pend fn tmps params assign body k =>
      obtain ⟨vs, bk, h0, h1, h2⟩ := h
      obtain ⟨s', e', l⟩ := x.s k _ h0
      simp only [Slot.le] at l
      subst l
      exact ⟨vs, bk, e', e.trans h1, h2.ext x⟩
    | gone => trivial
  | row v n =>
    cases o with
    | row e sz xs => obtain ⟨h1, h2, h3, vs, h4, h5⟩ := h; exact ⟨h1, h2, h3, vs, h4.kept hk, h5.ext x⟩
    | box => exact h.elim
    | obj => exact h.elim
    | loop => exact h.elim
    | gone => exact h.elim
  | gone => cases o <;> first | trivial | exact h.elim

/-- The one step of all: some blocks have turned, none of them done memory; each slot is as it was, at a block that has not turned, or is shown anew. -/
theorem St.change {W0 : Base} {D D' : DM} {ρ ρ' : List Slot} {σ σ' : List IObj} {w w' : World} (h : St W0 D ρ σ w) (x : Ext D ρ D' ρ') (hb : Keeps W0.free W0.w w') (X : Nat → Prop)
    (hX : ∀ b, X b → ∀ o, D b o = none) (hk : ∀ i, i < w.heap.size → ¬ X i → w'.heap[i]? = w.heap[i]?)
    (hD : ∀ b o v, D' b o = some v → D b o = some v ∨ (W0.free b ∧ w'.cell? ⟨b, o, none⟩ = some v)) (len : ρ'.length = σ'.length)
    (hs : ∀ (k : Nat) s o, ρ'[k]? = some s → σ'[k]? = some o → (ρ[k]? = some s ∧ σ[k]? = some o ∧ ∀ b, s.blk = some b → ¬ X b) ∨ ObjOk 0 D' ρ' w' s o)
    (own : ∀ (k : Nat) s b, ρ'[k]? = some s → s.blk = some b → W0.free b ∧ b < w'.heap.size ∧ ∀ o, D' b o = none)
    (inj : ∀ (j k : Nat) s t b, ρ'[j]? = some s → ρ'[k]? = some t → s.blk = some b → t.blk = some b → j = k) : St W0 D' ρ' σ' w' where
  below := hb
  dc b o v e := by
    rcases hD b o v e with e | e
    · have hc := h.dc b o v e
      have hlt := World.block_lt_of_cell? w _ hc
      have hn : ¬ X b := fun hx => by have := hX b hx o; rw [e] at this; cases this
      rw [World.cell?_of_block (w := w) (a := ⟨b, o, none⟩) (hk b hlt hn)]
      exact hc
    · exact e.2
  dn b o v e := by
    rcases hD b o v e with e | e
    · exact h.dn b o v e
    · exact .inr e.1
  len := len
  ok k s o e e' := by
    rcases hs k s o e e' with ⟨h1, h2, h3⟩ | h4
    · exact (h.ok k s o h1 h2).kept x fun b hb => hk b (h.own k s b h1 hb).2.1 (h3 b hb)
    · exact h4
  own := own
  inj := inj

theorem Addr_add (b o n : Nat) : (⟨b, o, none⟩ : Addr).add n = ⟨b, o + n, none⟩ := by unfold Addr.add; split <;> simp_all

/-- The heap grows (or an order is drawn); what is new may be done memory. -/
theorem St.grew {W0 : Base} {D D' : DM} {ρ : List Slot} {σ : List IObj} {w w' : World} (h : St W0 D ρ σ w) (hg : Below w.heap.size w w') (hd : ∀ b o v, D b o = some v → D' b o = some v)
    (hn : ∀ b o v, D' b o = some v → D b o = some v ∨ (w.heap.size ≤ b ∧ w'.cell? ⟨b, o, none⟩ = some v)) : St W0 D' ρ σ w' ∧ Ext D ρ D' ρ := by
  have x : Ext D ρ D' ρ := ⟨hd, fun k s e => ⟨s, e, Slot.le_refl s⟩⟩
  refine ⟨h.change x (h.below.below W0.hf hg) (fun _ => False) (fun _ hf => hf.elim) (fun i hi _ => hg.block i hi) (fun b o v e => (hn b o v e).imp id fun q => ⟨W0.hf _ (Nat.le_trans h.below.size q.1), q.2⟩) h.len (fun k s o e e' => .inl ⟨e, e', fun _ _ hf => hf⟩) (fun k s b e hb => ?_) h.inj, x⟩
  obtain ⟨h1, h2, h3⟩ := h.own k s b e hb
  refine ⟨h1, Nat.lt_of_lt_of_le h2 hg.size, fun o => ?_⟩
  cases e' : D' b o with
  | none => rfl
  | some v =>
    rcases hn b o v e' with e'' | ⟨e'', _⟩
    · rw [h3 o] at e''; cases e''
    · omega

/-- A new box (or another object) of the call's own. -/
theorem St.push {W0 : Base} {D : DM} {ρ : List Slot} {σ : List IObj} {w : World} (h : St W0 D ρ σ w) (o : Obj) (s0 : Slot) (hs0 : s0.blk = some w.heap.size) (O : IObj) (hO : ObjOk 0 D (ρ ++ [s0]) (w.alloc o) s0 O) :
    St W0 D (ρ ++ [s0]) (σ ++ [O]) (w.alloc o) ∧ Ext D ρ D (ρ ++ [s0]) := by
  have x : Ext D ρ D (ρ ++ [s0]) := ⟨fun _ _ _ h => h, fun k s e => ⟨s, by rw [List.getElem?_append_left (List.getElem?_eq_some_iff.1 e).1]; exact e, Slot.le_refl s⟩⟩
  have hat : ∀ (k : Nat) s, (ρ ++ [s0])[k]? = some s → ρ[k]? = some s ∨ (k = ρ.length ∧ s = s0) := by
    intro k s e
    rcases Nat.lt_or_ge k ρ.length with hk | hk
    · rw [List.getElem?_append_left hk] at e; exact .inl e
    · rw [List.getElem?_append_right hk] at e
      have : k - ρ.length = 0 := by
        have := (List.getElem?_eq_some_iff.1 e).1
        simp at this
        omega
      rw [this] at e
      simp at e
      exact .inr ⟨by omega, e.symm⟩
  have hfree : ∀ o, D w.heap.size o = none := fun o => by
    cases e : D w.heap.size o with
    | none => rfl
    | some v => exact absurd (World.block_lt_of_cell? w _ (h.dc _ _ _ e)) (by simp)
  refine ⟨h.change x (h.below.below W0.hf ((Below.refl _ w).alloc (Nat.le_refl _) o)) (fun _ => False) (fun _ hf => hf.elim) (fun i hi _ => Below.heap_alloc _ _ _ hi) (fun b o v e => .inl e) (by simp [h.len]) (fun k s o' e e' => ?_) (fun k s b e hb => ?_) (fun j k s t b e e' hb hb' => ?_), x⟩
  · rcases hat k s e with e1 | ⟨rfl, rfl⟩
    · rw [List.getElem?_append_left (by rw [← h.len]; exact (List.getElem?_eq_some_iff.1 e1).1)] at e'
      exact .inl ⟨e1, e', fun _ _ hf => hf⟩
    · rw [List.getElem?_append_right (by rw [h.len]; exact Nat.le_refl _), h.len, Nat.sub_self] at e'
      simp at e'
      subst e'
      exact .inr hO
  · rcases hat k s e with e1 | ⟨rfl, rfl⟩
    · obtain ⟨h1, h2, h3⟩ := h.own k s b e1 hb
      exact ⟨h1, by simp; omega, h3⟩
    · rw [hs0, Option.some.injEq] at hb
      subst hb
      exact ⟨h.fresh0, by simp, hfree⟩
  · rcases hat j s e with e1 | ⟨rfl, rfl⟩ <;> rcases hat k t e' with e2 | ⟨rfl, rfl⟩
    · exact h.inj j k s t b e1 e2 hb hb'
    · rw [hs0, Option.some.injEq] at hb'
      have := (h.own j s b e1 hb).2.1
      omega
    · rw [hs0, Option.some.injEq] at hb
      have := (h.own k t b e2 hb').2.1
      omega
    · rfl

/-- One box is written. -/
theorem St.set {W0 : Base} {D : DM} {ρ : List Slot} {σ : List IObj} {w w' : World} (h : St W0 D ρ σ w) {k b : Nat} {s0 : Slot} (hk : ρ[k]? = some s0) (hs0 : s0.blk = some b) (O : IObj) (hO : ObjOk 0 D ρ w' s0 O)
    (hos : w'.os = w.os) (htape : w'.tape = w.tape) (hout : w'.output = w.output) (hsz : w'.heap.size = w.heap.size) (hold : ∀ i, i ≠ b → w'.heap[i]? = w.heap[i]?) : St W0 D ρ (σ.set k O) w' := by
  obtain ⟨h1, h2, h3⟩ := h.own k _ b hk hs0
  refine h.change (Ext.refl _ _) ?_ (fun i => i = b) (fun i hi o => by subst hi; exact h3 o) (fun i _ hi => hold i hi) (fun b o v e => .inl e) (by simp [h.len]) (fun j s o e e' => ?_) (fun j s b' e hb => ?_) h.inj
  · exact h.below.on W0.hf hos htape hout (by omega) fun i _ hi => hold i fun e => hi (e ▸ h1)
  · by_cases hj : j = k
    · subst hj
      rw [hk] at e
      simp at e
      subst e
      rw [List.getElem?_set_self (by rw [← h.len]; exact (List.getElem?_eq_some_iff.1 hk).1)] at e'
      simp at e'
      subst e'
      exact .inr hO
    · rw [List.getElem?_set_ne (Ne.symm hj)] at e'
      exact .inl ⟨e, e', fun b' hb' e'' => hj (h.inj j k s _ b e hk (by rw [← e'']; exact hb') hs0)⟩
  · obtain ⟨h4, h5, h6⟩ := h.own j s b' e hb
    exact ⟨h4, by omega, h6⟩
end Go.QL
end

section
/- QL, part b: the calculus: code, regions, calls over ideal states. Plain; no program in sight. -/
set_option linter.unusedVariables false
set_option linter.unusedSimpArgs false
namespace Go.QL
open Go Go.RowKit

inductive IDef where
  | mark (k : Nat)
structure IA where
  tmps : List IV
  defers : List IDef := []
abbrev IPost := Exit → IA → List IObj → Prop
/-- In which round a frame is; how many blocks are its caller's. -/
structure RN where
  round : Option Nat
  n : Nat
abbrev Wd (r : RN) : Fence := { Fence.wide with round := r.round }
abbrev Val2 := Operand → IV

def cst1 : Value → IV
  | .int k n => .int k n
  | .bool b => .bool b
  | .string s => .str s
  | .slice none 0 0 => .nils
  | .pointer none => .nilp
  | .nilFunc => .nilf
  | _ => .junk
def cst : Value → IV
  | .agg vs => .agg (vs.toList.map cst1)
  | v => cst1 v
theorem vr_cst1 (D : DM) (ρ : List Slot) (v : Value) : VR D ρ (cst1 v) v := by
  unfold cst1
  split <;> constructor
theorem vr_cst (D : DM) (ρ : List Slot) (v : Value) : VR D ρ (cst v) v := by
  unfold cst
  split
  · refine .agg _ _ (by simp) fun i u v e e' => ?_
    simp only [List.getElem?_map, Option.map_eq_some_iff] at e
    obtain ⟨x, hx, rfl⟩ := e
    have : x = v := by
      have e2 : (‹Array Value›).toList[i]? = some v := by simpa using e'
      rw [hx] at e2
      exact Option.some.inj e2
    subst this
    exact vr_cst1 D ρ x
  · exact vr_cst1 D ρ _

def ev (a : IA) : Val2
  | .tmp t => a.tmps.getD t .junk
  | .const v => cst v
  | .global _ => .junk
  | .func f => .fn (.func f) [] []
def IA.put (a : IA) (d : Option Tmp) (v : IV) : IA :=
  match d with
  | some d => { a with tmps := a.tmps.set d v }
  | none => a

def DR (ρ : List Slot) : List IDef → List Deferred → Prop
  | [], [] => True
  | .mark k :: ds, d :: es => (∃ b, ρ[k]? = some (.fix b) ∧ d = { target := .collected b, args := #[] }) ∧ DR ρ ds es
  | _, _ => False
theorem DR.ext {D D' : DM} {ρ ρ' : List Slot} (x : Ext D ρ D' ρ') : ∀ {ds : List IDef} {es : List Deferred}, DR ρ ds es → DR ρ' ds es
  | [], [], _ => trivial
  | .mark k :: ds, d :: es, h => by
    obtain ⟨⟨b, h1, h2⟩, h3⟩ := h
    obtain ⟨s', e', l⟩ := x.s k _ h1
    simp only [Slot.le] at l
    subst l
    exact ⟨⟨b, e', h2⟩, h3.ext x⟩
  | [], _ :: _, h => h.elim
  | .mark _ :: _, [], h => h.elim

structure FR (D : DM) (ρ : List Slot) (a : IA) (A : Act) : Prop where
  t : Rel2 D ρ a.tmps A.tmps.toList
  d : DR ρ a.defers A.defers
theorem FR.ext {D D' : DM} {ρ ρ' : List Slot} {a : IA} {A : Act} (h : FR D ρ a A) (x : Ext D ρ D' ρ') : FR D' ρ' a A := ⟨h.t.ext x, h.d.ext x⟩
theorem FR.ev {D : DM} {ρ : List Slot} {a : IA} {A : Act} (h : FR D ρ a A) (x : Operand) : VR D ρ (ev a x) (A.eval x) := by
  cases x with
  | tmp t =>
    simp only [QL.ev, Act.eval]
    rcases Nat.lt_or_ge t a.tmps.length with ht | ht
    · have hl : a.tmps.length = A.tmps.size := by simpa using h.t.1
      have ht' : t < A.tmps.size := hl ▸ ht
      refine h.t.2 t (a.tmps.getD t .junk) (A.tmps.getD t undef) ?_ ?_
      · simp [List.getD_eq_getElem?_getD, List.getElem?_eq_getElem ht]
      · simp [Array.getD, ht']
    · rw [List.getD_eq_getElem?_getD, List.getElem?_eq_none ht]
      exact .junk _
  | const v => exact vr_cst _ _ v
  | global g => exact .junk _
  | func f => exact .fn _ _ _ _ _ rfl rfl (fun i u v e _ => by simp at e) (fun i u v e _ => by simp at e)
theorem Rel2.set {D : DM} {ρ : List Slot} {xs : List IV} {vs : List Value} (h : Rel2 D ρ xs vs) {u : IV} {v : Value} (hv : VR D ρ u v) (d : Nat) : Rel2 D ρ (xs.set d u) (vs.set d v) := by
  refine ⟨by simp [h.1], fun i x y e e' => ?_⟩
  by_cases hi : d = i
  · subst hi
    have hl := (List.getElem?_eq_some_iff.1 e).1
    simp only [List.length_set] at hl
    rw [List.getElem?_set_self hl] at e
    rw [List.getElem?_set_self (by rw [← h.1]; exact hl)] at e'
    cases e; cases e'
    exact hv
  · rw [List.getElem?_set_ne hi] at e e'
    exact h.2 i x y e e'
theorem FR.put {D : DM} {ρ : List Slot} {a : IA} {A : Act} (h : FR D ρ a A) {u : IV} {v : Value} (hv : VR D ρ u v) (d : Option Tmp) : FR D ρ (a.put d u) (A.put d v) := by
  cases d with
  | none => exact h
  | some d =>
    refine ⟨?_, h.d⟩
    have := h.t.set hv d
    simpa [IA.put, Act.put] using this

theorem Ext.take0 (D : DM) (ρ : List Slot) (n : Nat) : Ext D (ρ.take n) D ρ := ⟨fun _ _ _ h => h, fun k s e => by
  rw [List.getElem?_take] at e
  split at e
  · exact ⟨s, e, Slot.le_refl s⟩
  · cases e⟩
theorem Ext.take {D D' : DM} {ρ ρ' : List Slot} {n : Nat} (x : Ext D (ρ.take n) D' ρ') : Ext D (ρ.take n) D' (ρ'.take n) := ⟨x.d, fun k s e => by
  obtain ⟨s', e', l⟩ := x.s k s e
  rw [List.getElem?_take] at e
  split at e
  · exact ⟨s', by rw [List.getElem?_take, if_pos (by assumption)]; exact e', l⟩
  · cases e⟩
def lift (n : Nat) (W0 : Base) (D0 : DM) (ρ0 : List Slot) (Q : IPost) : Exit → Act → World → Prop :=
  fun e A w => ∃ D ρ a σ, Ext D0 (ρ0.take n) D ρ ∧ St W0 D ρ σ w ∧ FR D ρ a A ∧ Q e a σ
theorem lift_tail {n : Nat} {W0 : Base} {D D0 : DM} {ρ ρ0 : List Slot} {Q : IPost} (x : Ext D0 (ρ0.take n) D ρ) {e : Exit} {A : Act} {w : World} (h : lift n W0 D ρ Q e A w) : lift n W0 D0 ρ0 Q e A w :=
  let ⟨D', ρ', a, σ, x', r⟩ := h; ⟨D', ρ', a, σ, x.take.trans x', r⟩
theorem lift_ext {n : Nat} {W0 : Base} {D D0 : DM} {ρ ρ0 : List Slot} {Q : IPost} (x : Ext D0 ρ0 D ρ) {e : Exit} {A : Act} {w : World} (h : lift n W0 D ρ Q e A w) : lift n W0 D0 ρ0 Q e A w :=
  lift_tail ((Ext.take0 _ _ _).trans x) h

/-- From a state that is as the ideal one, the code is left as Q says. -/
def IC (P : Program) (r : RN) (c : Code) (Q : IPost) (a : IA) (σ : List IObj) : Prop :=
  ∀ W0 D ρ w A, St W0 D ρ σ w → FR D ρ a A → c.wpIn (Wd r) 0 P (lift r.n W0 D ρ Q) A w
def IThen (K : IA → List IObj → Prop) (Q : IPost) : IPost
  | .normal, a, σ => K a σ
  | e, a, σ => Q e a σ
def IBlock (id : Nat) (Q : IPost) : IPost
  | .exit id', a, σ => if id' = id then Q .normal a σ else Q (.exit id') a σ
  | e, a, σ => Q e a σ
def IL (P : Program) (r : RN) (ops : Array Oper) (Q : IPost) (rest : List Oper) (a : IA) (σ : List IObj) : Prop :=
  ∀ W0 D ρ w A, St W0 D ρ σ w → FR D ρ a A → wpListIn (Wd r) 0 P ops (lift r.n W0 D ρ Q) rest A w

section
variable {P : Program} {r : RN} {Q : IPost} {a : IA} {σ : List IObj}
theorem IC.mono {c : Code} {Q' : IPost} (h : IC P r c Q a σ) (hq : ∀ e a σ, Q e a σ → Q' e a σ) : IC P r c Q' a σ :=
  fun W0 D ρ w A hs hf => wpIn_mono (h W0 D ρ w A hs hf) fun e A w ⟨D', ρ', a, σ, x, s, f, q⟩ => ⟨D', ρ', a, σ, x, s, f, hq _ _ _ q⟩
theorem ic_skip (h : Q .normal a σ) : IC P r .skip Q a σ := fun W0 D ρ w A hs hf => wpIn_skip ⟨D, ρ, a, σ, .take0 _ _ _, hs, hf, h⟩
theorem ic_ret (h : Q .ret a σ) : IC P r .ret Q a σ := fun W0 D ρ w A hs hf => wpIn_ret ⟨D, ρ, a, σ, .take0 _ _ _, hs, hf, h⟩
theorem ic_exit {id : Nat} (h : Q (.exit id) a σ) : IC P r (.exit id) Q a σ := fun W0 D ρ w A hs hf => wpIn_exit ⟨D, ρ, a, σ, .take0 _ _ _, hs, hf, h⟩
theorem ic_seq {x y : Code} (h : IC P r x (IThen (IC P r y Q) Q) a σ) : IC P r (.seq x y) Q a σ := by
  intro W0 D ρ w A hs hf
  refine wpIn_seq (wpIn_mono (h W0 D ρ w A hs hf) ?_)
  rintro e A' w' ⟨D', ρ', a', σ', x', s', f', q'⟩
  cases e with
  | normal => exact wpIn_mono (q' W0 D' ρ' w' A' s' f') fun _ _ _ q => lift_tail x' q
  | _ => exact ⟨D', ρ', a', σ', x', s', f', q'⟩
theorem ic_block {id : Nat} {c : Code} (h : IC P r c (IBlock id Q) a σ) : IC P r (.block id c) Q a σ := by
  intro W0 D ρ w A hs hf
  refine wpIn_block (wpIn_mono (h W0 D ρ w A hs hf) ?_)
  rintro e A' w' ⟨D', ρ', a', σ', x', s', f', q'⟩
  cases e with
  | exit id' =>
    simp only [IBlock] at q'
    simp only [Exit.inBlock]
    split at q'
    · rename_i hid; rw [if_pos hid]; exact ⟨D', ρ', a', σ', x', s', f', q'⟩
    · rename_i hid; rw [if_neg hid]; exact ⟨D', ρ', a', σ', x', s', f', q'⟩
  | _ => exact ⟨D', ρ', a', σ', x', s', f', q'⟩
theorem VR.bool_inv {D : DM} {ρ : List Slot} {t : Bool} {v : Value} (h : VR D ρ (.bool t) v) : v = .bool t := by cases h; rfl
theorem VR.int_inv {D : DM} {ρ : List Slot} {k : IntKind} {n : Int} {v : Value} (h : VR D ρ (.int k n) v) : v = .int k n := by cases h; rfl
theorem VR.str_inv {D : DM} {ρ : List Slot} {s : ByteArray} {v : Value} (h : VR D ρ (.str s) v) : v = .string s := by cases h; rfl
theorem ic_cond {c : Operand} {x y : Code} {t : Bool} (hc : ev a c = .bool t) (ht : t = true → IC P r x Q a σ) (hf : t = false → IC P r y Q a σ) : IC P r (.cond c x y) Q a σ := by
  intro W0 D ρ w A hs hfr
  have hv := hfr.ev c
  rw [hc] at hv
  refine wpIn_cond_split hv.bool_inv (fun e => ht e W0 D ρ w A hs hfr) (fun e => hf e W0 D ρ w A hs hfr)
/-- A loop: I m: what holds at a round's head, m: what is left of rounds at most. -/
theorem ic_loop {c : Code} (I : Nat → IA → List IObj → Prop) {m : Nat} (h0 : I m a σ)
    (round : ∀ m a σ, I m a σ → IC P r c (IThen (fun a' σ' => ∃ m', m' < m ∧ I m' a' σ') Q) a σ) : IC P r (.loop c) Q a σ := by
  intro W0 D ρ w A hs hf b k cs hro hb hr
  have key : ∀ (m : Nat) (a : IA) (σ : List IObj) (D' : DM) (ρ' : List Slot) (w : World) (A : Act), Ext D (ρ.take r.n) D' ρ' → I m a σ → St W0 D' ρ' σ w → FR D' ρ' a A →
      ∃ e a' w', lift r.n W0 D ρ Q e a' w' ∧ ArrivesIn (Machine.fenced P (Wd r)) P (lone (b.atR A (.code c :: .inLoop c :: k)) cs w) b k cs e a' w' := by
    intro m
    induction m using Nat.strongRecOn with
    | _ m ih =>
      intro a σ D' ρ' w A x hI hs hf
      obtain ⟨e, a₁, w₁, hq, harr⟩ := round m a σ hI W0 D' ρ' w A hs hf b (.inLoop c :: k) cs hro hb hr
      obtain ⟨D2, ρ2, a2, σ2, x2, s2, f2, q2⟩ := hq
      cases e with
      | normal =>
        obtain ⟨m', hlt, hI'⟩ := q2
        obtain ⟨e₂, a₂, w₂, hq₂, harr₂⟩ := ih m' hlt a2 σ2 D2 ρ2 w₁ a₁ (x.take.trans x2) hI' s2 f2
        exact ⟨e₂, a₂, w₂, hq₂, .of_steps (StepsIn.trans harr (.one (fenced_calm hb hr rfl) stepR_inLoop)) harr₂⟩
      | exit id => exact ⟨_, a₁, w₁, ⟨D2, ρ2, a2, σ2, x.take.trans x2, s2, f2, q2⟩, .pass (x := .inLoop c) rfl (fun _ _ => .inl (by simp)) harr⟩
      | goto l => exact ⟨_, a₁, w₁, ⟨D2, ρ2, a2, σ2, x.take.trans x2, s2, f2, q2⟩, .pass (x := .inLoop c) rfl (fun _ _ => .inl (by simp)) harr⟩
      | ret => exact ⟨_, a₁, w₁, ⟨D2, ρ2, a2, σ2, x.take.trans x2, s2, f2, q2⟩, .pass (x := .inLoop c) rfl (fun _ _ => .inl (by simp)) harr⟩
      | panic ch => exact ⟨_, a₁, w₁, ⟨D2, ρ2, a2, σ2, x.take.trans x2, s2, f2, q2⟩, .pass (x := .inLoop c) rfl (fun _ _ => .inl (by simp)) harr⟩
      | outgrown => exact ⟨_, a₁, w₁, ⟨D2, ρ2, a2, σ2, x.take.trans x2, s2, f2, q2⟩, .pass (x := .inLoop c) rfl (fun _ _ => .inl (by simp)) harr⟩
  obtain ⟨e, a', w', hq, harr⟩ := key m a σ D ρ w A (.take0 _ _ _) h0 hs hf
  exact ⟨e, a', w', hq, .of_steps (.one (fenced_calm hb hr rfl) stepR_loop) harr⟩
theorem ic_region {id : Nat} {l : List Oper} (h : IL P r l.toArray Q l a σ) : IC P r (.region id l.toArray false) Q a σ :=
  fun W0 D ρ w A hs hf => wpIn_region_lit (h W0 D ρ w A hs hf)
theorem il_nil {ops : Array Oper} (h : Q .normal a σ) : IL P r ops Q [] a σ := fun W0 D ρ w A hs hf => wpListIn_nil ⟨D, ρ, a, σ, .take0 _ _ _, hs, hf, h⟩

/-- One operation, from what its operands are. -/
def OpK (P : Program) (r : RN) (o : Oper) (e : Val2) (σ : List IObj) (K : IV → List IObj → Prop) : Prop :=
  ∀ W0 D ρ w A, St W0 D ρ σ w → (∀ x ∈ o.op.operands, VR D ρ (e x) (A.eval x)) →
    o.wpIn (Wd r) 0 P A w (fun A' w' => ∃ D' ρ' v val σ', A' = A.put o.dst val ∧ Ext D ρ D' ρ' ∧ St W0 D' ρ' σ' w' ∧ VR D' ρ' v val ∧ K v σ') (fun _ _ _ => False)
/-- .. with one outcome. -/
abbrev OpQ (P : Program) (r : RN) (o : Oper) (e : Val2) (σ : List IObj) (v : IV) (σ' : List IObj) : Prop := OpK P r o e σ (fun v' σ'' => v' = v ∧ σ'' = σ')

theorem wpIn_weaken {F : Fence} {n : Nat} {o : Oper} {A : Act} {w : World} {K K' : Act → World → Prop} {Q Q' : Exit → Act → World → Prop} (hk : ∀ a w, K a w → K' a w) (hq : ∀ e a w, Q e a w → Q' e a w)
    (h : o.wpIn F n P A w K Q) : o.wpIn F n P A w K' Q' := by
  unfold Oper.wpIn at *
  refine ⟨h.1, ?_⟩
  have hh := h.2
  generalize (o.semAt F.round A.eval).run P w = r at *
  have hl : LetsOut Q → LetsOut Q' := fun ⟨a, w, h⟩ => ⟨a, w, hq _ _ _ h⟩
  cases r with
  | ok x w' =>
    cases x <;> simp only [Oper.uponIn] at hh ⊢ <;>
      first
        | exact hk _ _ hh
        | exact ⟨hh.1, CallsIn.mono hh.2 (fun e w'' he => by cases e <;> first | exact hk _ _ he | exact hq _ _ _ he | exact hl he)⟩
        | exact ⟨hh.1, RowsIn.mono hh.2 (fun _ _ he => hk _ _ he)⟩
        | exact ⟨hh.1, RoundIn.mono hh.2 (fun e w'' he => by cases e <;> first | exact hk _ _ he | exact hq _ _ _ he | exact hl he)⟩
  | halt x w' => cases x <;> simp only [Oper.uponIn] at hh ⊢ <;> first | exact hq _ _ _ hh | exact hh

theorem OpK.mono {o : Oper} {e : Val2} {K K' : IV → List IObj → Prop} (h : OpK P r o e σ K) (hk : ∀ v σ, K v σ → K' v σ) : OpK P r o e σ K' :=
  fun W0 D ρ w A hs ho => wpIn_weaken (fun _ _ ⟨D', ρ', v, val, σ', h1, h2, h3, h4, h5⟩ => ⟨D', ρ', v, val, σ', h1, h2, h3, h4, hk _ _ h5⟩) (fun _ _ _ h => h) (h W0 D ρ w A hs ho)

theorem il_op {ops : Array Oper} {o : Oper} {rest : List Oper} {K : IV → List IObj → Prop} (hg : o.guard = none) (h : OpK P r o (ev a) σ K) (k : ∀ v σ', K v σ' → IL P r ops Q rest (a.put o.dst v) σ') : IL P r ops Q (o :: rest) a σ := by
  intro W0 D ρ w A hs hf
  refine wpListIn_plain hg fun K' hK' => wpIn_weaken ?_ (fun _ _ _ hf => hf.elim) (h W0 D ρ w A hs fun x _ => hf.ev x)
  rintro A' w' ⟨D', ρ', v, val, σ', rfl, x, s', hv, hk⟩
  refine hK' _ _ ?_
  have hl := k v σ' hk W0 D' ρ' w' _ s' ((hf.ext x).put hv o.dst)
  -- the post goes back to the start
  exact wpListIn_lift (fun e A w q => lift_ext x q) hl
where
  wpListIn_lift {F : Fence} {n : Nat} {P : Program} {ops : Array Oper} {Q Q' : Exit → Act → World → Prop} (hq : ∀ e a w, Q e a w → Q' e a w) : ∀ {l : List Oper} {a : Act} {w : World}, wpListIn F n P ops Q l a w → wpListIn F n P ops Q' l a w
    | [], a, w, h => hq _ _ _ h
    | o :: l, a, w, h => by
      simp only [wpListIn] at h ⊢
      split
      · rename_i hw
        rw [if_pos hw] at h
        exact wpIn_weaken (fun _ _ h => wpListIn_lift hq h) hq h
      · rename_i hw
        rw [if_neg hw] at h
        exact ⟨h.1, wpListIn_lift hq h.2⟩
theorem il_det {ops : Array Oper} {o : Oper} {rest : List Oper} {v : IV} {σ' : List IObj} (hg : o.guard = none) (h : OpQ P r o (ev a) σ v σ') (k : IL P r ops Q rest (a.put o.dst v) σ') : IL P r ops Q (o :: rest) a σ :=
  il_op hg h fun _ _ ⟨e1, e2⟩ => by subst e1; subst e2; exact k

/-- What a guard's operation has left. -/
def gv (ops : Array Oper) (a : IA) (j : Nat) : IV :=
  match (ops[j]?).bind (·.dst) with
  | some t => a.tmps.getD t .junk
  | none => .junk
theorem FR.yield {D : DM} {ρ : List Slot} {A : Act} (h : FR D ρ a A) (ops : Array Oper) (j : Nat) (b : Bool) (hb : gv ops a j = .bool b) : yielded ops A.tmps j = some b := by
  unfold gv at hb
  unfold yielded
  split at hb
  · rename_i t ht
    rw [ht]
    have := h.ev (.tmp t)
    simp only [QL.ev, hb] at this
    have := this.bool_inv
    simp only [Act.eval] at this
    have ht' : t < A.tmps.size := by
      rcases Nat.lt_or_ge t A.tmps.size with h | h
      · exact h
      · simp [Array.getD, Nat.not_lt.2 h, undef] at this
    simp [Array.getD, ht'] at this
    simp [ht', this]
  · cases hb
theorem FR.unyield {D : DM} {ρ : List Slot} {A : Act} (h : FR D ρ a A) (ops : Array Oper) (j : Nat) (hb : gv ops a j = .und) : yielded ops A.tmps j = none := by
  unfold gv at hb
  unfold yielded
  split at hb
  · rename_i t ht
    rw [ht]
    have := h.ev (.tmp t)
    simp only [QL.ev, hb] at this
    cases hv : A.eval (.tmp t) <;> rw [hv] at this <;> cases this
    simp only [Act.eval] at hv
    rcases Nat.lt_or_ge t A.tmps.size with h' | h'
    · simp [Array.getD, h'] at hv
      simp [h', hv]
    · simp [h']
  · cases hb
theorem il_yes {ops : Array Oper} {o : Oper} {rest : List Oper} {j : Nat} {b : Bool} {K : IV → List IObj → Prop} (hg : o.guard = some (j, b)) (hb : gv ops a j = .bool b) (h : OpK P r o (ev a) σ K)
    (k : ∀ v σ', K v σ' → IL P r ops Q rest (a.put o.dst v) σ') : IL P r ops Q (o :: rest) a σ := by
  intro W0 D ρ w A hs hf
  have hy := hf.yield ops j b hb
  refine wpListIn_step fun K' hK' => ?_
  rw [if_pos (by simp [Region.wanted, hg, hy])]
  refine wpIn_weaken ?_ (fun _ _ _ hf => hf.elim) (h W0 D ρ w A hs fun x _ => hf.ev x)
  rintro A' w' ⟨D', ρ', v, val, σ', rfl, x, s', hv, hk⟩
  exact hK' _ _ (il_op.wpListIn_lift (fun e A w q => lift_ext x q) (k v σ' hk W0 D' ρ' w' _ s' ((hf.ext x).put hv o.dst)))
theorem il_no {ops : Array Oper} {o : Oper} {rest : List Oper} {j : Nat} {b : Bool} (hg : o.guard = some (j, b)) (hb : gv ops a j = .bool (!b) ∨ gv ops a j = .und) (k : IL P r ops Q rest (a.put o.dst .und) σ) : IL P r ops Q (o :: rest) a σ := by
  intro W0 D ρ w A hs hf
  have hy : yielded ops A.tmps j = some (!b) ∨ yielded ops A.tmps j = none := hb.imp (hf.yield ops j _) (hf.unyield ops j)
  refine wpListIn_step fun K' hK' => ?_
  rw [if_neg (by simp only [Region.wanted, hg]; rcases hy with h | h <;> rw [h] <;> simp)]
  exact ⟨fun _ _ => trivial, hK' _ _ (k W0 D ρ w _ hs (hf.put .und o.dst))⟩
end

/-- A call's contract. -/
def ICalls (P : Program) (f : FuncId) (args : List IV) (σ : List IObj) (R : IV → List IObj → Prop) : Prop :=
  ∀ W0 D ρ w vs, St W0 D ρ σ w → Rel2 D ρ args vs.toList → Calls P f vs w fun e w' => ∃ D' ρ' u v σ', e = .returned v ∧ Ext D ρ D' ρ' ∧ St W0 D' ρ' σ' w' ∧ VR D' ρ' u v ∧ R u σ'
theorem ICalls.mono {P : Program} {f : FuncId} {args : List IV} {σ : List IObj} {R R' : IV → List IObj → Prop} (h : ICalls P f args σ R) (hr : ∀ u σ, R u σ → R' u σ) : ICalls P f args σ R' :=
  fun W0 D ρ w vs hs ha => (h W0 D ρ w vs hs ha).mono fun e w' ⟨D', ρ', u, v, σ', h1, h2, h3, h4, h5⟩ => ⟨D', ρ', u, v, σ', h1, h2, h3, h4, hr _ _ h5⟩

/-- What the results' variables come to. -/
def IRes (P : Program) (fn : Func) (a : IA) (σ : List IObj) (u : IV) : Prop :=
  ∀ W0 D ρ w A, St W0 D ρ σ w → FR D ρ a A → ∃ v, (results fn A.tmps).run P w = .ok v w ∧ VR D ρ u v
def IRet (P : Program) (fn : Func) (R : IV → List IObj → Prop) : IPost
  | .normal, a, σ | .ret, a, σ => a.defers = [] ∧ ∃ u, IRes P fn a σ u ∧ R u σ
  | _, _, _ => False
theorem DR.nil {ρ : List Slot} {es : List Deferred} (h : DR ρ [] es) : es = [] := by cases es <;> simp_all [DR]
theorem icalls_of {P : Program} {f : FuncId} {fn : Func} {c : Code} {args : List IV} {σ : List IObj} {R : IV → List IObj → Prop} (hf : P.funcs[f]? = some fn) (hb : fn.body = some c)
    (h : IC P ⟨none, σ.length⟩ c (IRet P fn R) { tmps := args ++ List.replicate (fn.ntmps - args.length) .und, defers := [] } σ) : ICalls P f args σ R := by
  intro W0 D ρ w vs hs ha
  refine callsIn_wide.1 (callsIn_of_wp (n := 0) hf hb trivial ?_)
  have hl : args.length = vs.size := by simpa using ha.1
  refine wpIn_mono (h W0 D ρ w { tmps := vs ++ Array.replicate (fn.ntmps - vs.size) undef, defers := [] } hs ⟨?_, trivial⟩) ?_
  · rw [hl]
    refine ⟨by simp [hl], fun i u v e e' => ?_⟩
    simp only [Array.toList_append, Array.toList_replicate] at e'
    rcases Nat.lt_or_ge i args.length with hi | hi
    · rw [List.getElem?_append_left hi] at e
      rw [List.getElem?_append_left (by simp; omega)] at e'
      exact ha.2 i u v e e'
    · rw [List.getElem?_append_right hi] at e
      rw [List.getElem?_append_right (by simp; omega)] at e'
      have h1 := List.eq_of_mem_replicate (List.mem_of_getElem? e)
      have h2 := List.eq_of_mem_replicate (List.mem_of_getElem? e')
      subst h1; subst h2
      exact .und
  · rintro e A' w' ⟨D', ρ', a', σ', x, s', f', q⟩
    simp only [← hs.len, List.take_length] at x
    cases e with
    | normal =>
      obtain ⟨hd, u, hres, hR⟩ := q
      obtain ⟨v, hv, hvr⟩ := hres W0 D' ρ' w' A' s' f'
      exact ⟨(hd ▸ f'.d).nil, v, hv, D', ρ', u, v, σ', rfl, x, s', hvr, hR⟩
    | ret =>
      obtain ⟨hd, u, hres, hR⟩ := q
      obtain ⟨v, hv, hvr⟩ := hres W0 D' ρ' w' A' s' f'
      exact ⟨(hd ▸ f'.d).nil, v, hv, D', ρ', u, v, σ', rfl, x, s', hvr, hR⟩
    | exit id => exact q.elim
    | goto l => exact q.elim
    | panic ch => exact q.elim
    | outgrown => exact q.elim
theorem ires_tmp {P : Program} {fn : Func} {a : IA} {σ : List IObj} {t : Tmp} (h : fn.results = #[.tmp t]) (ht : t < a.tmps.length) : IRes P fn a σ (a.tmps.getD t .junk) := by
  intro W0 D ρ w A hs hf
  exact ⟨A.tmps.getD t undef, results_tmp h _ _ _, hf.ev (.tmp t)⟩
theorem ires_none {P : Program} {fn : Func} {a : IA} {σ : List IObj} (h : fn.results = #[]) : IRes P fn a σ (.tup []) := by
  intro W0 D ρ w A hs hf
  exact ⟨_, results_none h _ _ _, .tup _ _ rfl (fun i u v e _ => by simp at e)⟩
theorem ires_tmp2 {P : Program} {fn : Func} {a : IA} {σ : List IObj} {t s : Tmp} (h : fn.results = #[.tmp t, .tmp s]) : IRes P fn a σ (.tup [a.tmps.getD t .junk, a.tmps.getD s .junk]) := by
  intro W0 D ρ w A hs hf
  refine ⟨_, results_tmp2 h _ _ _, .tup _ _ rfl fun i u v e e' => ?_⟩
  rcases i with _ | _ | i
  · rw [List.getElem?_cons_zero] at e
    cases e
    have e2 : v = A.tmps.getD t undef := by simpa using e'.symm
    subst e2
    exact hf.ev (.tmp t)
  · rw [List.getElem?_cons_succ, List.getElem?_cons_zero] at e
    cases e
    have e2 : v = A.tmps.getD s undef := by simpa using e'.symm
    subst e2
    exact hf.ev (.tmp s)
  · simp at e
end Go.QL
end

section
/- QL, part c: the operations that make no call. Plain; no program in sight. -/
set_option linter.unusedVariables false
set_option linter.unusedSimpArgs false
namespace Go.QL
open Go Go.RowKit

def Op.isDefer : Op → Bool
  | .defer _ => true
  | _ => false
section
variable {P : Program} {r : RN} {o : Oper} {e : Val2} {σ : List IObj}

theorem opk_val {K : IV → List IObj → Prop} (hnd : Op.isDefer o.op = false)
    (h : ∀ W0 D ρ w (A : Act), St W0 D ρ σ w → (∀ x ∈ o.op.operands, VR D ρ (e x) (A.eval x)) →
      ∃ D' ρ' v val σ' w', (execOp A.eval o).run P w = .ok (.value val) w' ∧ Ext D ρ D' ρ' ∧ St W0 D' ρ' σ' w' ∧ VR D' ρ' v val ∧ K v σ') : OpK P r o e σ K := by
  intro W0 D ρ w A hs ho
  obtain ⟨D', ρ', v, val, σ', w', h1, h2, h3, h4, h5⟩ := h W0 D ρ w A hs ho
  refine ⟨fun _ _ => trivial, ?_⟩
  rw [Oper.semAt_eq _ _ _ (fun c hc => by rw [hc] at hnd; cases hnd), h1]
  exact ⟨D', ρ', v, val, σ', rfl, h2, h3, h4, h5⟩
/-- .. the world stays. -/
theorem opq_pure {v : IV} (hnd : Op.isDefer o.op = false)
    (h : ∀ W0 D ρ w (A : Act), St W0 D ρ σ w → (∀ x ∈ o.op.operands, VR D ρ (e x) (A.eval x)) → ∃ val, (execOp A.eval o).run P w = .ok (.value val) w ∧ VR D ρ v val) : OpQ P r o e σ v σ :=
  opk_val hnd fun W0 D ρ w A hs ho => let ⟨val, h1, h2⟩ := h W0 D ρ w A hs ho; ⟨D, ρ, v, val, σ, w, h1, .refl _ _, hs, h2, rfl, rfl⟩

theorem op_move {x : Operand} (ho : o.op = .move x) : OpQ P r o e σ (e x) σ := by
  refine opq_pure (by rw [ho]; rfl) fun W0 D ρ w A hs hx => ⟨A.eval x, ?_, hx x (by simp [ho, Op.operands])⟩
  simp [execOp, ho]
theorem op_assign {x : Operand} (ho : o.op = .assign x) : OpQ P r o e σ (e x) σ := by
  refine opq_pure (by rw [ho]; rfl) fun W0 D ρ w A hs hx => ⟨A.eval x, ?_, hx x (by simp [ho, Op.operands])⟩
  simp [execOp, ho]
theorem op_pick {c x y : Operand} {t : Bool} (ho : o.op = .pick c x y) (hc : e c = .bool t) : OpQ P r o e σ (if t then e x else e y) σ := by
  refine opq_pure (by rw [ho]; rfl) fun W0 D ρ w A hs hx => ?_
  have h1 := hx c (by simp [ho, Op.operands])
  rw [hc] at h1
  have h1 := h1.bool_inv
  refine ⟨if t then A.eval x else A.eval y, ?_, ?_⟩
  · simp [execOp, ho, h1, asBool, Sem.run_bind, Result.andThen]
  · cases t
    · exact hx y (by simp [ho, Op.operands])
    · exact hx x (by simp [ho, Op.operands])
theorem op_extract {x : Operand} {i : Nat} {xs : List IV} {u : IV} (ho : o.op = .extract x i) (hx : e x = .tup xs) (hu : xs[i]? = some u) : OpQ P r o e σ u σ := by
  refine opq_pure (by rw [ho]; rfl) fun W0 D ρ w A hs h => ?_
  have h1 := h x (by simp [ho, Op.operands])
  rw [hx] at h1
  generalize hval : A.eval x = val at h1
  cases h1 with
  | tup _ vs hl hv =>
    have hi : i < vs.size := by rw [← hl]; exact (List.getElem?_eq_some_iff.1 hu).1
    refine ⟨vs[i], ?_, hv i u _ hu (by simp [hi])⟩
    simp [execOp, ho, hval, Instr.extract, hi]
theorem op_makeFunc {f : Fn} {fs cs : Array Operand} (ho : o.op = .makeFunc f fs cs) : OpQ P r o e σ (.fn f (fs.toList.map e) (cs.toList.map e)) σ := by
  refine opq_pure (by rw [ho]; rfl) fun W0 D ρ w A hs h => ⟨.func f (fs.map A.eval) (cs.map A.eval), ?_, ?_⟩
  · simp [execOp, ho, Instr.makeFunc]
  · refine .fn _ _ _ _ _ (by simp) (by simp) (fun i u v h1 h2 => ?_) (fun i u v h1 h2 => ?_)
    · simp only [List.getElem?_map, Option.map_eq_some_iff, Array.getElem?_map] at h1 h2
      obtain ⟨x, hx, rfl⟩ := h1
      obtain ⟨y, hy, rfl⟩ := h2
      have : x = y := by have : fs.toList[i]? = some y := by simpa using hy
                         rw [hx] at this; exact Option.some.inj this
      subst this
      exact h x (by simp only [ho, Op.operands, Array.mem_append]; exact .inl (Array.mem_of_getElem? hy))
    · simp only [List.getElem?_map, Option.map_eq_some_iff, Array.getElem?_map] at h1 h2
      obtain ⟨x, hx, rfl⟩ := h1
      obtain ⟨y, hy, rfl⟩ := h2
      have : x = y := by have : cs.toList[i]? = some y := by simpa using hy
                         rw [hx] at this; exact Option.some.inj this
      subst this
      exact h x (by simp only [ho, Op.operands, Array.mem_append]; exact .inr (Array.mem_of_getElem? hy))

/-! ### numbers, texts -/
theorem beq_dec {α : Type} [DecidableEq α] (a b : α) : (a == b) = decide (a = b) := by
  rw [Bool.eq_iff_iff]
  simp

theorem op_bin {b : BinOp} {T yt : TypeId} {x y : Operand} {vx vy v : Value} (ho : o.op = .binOp b T x y yt) (hx : ∀ D ρ val, VR D ρ (e x) val → val = vx) (hy : ∀ D ρ val, VR D ρ (e y) val → val = vy)
    (hg : ∀ w, (eqGuard b T x y vx vy).run P w = .ok () w) (h : ∀ w, (binOp b T vx vy).run P w = .ok v w) : OpQ P r o e σ (cst v) σ := by
  refine opq_pure (by rw [ho]; rfl) fun W0 D ρ w A hs ha => ⟨v, ?_, vr_cst _ _ _⟩
  have h1 := hx _ _ _ (ha x (by simp [ho, Op.operands]))
  have h2 := hy _ _ _ (ha y (by simp [ho, Op.operands]))
  simp only [execOp, ho, h1, h2, Sem.run_bind, hg, Result.andThen_ok, h, Sem.run_pure]
theorem vr_int (k : IntKind) (n : Int) : ∀ D ρ val, VR D ρ (.int k n) val → val = .int k n := fun _ _ _ h => h.int_inv
theorem vr_str (s : ByteArray) : ∀ D ρ val, VR D ρ (.str s) val → val = .string s := fun _ _ _ h => h.str_inv
theorem vr_bool (s : Bool) : ∀ D ρ val, VR D ρ (.bool s) val → val = .bool s := fun _ _ _ h => h.bool_inv

section ints
variable {T yt : TypeId} {x y : Operand} {k : IntKind} {a b : Int}
theorem guard_int (bop : BinOp) (k k' : IntKind) (x y : Operand) (a b : Int) (w : World) : (eqGuard bop T x y (.int k a) (.int k' b)).run P w = .ok () w := by
  unfold eqGuard
  split <;> rfl
theorem op_add (ho : o.op = .binOp .add T x y yt) (hx : e x = .int k a) (hy : e y = .int k b) : OpQ P r o e σ (.int k (k.wrap (a + b))) σ :=
  op_bin (v := .int k (k.wrap (a + b))) ho (hx ▸ vr_int k a) (hy ▸ vr_int k b) (guard_int _ _ _ _ _ _ _) fun w => by simp [binOp, Op.intArith]
theorem op_sub (ho : o.op = .binOp .sub T x y yt) (hx : e x = .int k a) (hy : e y = .int k b) : OpQ P r o e σ (.int k (k.wrap (a - b))) σ :=
  op_bin (v := .int k (k.wrap (a - b))) ho (hx ▸ vr_int k a) (hy ▸ vr_int k b) (guard_int _ _ _ _ _ _ _) fun w => by simp [binOp, Op.intArith]
theorem op_mul (ho : o.op = .binOp .mul T x y yt) (hx : e x = .int k a) (hy : e y = .int k b) : OpQ P r o e σ (.int k (k.wrap (a * b))) σ :=
  op_bin (v := .int k (k.wrap (a * b))) ho (hx ▸ vr_int k a) (hy ▸ vr_int k b) (guard_int _ _ _ _ _ _ _) fun w => by simp [binOp, Op.intArith]
/-- A number as it stands: no wrap. -/
theorem wrap_i64 {n : Int} (h1 : -9223372036854775808 ≤ n) (h2 : n ≤ 9223372036854775807) : IntKind.i64.wrap n = n := IntWalk.i64_in _ (by omega)
theorem op_add' (ho : o.op = .binOp .add T x y yt) (hx : e x = .int .i64 a) (hy : e y = .int .i64 b) (h1 : -9223372036854775808 ≤ a + b) (h2 : a + b ≤ 9223372036854775807) : OpQ P r o e σ (.int .i64 (a + b)) σ := by
  have := op_add (P := P) (r := r) (σ := σ) ho hx hy; rwa [wrap_i64 h1 h2] at this
theorem op_sub' (ho : o.op = .binOp .sub T x y yt) (hx : e x = .int .i64 a) (hy : e y = .int .i64 b) (h1 : -9223372036854775808 ≤ a - b) (h2 : a - b ≤ 9223372036854775807) : OpQ P r o e σ (.int .i64 (a - b)) σ := by
  have := op_sub (P := P) (r := r) (σ := σ) ho hx hy; rwa [wrap_i64 h1 h2] at this
theorem op_mul' (ho : o.op = .binOp .mul T x y yt) (hx : e x = .int .i64 a) (hy : e y = .int .i64 b) (h1 : -9223372036854775808 ≤ a * b) (h2 : a * b ≤ 9223372036854775807) : OpQ P r o e σ (.int .i64 (a * b)) σ := by
  have := op_mul (P := P) (r := r) (σ := σ) ho hx hy; rwa [wrap_i64 h1 h2] at this
theorem op_lss (ho : o.op = .binOp .lss T x y yt) (hx : e x = .int k a) (hy : e y = .int k b) : OpQ P r o e σ (.bool (decide (a < b))) σ :=
  op_bin (v := .bool (decide (a < b))) ho (hx ▸ vr_int k a) (hy ▸ vr_int k b) (guard_int _ _ _ _ _ _ _) fun w => by simp [binOp, Op.intCmp]
theorem op_leq (ho : o.op = .binOp .leq T x y yt) (hx : e x = .int k a) (hy : e y = .int k b) : OpQ P r o e σ (.bool (decide (a ≤ b))) σ :=
  op_bin (v := .bool (decide (a ≤ b))) ho (hx ▸ vr_int k a) (hy ▸ vr_int k b) (guard_int _ _ _ _ _ _ _) fun w => by simp [binOp, Op.intCmp]
theorem op_gtr (ho : o.op = .binOp .gtr T x y yt) (hx : e x = .int k a) (hy : e y = .int k b) : OpQ P r o e σ (.bool (decide (b < a))) σ :=
  op_bin (v := .bool (decide (b < a))) ho (hx ▸ vr_int k a) (hy ▸ vr_int k b) (guard_int _ _ _ _ _ _ _) fun w => by simp [binOp, Op.intCmp]
theorem op_geq (ho : o.op = .binOp .geq T x y yt) (hx : e x = .int k a) (hy : e y = .int k b) : OpQ P r o e σ (.bool (decide (b ≤ a))) σ :=
  op_bin (v := .bool (decide (b ≤ a))) ho (hx ▸ vr_int k a) (hy ▸ vr_int k b) (guard_int _ _ _ _ _ _ _) fun w => by simp [binOp, Op.intCmp]
theorem op_eql (ho : o.op = .binOp .eql T x y yt) (hx : e x = .int k a) (hy : e y = .int k b) : OpQ P r o e σ (.bool (decide (a = b))) σ :=
  op_bin (v := .bool (decide (a = b))) ho (hx ▸ vr_int k a) (hy ▸ vr_int k b) (guard_int _ _ _ _ _ _ _) fun w => by simp [binOp, Op.intCmp, beq_dec]
theorem op_neq (ho : o.op = .binOp .neq T x y yt) (hx : e x = .int k a) (hy : e y = .int k b) : OpQ P r o e σ (.bool (!decide (a = b))) σ :=
  op_bin (v := .bool (!decide (a = b))) ho (hx ▸ vr_int k a) (hy ▸ vr_int k b) (guard_int _ _ _ _ _ _ _) fun w => by simp [binOp, Op.intCmp, bne, beq_dec]
def bitI (bop : BinOp) (k : IntKind) (a b : Int) : Int :=
  let x := BitVec.ofInt k.bits a
  let y := BitVec.ofInt k.bits b
  k.wrap (match bop with | .and => x &&& y | .or => x ||| y | .xor => x ^^^ y | _ => x &&& ~~~y).toNat
theorem op_and (ho : o.op = .binOp .and T x y yt) (hx : e x = .int k a) (hy : e y = .int k b) : OpQ P r o e σ (.int k (bitI .and k a b)) σ :=
  op_bin (v := .int k (bitI .and k a b)) ho (hx ▸ vr_int k a) (hy ▸ vr_int k b) (guard_int _ _ _ _ _ _ _) fun w => by simp [binOp, Op.intBits, bitI]
theorem op_or (ho : o.op = .binOp .or T x y yt) (hx : e x = .int k a) (hy : e y = .int k b) : OpQ P r o e σ (.int k (bitI .or k a b)) σ :=
  op_bin (v := .int k (bitI .or k a b)) ho (hx ▸ vr_int k a) (hy ▸ vr_int k b) (guard_int _ _ _ _ _ _ _) fun w => by simp [binOp, Op.intBits, bitI]
theorem op_andNot (ho : o.op = .binOp .andNot T x y yt) (hx : e x = .int k a) (hy : e y = .int k b) : OpQ P r o e σ (.int k (bitI .andNot k a b)) σ :=
  op_bin (v := .int k (bitI .andNot k a b)) ho (hx ▸ vr_int k a) (hy ▸ vr_int k b) (guard_int _ _ _ _ _ _ _) fun w => by simp [binOp, Op.intBits, bitI]
theorem op_shl {k' : IntKind} (ho : o.op = .binOp .shl T x y yt) (hx : e x = .int k a) (hy : e y = .int k' b) (hb : 0 ≤ b) : OpQ P r o e σ (.int k (k.wrap (a * 2 ^ min b.toNat k.bits))) σ :=
  op_bin (v := .int k (k.wrap (a * 2 ^ min b.toNat k.bits))) ho (hx ▸ vr_int k a) (hy ▸ vr_int k' b) (guard_int _ _ _ _ _ _ _) fun w => by simp [binOp, Op.shift, show ¬ b < 0 by omega]
theorem op_shr {k' : IntKind} (ho : o.op = .binOp .shr T x y yt) (hx : e x = .int k a) (hy : e y = .int k' b) (hb : 0 ≤ b) : OpQ P r o e σ (.int k (a.fdiv (2 ^ min b.toNat k.bits))) σ :=
  op_bin (v := .int k (a.fdiv (2 ^ min b.toNat k.bits))) ho (hx ▸ vr_int k a) (hy ▸ vr_int k' b) (guard_int _ _ _ _ _ _ _) fun w => by simp [binOp, Op.shift, show ¬ b < 0 by omega]
theorem op_quo (ho : o.op = .binOp .quo T x y yt) (hx : e x = .int k a) (hy : e y = .int k b) (hb : b ≠ 0) : OpQ P r o e σ (.int k (k.wrap (a.tdiv b))) σ :=
  op_bin (v := .int k (k.wrap (a.tdiv b))) ho (hx ▸ vr_int k a) (hy ▸ vr_int k b) (guard_int _ _ _ _ _ _ _) fun w => by simp [binOp, Op.intDiv, hb]
theorem op_rem (ho : o.op = .binOp .rem T x y yt) (hx : e x = .int k a) (hy : e y = .int k b) (hb : b ≠ 0) : OpQ P r o e σ (.int k (a.tmod b)) σ :=
  op_bin (v := .int k (a.tmod b)) ho (hx ▸ vr_int k a) (hy ▸ vr_int k b) (guard_int _ _ _ _ _ _ _) fun w => by simp [binOp, Op.intDiv, hb]
end ints
section strs
variable {T yt : TypeId} {x y : Operand} {a b : ByteArray}
theorem guard_str (bop : BinOp) (x y : Operand) (a b : ByteArray) (w : World) : (eqGuard bop T x y (.string a) (.string b)).run P w = .ok () w := by
  unfold eqGuard
  split <;> rfl
theorem toList_eq (a b : ByteArray) : (a.toList == b.toList) = decide (a = b) := by
  rw [ByteArray.toList_eq, ByteArray.toList_eq, Bool.eq_iff_iff]
  simp only [beq_iff_eq, decide_eq_true_eq]
  constructor
  · intro h
    obtain ⟨⟨a⟩⟩ := a
    obtain ⟨⟨b⟩⟩ := b
    simp at h
    rw [h]
  · intro h; rw [h]
theorem op_eqls (ho : o.op = .binOp .eql T x y yt) (hx : e x = .str a) (hy : e y = .str b) : OpQ P r o e σ (.bool (decide (a = b))) σ :=
  op_bin (v := .bool (decide (a = b))) ho (hx ▸ vr_str a) (hy ▸ vr_str b) (guard_str _ _ _ _ _) fun w => by
    have := toList_eq a b
    simp only [binOp, Op.stringOp, this]; rfl
theorem op_neqs (ho : o.op = .binOp .neq T x y yt) (hx : e x = .str a) (hy : e y = .str b) : OpQ P r o e σ (.bool (!decide (a = b))) σ :=
  op_bin (v := .bool (!decide (a = b))) ho (hx ▸ vr_str a) (hy ▸ vr_str b) (guard_str _ _ _ _ _) fun w => by
    have := toList_eq a b
    simp only [binOp, Op.stringOp, this]; rfl
theorem op_cat (ho : o.op = .binOp .add T x y yt) (hx : e x = .str a) (hy : e y = .str b) (hl : a.size + b.size ≤ 9223372036854775807) : OpQ P r o e σ (.str (a ++ b)) σ :=
  op_bin (v := .string (a ++ b)) ho (hx ▸ vr_str a) (hy ▸ vr_str b) (guard_str _ _ _ _ _) fun w => by
    simp only [binOp, Op.stringOp]
    rw [if_neg (by simp [IntKind.max, IntKind.bits, IntKind.signed]; omega)]
    rfl
end strs
theorem op_not {T : TypeId} {x : Operand} {b : Bool} (ho : o.op = .unOp .not T x) (hx : e x = .bool b) : OpQ P r o e σ (.bool (!b)) σ := by
  refine opq_pure (by rw [ho]; rfl) fun W0 D ρ w A hs ha => ⟨.bool (!b), ?_, .bool _⟩
  have h1 := ha x (by simp [ho, Op.operands])
  rw [hx] at h1
  have h1 := h1.bool_inv
  simp [execOp, ho, h1, Op.unary]
theorem op_eqlb {T yt : TypeId} {x y : Operand} {a b : Bool} (hT : P.underlying T = some .bool) (ho : o.op = .binOp .eql T x y yt) (hx : e x = .bool a) (hy : e y = .bool b) : OpQ P r o e σ (.bool (a == b)) σ :=
  op_bin (v := .bool (a == b)) ho (hx ▸ vr_bool a) (hy ▸ vr_bool b) (fun w => by unfold eqGuard; split <;> rfl) fun w => run_eql_bool w T a b hT
theorem op_neqb {T yt : TypeId} {x y : Operand} {a b : Bool} (hT : P.underlying T = some .bool) (ho : o.op = .binOp .neq T x y yt) (hx : e x = .bool a) (hy : e y = .bool b) : OpQ P r o e σ (.bool (a != b)) σ :=
  op_bin (v := .bool (a != b)) ho (hx ▸ vr_bool a) (hy ▸ vr_bool b) (fun w => by unfold eqGuard; split <;> rfl) fun w => by
    simp only [binOp, Sem.run_bind, run_equal_bool w T a b hT, Result.andThen_ok, Sem.run_pure]; rfl
theorem op_convint {S T : TypeId} {x : Operand} {k k' : IntKind} {n : Int} {d : TypeDesc} (hS : P.underlying S = some d) (hT : P.underlying T = some (.int k')) (ho : o.op = .convert S T x) (hx : e x = .int k n) :
    OpQ P r o e σ (.int k' (k'.wrap n)) σ := by
  refine opq_pure (by rw [ho]; rfl) fun W0 D ρ w A hs ha => ⟨.int k' (k'.wrap n), ?_, .int _ _⟩
  have h1 := ha x (by simp [ho, Op.operands])
  rw [hx] at h1
  have h1 := h1.int_inv
  simp [execOp, ho, h1, convert, Sem.run_bind, run_underlying hS, run_underlying hT, Conv.intToInt]
theorem op_convintstr {S T : TypeId} {x : Operand} {k : IntKind} {n : Int} {d : TypeDesc} (hS : P.underlying S = some d) (hT : P.underlying T = some .string) (ho : o.op = .convert S T x) (hx : e x = .int k n) :
    OpQ P r o e σ (.str (Utf8.encode n)) σ := by
  refine opq_pure (by rw [ho]; rfl) fun W0 D ρ w A hs ha => ⟨.string (Utf8.encode n), ?_, .str _⟩
  have h1 := ha x (by simp [ho, Op.operands])
  rw [hx] at h1
  have h1 := h1.int_inv
  simp [execOp, ho, h1, convert, Sem.run_bind, run_underlying hS, run_underlying hT, Conv.intToString]
theorem op_convstr {S T : TypeId} {x : Operand} {s : ByteArray} (hS : P.underlying S = some .string) (hT : P.underlying T = some .string) (ho : o.op = .convert S T x) (hx : e x = .str s) :
    OpQ P r o e σ (.str s) σ := by
  refine opq_pure (by rw [ho]; rfl) fun W0 D ρ w A hs ha => ⟨.string s, ?_, .str _⟩
  have h1 := ha x (by simp [ho, Op.operands])
  rw [hx] at h1
  have h1 := h1.str_inv
  simp [execOp, ho, h1, convert, Sem.run_bind, run_underlying hS, run_underlying hT]
def sbyte (s : ByteArray) (i : Nat) : Int := if h : i < s.size then (s[i].toNat : Int) else 0
theorem op_index {T : TypeId} {x i : Operand} {s : ByteArray} {k : IntKind} {n : Int} (hT : P.underlying T = some .string) (ho : o.op = .index T x i) (hx : e x = .str s) (hi : e i = .int k n) (h0 : 0 ≤ n) (hn : n.toNat < s.size) :
    OpQ P r o e σ (.int .u8 (sbyte s n.toNat)) σ := by
  refine opq_pure (by rw [ho]; rfl) fun W0 D ρ w A hs ha => ⟨.int .u8 (sbyte s n.toNat), ?_, .int _ _⟩
  have h1 := ha x (by simp [ho, Op.operands])
  rw [hx] at h1
  have h1 := h1.str_inv
  have h2 := ha i (by simp [ho, Op.operands])
  rw [hi] at h2
  have h2 := h2.int_inv
  simp [execOp, ho, h1, h2, Instr.index, asIntOf, Sem.run_bind, run_underlying hT, Result.andThen, h0, hn, sbyte]
theorem op_lenstr {T : TypeId} {x : Operand} {s : ByteArray} (hT : P.underlying T = some .string) (ho : o.op = .call { callee := .builtin .len, args := #[x], argTypes := #[T] }) (hx : e x = .str s) : OpQ P r o e σ (.int .i64 s.size) σ := by
  refine opq_pure (by rw [ho]; rfl) fun W0 D ρ w A hs ha => ⟨.int .i64 s.size, ?_, .int _ _⟩
  have h1 := ha x (by simp [ho, Op.operands, Call.operands])
  rw [hx] at h1
  have h1 := h1.str_inv
  simp [execOp, ho, h1, resolve, invoke, builtin, Builtin.len_, Sem.run_bind, run_underlying hT, Result.andThen, goInt]
theorem op_slicestr {T : TypeId} {x l h : Operand} {s : ByteArray} {k k' : IntKind} {n m : Int} (hT : P.underlying T = some .string) (ho : o.op = .slice T x (some l) (some h) none) (hx : e x = .str s) (hl : e l = .int k n) (hh : e h = .int k' m)
    (h0 : 0 ≤ n) (h1 : n ≤ m) (h2 : m ≤ s.size) : OpQ P r o e σ (.str (s.extract n.toNat m.toNat)) σ := by
  refine opq_pure (by rw [ho]; rfl) fun W0 D ρ w A hs ha => ⟨.string (s.extract n.toNat m.toNat), ?_, .str _⟩
  have e1 := ha x (by simp [ho, Op.operands]); rw [hx] at e1; have e1 := e1.str_inv
  have e2 := ha l (by simp [ho, Op.operands]); rw [hl] at e2; have e2 := e2.int_inv
  have e3 := ha h (by simp [ho, Op.operands]); rw [hh] at e3; have e3 := e3.int_inv
  simp [execOp, ho, e1, e2, e3, Instr.sliceAt, Instr.slice, Instr.sliceBounds, Instr.sliceBound, asIntOf, Sem.run_bind, run_underlying hT, Result.andThen, show 0 ≤ m by omega, h2, h0, show n ≤ max m 0 by omega]
theorem op_slicestrl {T : TypeId} {x l : Operand} {s : ByteArray} {k : IntKind} {n : Int} (hT : P.underlying T = some .string) (ho : o.op = .slice T x (some l) none none) (hx : e x = .str s) (hl : e l = .int k n)
    (h0 : 0 ≤ n) (h1 : n ≤ s.size) : OpQ P r o e σ (.str (s.extract n.toNat s.size)) σ := by
  refine opq_pure (by rw [ho]; rfl) fun W0 D ρ w A hs ha => ⟨.string (s.extract n.toNat s.size), ?_, .str _⟩
  have e1 := ha x (by simp [ho, Op.operands]); rw [hx] at e1; have e1 := e1.str_inv
  have e2 := ha l (by simp [ho, Op.operands]); rw [hl] at e2; have e2 := e2.int_inv
  simp [execOp, ho, e1, e2, Instr.sliceAt, Instr.slice, Instr.sliceBounds, Instr.sliceBound, asIntOf, Sem.run_bind, run_underlying hT, Result.andThen, h0, h1]
theorem op_slicestrh {T : TypeId} {x h : Operand} {s : ByteArray} {k' : IntKind} {m : Int} (hT : P.underlying T = some .string) (ho : o.op = .slice T x none (some h) none) (hx : e x = .str s) (hh : e h = .int k' m)
    (h0 : 0 ≤ m) (h2 : m ≤ s.size) : OpQ P r o e σ (.str (s.extract 0 m.toNat)) σ := by
  refine opq_pure (by rw [ho]; rfl) fun W0 D ρ w A hs ha => ⟨.string (s.extract 0 m.toNat), ?_, .str _⟩
  have e1 := ha x (by simp [ho, Op.operands]); rw [hx] at e1; have e1 := e1.str_inv
  have e3 := ha h (by simp [ho, Op.operands]); rw [hh] at e3; have e3 := e3.int_inv
  simp [execOp, ho, e1, e3, Instr.sliceAt, Instr.slice, Instr.sliceBounds, Instr.sliceBound, asIntOf, Sem.run_bind, run_underlying hT, Result.andThen, h0, h2]
end
end Go.QL
end

section
/- QL, part d: the operations on memory. Plain; no program in sight. -/
set_option linter.unusedVariables false
set_option linter.unusedSimpArgs false
namespace Go.QL
open Go Go.RowKit

/-- One cell's worth. -/
def IV.one : IV → Bool
  | .agg _ | .tup _ | .und | .junk => false
  | _ => true
theorem VR.one {D : DM} {ρ : List Slot} {u : IV} {v : Value} (h : VR D ρ u v) (hu : u.one = true) : v.oneCell' = true := by
  cases h <;> first | rfl | cases hu
/-- A struct as its cells; no junk. -/
def IV.solid : IV → Bool
  | .agg xs => xs.all IV.one
  | u => u.one
theorem VR.flat {D : DM} {ρ : List Slot} {u : IV} {v : Value} (h : VR D ρ u v) (hu : u.solid = true) : Rel2 D ρ (flat u) v.cells.toList := by
  cases h with
  | agg xs vs hl hv => exact ⟨by simpa [QL.flat, Value.cells] using hl, fun i u v e e' => hv i u v e (by simpa [Value.cells] using e')⟩
  | junk => cases hu
  | und => cases hu
  | tup => cases hu
  | _ =>
    refine ⟨rfl, fun i u v e e' => ?_⟩
    rcases i with _ | i
    · simp only [QL.flat, Value.cells, List.getElem?_cons_zero] at e e'
      cases e; cases e'
      constructor <;> assumption
    · simp [QL.flat] at e
theorem VR.solid {D : DM} {ρ : List Slot} {u : IV} {v : Value} (h : VR D ρ u v) (hu : u.solid = true) : ∀ c ∈ v.cells, c.oneCell' = true := by
  cases h with
  | agg xs vs hl hv =>
    intro c hc
    obtain ⟨i, hi, rfl⟩ := Array.mem_iff_getElem.1 hc
    simp only [Value.cells] at hi ⊢
    have hx : xs[i]? = some (xs[i]'(by omega)) := List.getElem?_eq_getElem _
    exact (hv i _ _ hx (by simp [hi])).one (List.all_eq_true.1 hu _ (List.mem_of_getElem? hx))
  | junk => cases hu
  | und => cases hu
  | tup => cases hu
  | _ => intro c hc; simp only [Value.cells, List.mem_toArray, List.mem_singleton, Array.mem_singleton] at hc; subst hc; rfl

/-- What a type is, for memory. -/
structure Ty (P : Program) (T : TypeId) (agg : Bool) (z : Value) (sz bytes : Nat) : Prop where
  d : ∃ d, P.underlying T = some d ∧ (match d with | .struct _ | .array _ _ => true | _ => false) = agg
  i : (P.info? T).map (fun i => (i.zero, i.size, i.bytes)) = some (some z, sz, bytes)
section
variable {P : Program} {T : TypeId} {agg : Bool} {z : Value} {sz bytes : Nat}
theorem Ty.info (h : Ty P T agg z sz bytes) : ∃ i, P.info? T = some i ∧ i.zero = some z ∧ i.size = sz ∧ i.bytes = bytes := by
  obtain ⟨i, hi, he⟩ := Option.map_eq_some_iff.1 h.i
  simp only [Prod.mk.injEq] at he
  exact ⟨i, hi, he⟩
theorem Ty.isAgg (h : Ty P T agg z sz bytes) (w : World) : (isAgg T).run P w = .ok agg w := by
  obtain ⟨d, hd, rfl⟩ := h.d
  simp only [Go.isAgg, Sem.run_bind, run_underlying hd, Result.andThen_ok]
  cases d <;> rfl
theorem Ty.sizeOf (h : Ty P T agg z sz bytes) (w : World) : (sizeOf T).run P w = .ok sz w := by
  obtain ⟨i, hi, _, rfl, _⟩ := h.info
  simp [Go.sizeOf, typeInfo, Sem.run_bind, hi]
theorem Ty.zero (h : Ty P T agg z sz bytes) (w : World) : (zeroValue T).run P w = .ok z w := by
  obtain ⟨i, hi, hz, _⟩ := h.info
  simp [Go.zeroValue, typeInfo, Sem.run_bind, hi, hz]
end

theorem cells_at {w : World} {b : Nat} {vs : Array Value} {T : TypeId} {fr : Nat × Nat} (h : w.heap[b]? = some (.cells vs T fr)) (o : Nat) : w.cell? ⟨b, o, none⟩ = vs[o]? := by
  simp [World.cell?, h]

theorem run_loadAgg {P : Program} {T : TypeId} {z : Value} {sz bytes : Nat} (hT : Ty P T true z sz bytes) {w : World} {b off : Nat} (cs : List Value) (hl : cs.length = sz) (h : ∀ j v, cs[j]? = some v → w.cell? ⟨b, off + j, none⟩ = some v) :
    (loadVar T ⟨b, off, none⟩).run P w = .ok (.agg cs.toArray) w := by
  have h2 := run_loadCells_list (P := P) w ⟨b, off, none⟩ cs (fun j v e => by rw [Addr_add]; exact h j v e)
  rw [hl] at h2
  simp [loadVar, Sem.run_bind, hT.isAgg, hT.sizeOf, h2, Result.andThen]
theorem run_loadOne {P : Program} {T : TypeId} {z : Value} {sz bytes : Nat} (hT : Ty P T false z sz bytes) {w : World} {a : Addr} {v : Value} (h : w.cell? a = some v) : (loadVar T a).run P w = .ok v w := by
  simp [loadVar, Sem.run_bind, hT.isAgg, Result.andThen, load, Sem.run, h]

section
variable {P : Program} {r : RN} {o : Oper} {e : Val2} {σ : List IObj}
theorem St.box {W0 : Base} {D : DM} {ρ : List Slot} {w : World} (hs : St W0 D ρ σ w) {k b : Nat} {T : TypeId} {cs : List IV} (hb : ρ[k]? = some (.box b)) (hk : σ[k]? = some (.box T cs)) :
    ∃ vs : Array Value, w.heap[b]? = some (.cells vs T (0, 0)) ∧ Rel2 D ρ cs vs.toList := hs.ok k _ _ hb hk
theorem St.ptr_at {W0 : Base} {D : DM} {ρ : List Slot} {w : World} (hs : St W0 D ρ σ w) {k off : Nat} {v : Value} {T : TypeId} {cs : List IV} (hk : σ[k]? = some (.box T cs)) (h : VR D ρ (.ptr k off) v) : ∃ b, ρ[k]? = some (.box b) ∧ v = .pointer (some ⟨b, off, none⟩) := by
  have hkl := (List.getElem?_eq_some_iff.1 hk).1
  obtain ⟨s, hsl⟩ : ∃ s, ρ[k]? = some s := ⟨_, List.getElem?_eq_getElem (by rw [hs.len]; exact hkl)⟩
  have hok := hs.ok k s _ hsl hk
  cases h with
  | ptr _ _ a ha =>
    unfold PtrAt at ha
    rw [hsl] at ha
    cases s with
    | box b => exact ⟨b, hsl, by rw [show a = _ from ha]⟩
    | fix b => exact hok.elim
    | row => exact hok.elim
    | gone => exact hok.elim
theorem St.fix_at {W0 : Base} {D : DM} {ρ : List Slot} {w : World} (hs : St W0 D ρ σ w) {k off : Nat} {v : Value} {O : Obj} (hk : σ[k]? = some (.obj O)) (h : VR D ρ (.ptr k off) v) : ∃ b, ρ[k]? = some (.fix b) ∧ v = .pointer (some ⟨b, off, none⟩) := by
  have hkl := (List.getElem?_eq_some_iff.1 hk).1
  obtain ⟨s, hsl⟩ : ∃ s, ρ[k]? = some s := ⟨_, List.getElem?_eq_getElem (by rw [hs.len]; exact hkl)⟩
  have hok := hs.ok k s _ hsl hk
  cases h with
  | ptr _ _ a ha =>
    unfold PtrAt at ha
    rw [hsl] at ha
    cases s with
    | box b => exact hok.elim
    | fix b => exact ⟨b, hsl, by rw [show a = _ from ha]⟩
    | row => exact hok.elim
    | gone => exact hok.elim
theorem vr_ptr {D : DM} {ρ : List Slot} {k off b : Nat} (h : ρ[k]? = some (.box b)) : VR D ρ (.ptr k off) (.pointer (some ⟨b, off, none⟩)) := .ptr k off _ (by unfold PtrAt; rw [h])
theorem vr_fix {D : DM} {ρ : List Slot} {k off b : Nat} (h : ρ[k]? = some (.fix b)) : VR D ρ (.ptr k off) (.pointer (some ⟨b, off, none⟩)) := .ptr k off _ (by unfold PtrAt; rw [h])
theorem Rel2.sub {D : DM} {ρ : List Slot} {xs : List IV} {vs : List Value} (h : Rel2 D ρ xs vs) (o n : Nat) : Rel2 D ρ ((xs.drop o).take n) ((vs.drop o).take n) := by
  refine ⟨by simp [h.1], fun i u v e e' => ?_⟩
  rw [List.getElem?_take] at e e'
  split at e
  · rename_i hi
    rw [if_pos hi] at e'
    rw [List.getElem?_drop] at e e'
    exact h.2 _ _ _ e e'
  · cases e
theorem Rel2.agg {D : DM} {ρ : List Slot} {xs : List IV} {vs : List Value} (h : Rel2 D ρ xs vs) : VR D ρ (.agg xs) (.agg vs.toArray) :=
  .agg _ _ (by simpa using h.1) fun i u v e e' => h.2 i u v e (by simpa using e')

theorem op_load1 {T T0 : TypeId} {x : Operand} {z : Value} {sz bytes k off : Nat} {cs : List IV} {u : IV} (hT : Ty P T false z sz bytes) (ho : o.op = .load T x) (hx : e x = .ptr k off) (hk : σ[k]? = some (.box T0 cs)) (hu : cs[off]? = some u) :
    OpQ P r o e σ u σ := by
  refine opq_pure (by rw [ho]; rfl) fun W0 D ρ w A hs ha => ?_
  have h1 := ha x (by simp [ho, Op.operands])
  rw [hx] at h1
  obtain ⟨b, hb, h1⟩ := hs.ptr_at hk h1
  obtain ⟨vs, h2, h3⟩ := hs.box hb hk
  have hoff : off < vs.size := by have := h3.1; have := (List.getElem?_eq_some_iff.1 hu).1; simp at *; omega
  refine ⟨vs[off], ?_, h3.2 off u _ hu (by simp [hoff])⟩
  have h4 := run_loadOne hT (w := w) (a := ⟨b, off, none⟩) (v := vs[off]) (by rw [cells_at h2]; simp [hoff])
  simp [execOp, ho, h1, Instr.loadAt, Instr.sureAddr, Sem.run_bind, h4, Result.andThen]
theorem op_loadN {T T0 : TypeId} {x : Operand} {z : Value} {sz bytes k off : Nat} {cs : List IV} (hT : Ty P T true z sz bytes) (ho : o.op = .load T x) (hx : e x = .ptr k off) (hk : σ[k]? = some (.box T0 cs)) (hl : off + sz ≤ cs.length) :
    OpQ P r o e σ (.agg ((cs.drop off).take sz)) σ := by
  refine opq_pure (by rw [ho]; rfl) fun W0 D ρ w A hs ha => ?_
  have h1 := ha x (by simp [ho, Op.operands])
  rw [hx] at h1
  obtain ⟨b, hb, h1⟩ := hs.ptr_at hk h1
  obtain ⟨vs, h2, h3⟩ := hs.box hb hk
  have hlen := h3.1
  refine ⟨_, ?_, (h3.sub off sz).agg⟩
  have h4 := run_loadAgg hT (w := w) (b := b) (off := off) ((vs.toList.drop off).take sz) (by simp at hlen ⊢; omega) (fun j v ej => by
    rw [cells_at h2]
    rw [List.getElem?_take] at ej
    split at ej
    · rw [List.getElem?_drop] at ej; simpa using ej
    · cases ej)
  simp [execOp, ho, h1, Instr.loadAt, Instr.sureAddr, Sem.run_bind, h4, Result.andThen]
theorem VR.dptr_inv {D : DM} {ρ : List Slot} {cells : List IV} {v : Value} (h : VR D ρ (.dptr cells) v) : ∃ (b o : Nat) (g : Nat → Value), v = .pointer (some ⟨b, o, none⟩) ∧ (∀ j u, cells[j]? = some u → D b (o + j) = some (g j)) ∧ (∀ j u, cells[j]? = some u → VR D ρ u (g j)) := by
  cases h with
  | dptr _ b o g hg hv => exact ⟨b, o, g, rfl, hg, hv⟩
theorem op_loadd1 {T : TypeId} {x : Operand} {z : Value} {sz bytes : Nat} {u : IV} {cs : List IV} (hT : Ty P T false z sz bytes) (ho : o.op = .load T x) (hx : e x = .dptr cs) (hu : cs[0]? = some u) : OpQ P r o e σ u σ := by
  refine opq_pure (by rw [ho]; rfl) fun W0 D ρ w A hs ha => ?_
  have h1 := ha x (by simp [ho, Op.operands])
  rw [hx] at h1
  obtain ⟨b, of, g, h1, hg, hv⟩ := h1.dptr_inv
  refine ⟨g 0, ?_, hv 0 u hu⟩
  have h4 := run_loadOne hT (w := w) (a := ⟨b, of, none⟩) (v := g 0) (hs.dc _ _ _ (hg 0 u hu))
  simp [execOp, ho, h1, Instr.loadAt, Instr.sureAddr, Sem.run_bind, h4, Result.andThen]
theorem op_loaddN {T : TypeId} {x : Operand} {z : Value} {sz bytes : Nat} {cs : List IV} (hT : Ty P T true z sz bytes) (ho : o.op = .load T x) (hx : e x = .dptr cs) (hl : sz ≤ cs.length) : OpQ P r o e σ (.agg (cs.take sz)) σ := by
  refine opq_pure (by rw [ho]; rfl) fun W0 D ρ w A hs ha => ?_
  have h1 := ha x (by simp [ho, Op.operands])
  rw [hx] at h1
  obtain ⟨b, of, g, h1, hg, hv⟩ := h1.dptr_inv
  have hr : Rel2 D ρ (cs.take sz) ((List.range sz).map g) := by
    refine ⟨by simp; omega, fun i u v e e' => ?_⟩
    rw [List.getElem?_take] at e
    split at e
    · rename_i hi
      simp [hi] at e'
      subst e'
      exact hv i u e
    · cases e
  refine ⟨_, ?_, hr.agg⟩
  have h4 := run_loadAgg hT (w := w) (b := b) (off := of) ((List.range sz).map g) (by simp) (fun j v ej => by
    have hj : j < sz := by have := (List.getElem?_eq_some_iff.1 ej).1; simpa using this
    simp [hj] at ej
    subst ej
    exact hs.dc _ _ _ (hg j _ (List.getElem?_eq_getElem (by omega))))
  simp [execOp, ho, h1, Instr.loadAt, Instr.sureAddr, Sem.run_bind, h4, Result.andThen]

/-! ### new boxes, stores -/
theorem flat_length_cells {D : DM} {ρ : List Slot} {u : IV} {v : Value} (h : VR D ρ u v) (hu : u.solid = true) : v.cells.size = (flat u).length := by
  have := (h.flat hu).1
  simp at this
  omega
theorem op_alloc {T : TypeId} {z : Value} {sz bytes : Nat} {agg : Bool} (hT : Ty P T agg z sz bytes) (ho : o.op = .alloc T) : OpQ P r o e σ (.ptr σ.length 0) (σ ++ [.box T (z.cells.toList.map cst1)]) := by
  refine opk_val (by rw [ho]; rfl) fun W0 D ρ w A hs ha => ?_
  have hp := hs.push (.cells z.cells T) (.box w.heap.size) rfl (.box T (z.cells.toList.map cst1)) ⟨z.cells, heap_alloc_new _ _, by simp, fun i u v e e' => by
    simp only [List.getElem?_map, Option.map_eq_some_iff] at e
    obtain ⟨y, hy, rfl⟩ := e
    rw [hy] at e'
    cases e'
    exact vr_cst1 _ _ _⟩
  refine ⟨D, _, _, _, _, _, ?_, hp.2, hp.1, vr_ptr (b := w.heap.size) (by rw [← hs.len]; simp), rfl, rfl⟩
  simp [execOp, ho, Instr.alloc, newVar, newRow, Sem.run_bind, hT.zero, Result.andThen]
theorem op_box {T : TypeId} {x : Operand} (ho : o.op = .box T x) (hu : (e x).solid = true) : OpQ P r o e σ (.ptr σ.length 0) (σ ++ [.box T (flat (e x))]) := by
  refine opk_val (by rw [ho]; rfl) fun W0 D ρ w A hs ha => ?_
  have h1 := ha x (by simp [ho, Op.operands])
  have h2 := h1.flat hu
  have hp := hs.push (.cells (A.eval x).cells T) (.box w.heap.size) rfl (.box T (flat (e x))) ⟨(A.eval x).cells, heap_alloc_new _ _, h2.ext ⟨fun _ _ _ h => h, fun k s e => ⟨s, by rw [List.getElem?_append_left (List.getElem?_eq_some_iff.1 e).1]; exact e, Slot.le_refl s⟩⟩⟩
  refine ⟨D, _, _, _, _, _, ?_, hp.2, hp.1, vr_ptr (b := w.heap.size) (by rw [← hs.len]; simp), rfl, rfl⟩
  simp [execOp, ho, Instr.box, newVar, newRow, Sem.run_bind, Result.andThen]
def wr (cs : List IV) (off : Nat) (us : List IV) : List IV := cs.take off ++ us ++ cs.drop (off + us.length)
theorem op_store {T T0 : TypeId} {x y : Operand} {z : Value} {sz bytes k off : Nat} {agg : Bool} {cs : List IV} {u : IV} (hT : Ty P T agg z sz bytes) (ho : o.op = .store T x y) (hx : e x = .ptr k off) (hy : e y = u) (hk : σ[k]? = some (.box T0 cs))
    (hu : u.solid = true) (hl : (flat u).length = sz) (hle : off + sz ≤ cs.length) : OpQ P r o e σ .und (σ.set k (.box T0 (wr cs off (flat u)))) := by
  subst hy
  intro W0 D ρ w A hs ha
  have h1 := ha x (by simp [ho, Op.operands])
  have h2 := ha y (by simp [ho, Op.operands])
  rw [hx] at h1
  obtain ⟨b, hb, h1⟩ := hs.ptr_at hk h1
  obtain ⟨vs, h3, h4⟩ := hs.box hb hk
  have hf := h2.flat hu
  have hsz := flat_length_cells h2 hu
  have hlen := h4.1
  have hst := run_storeCells_at (P := P) b off T0 (A.eval y).cells.toList 0 vs w h3 (by simp at hlen ⊢; omega) (by
    intro v hv
    exact h2.solid hu v (by simpa using hv))
  have hrun : (execOp A.eval o).run P w = .ok .skip (w.setRow b (vs.toList.take (off + 0) ++ (A.eval y).cells.toList ++ vs.toList.drop (off + 0 + (A.eval y).cells.toList.length)).toArray) := by
    simp only [execOp, ho, h1, Instr.storeAt, Instr.sureAddr, storeVar, Sem.run_bind, Sem.run_pure, Result.andThen_ok, hT.sizeOf]
    rw [if_neg (by rw [hsz, hl]; simp)]
    simp only [Sem.run_bind, Sem.run_pure, Result.andThen_ok, hst]
  refine ⟨fun _ _ => trivial, ?_⟩
  rw [Oper.semAt_eq _ _ _ (fun c hc => by rw [ho] at hc; cases hc), hrun]
  refine ⟨D, ρ, .und, undef, _, rfl, .refl _ _, hs.set hb rfl (.box T0 (wr cs off (flat (e y)))) ⟨_, setRow_heap w b vs _ T0 _ h3, ?_⟩ rfl rfl rfl (by simp) (fun i hi => setRow_other w b i _ hi), .und, rfl, rfl⟩
  have e1 : Rel2 D ρ (wr cs off (flat (e y))) (vs.toList.take off ++ (A.eval y).cells.toList ++ vs.toList.drop (off + (A.eval y).cells.toList.length)) := by
    unfold wr
    have hl2 : (flat (e y)).length = (A.eval y).cells.toList.length := hf.1
    refine ⟨by simp only [List.length_append, List.length_take, List.length_drop, hl2, hlen], fun i u v ei ei' => ?_⟩
    have hc1 : (cs.take off).length = off := by simp; omega
    have hc2 : (vs.toList.take off).length = off := by simp at hlen ⊢; omega
    rcases Nat.lt_or_ge i off with hi | hi
    · rw [List.append_assoc, List.getElem?_append_left (by omega), List.getElem?_take, if_pos hi] at ei ei'
      exact h4.2 i u v ei ei'
    · rw [List.append_assoc, List.getElem?_append_right (by omega)] at ei ei'
      rw [hc1] at ei
      rw [hc2] at ei'
      rcases Nat.lt_or_ge (i - off) (flat (e y)).length with hj | hj
      · rw [List.getElem?_append_left (by omega)] at ei ei'
        exact hf.2 _ u v ei ei'
      · rw [List.getElem?_append_right (by omega)] at ei ei'
        rw [← hl2] at ei'
        rw [List.getElem?_drop] at ei ei'
        exact h4.2 _ u v ei ei'
  simpa using e1

/-! ### addresses -/
theorem run_fieldPlace {T' : TypeId} {z : Value} {sz bytes : Nat} {agg : Bool} (f : Field) (hT : Ty P f.type agg z sz bytes) (h0 : 0 < sz) (b off : Nat) (w : World) : (fieldPlace ⟨b, off, none⟩ f).run P w = .ok ⟨b, off + f.offset, none⟩ w := by
  unfold fieldPlace
  simp only [Sem.run_bind, hT.sizeOf, Result.andThen_ok]
  rw [if_neg (by omega), Addr_add]
  rfl
/-- Field f of struct type T: where it begins. -/
structure Fld (P : Program) (T f off : Nat) : Prop where
  h : ∃ fs fd d, P.underlying T = some (.struct fs) ∧ fs[f]? = some fd ∧ fd.offset = off ∧ (P.info? fd.type).map (fun i => decide (0 < i.size)) = some true ∧ d = fd.type
theorem Fld.run {T f off : Nat} (h : Fld P T f off) (b o : Nat) (w : World) : (Instr.fieldAt T (.pointer (some ⟨b, o, none⟩)) f).run P w = .ok (.pointer (some ⟨b, o + off, none⟩)) w := by
  obtain ⟨fs, fd, d, h1, h2, rfl, h3, _⟩ := h.h
  obtain ⟨i, hi, hsz⟩ := Option.map_eq_some_iff.1 h3
  simp only [decide_eq_true_eq] at hsz
  have hs : (sizeOf fd.type).run P w = .ok i.size w := by simp [Go.sizeOf, typeInfo, Sem.run_bind, hi]
  simp only [Instr.fieldAt, Sem.run_bind, run_underlying h1, Result.andThen_ok, h2, Instr.sureAddr, Sem.run_pure, fieldPlace, hs]
  rw [if_neg (by omega), Addr_add]
  rfl
theorem op_fieldAddr {T f off k of : Nat} {T0 : TypeId} {cs : List IV} {x : Operand} (hF : Fld P T f off) (ho : o.op = .fieldAddr T x f) (hx : e x = .ptr k of) (hk : σ[k]? = some (.box T0 cs)) : OpQ P r o e σ (.ptr k (of + off)) σ := by
  refine opq_pure (by rw [ho]; rfl) fun W0 D ρ w A hs ha => ?_
  have h1 := ha x (by simp [ho, Op.operands])
  rw [hx] at h1
  obtain ⟨b, hb, h1⟩ := hs.ptr_at hk h1
  refine ⟨_, ?_, vr_ptr hb⟩
  simp [execOp, ho, h1, hF.run, Result.andThen, Sem.run_bind]
theorem op_fieldAddrd {T f off : Nat} {x : Operand} {cs : List IV} (hF : Fld P T f off) (ho : o.op = .fieldAddr T x f) (hx : e x = .dptr cs) : OpQ P r o e σ (.dptr (cs.drop off)) σ := by
  refine opq_pure (by rw [ho]; rfl) fun W0 D ρ w A hs ha => ?_
  have h1 := ha x (by simp [ho, Op.operands])
  rw [hx] at h1
  obtain ⟨b, of, g, h1, hg, hv⟩ := h1.dptr_inv
  refine ⟨_, ?_, .dptr (cs.drop off) b (of + off) (fun j => g (off + j)) (fun j u ej => ?_) (fun j u ej => ?_)⟩
  · simp [execOp, ho, h1, hF.run, Result.andThen, Sem.run_bind]
  · rw [List.getElem?_drop] at ej
    rw [Nat.add_assoc]
    exact hg _ u ej
  · rw [List.getElem?_drop] at ej
    exact hv _ u ej
theorem op_nilCheckp {k of : Nat} {T0 : TypeId} {cs : List IV} {x : Operand} (ho : o.op = .nilCheck x) (hx : e x = .ptr k of) (hk : σ[k]? = some (.box T0 cs)) : OpQ P r o e σ (.ptr k of) σ := by
  refine opq_pure (by rw [ho]; rfl) fun W0 D ρ w A hs ha => ?_
  have h1 := ha x (by simp [ho, Op.operands])
  rw [hx] at h1
  obtain ⟨b, hb, h1⟩ := hs.ptr_at hk h1
  exact ⟨_, by simp [execOp, ho, h1], vr_ptr hb⟩
theorem op_nilCheckd {cs : List IV} {x : Operand} (ho : o.op = .nilCheck x) (hx : e x = .dptr cs) : OpQ P r o e σ (.dptr cs) σ := by
  refine opq_pure (by rw [ho]; rfl) fun W0 D ρ w A hs ha => ?_
  have h1 := ha x (by simp [ho, Op.operands])
  rw [hx] at h1
  obtain ⟨b, of, g, h1, hg, hv⟩ := h1.dptr_inv
  exact ⟨_, by simp [execOp, ho, h1], .dptr cs b of g hg hv⟩
/-- A field of a struct by value. -/
structure FldV (P : Program) (T f off : Nat) (agg : Bool) (sz : Nat) : Prop where
  h : ∃ fs fd, P.underlying T = some (.struct fs) ∧ fs[f]? = some fd ∧ fd.offset = off ∧ ∃ z bytes, Ty P fd.type agg z sz bytes
theorem op_field1 {T f off sz : Nat} {x : Operand} {cs : List IV} {u : IV} (hF : FldV P T f off false sz) (ho : o.op = .field T x f) (hx : e x = .agg cs) (hu : cs[off]? = some u) : OpQ P r o e σ u σ := by
  refine opq_pure (by rw [ho]; rfl) fun W0 D ρ w A hs ha => ?_
  have h1 := ha x (by simp [ho, Op.operands])
  rw [hx] at h1
  generalize hval : A.eval x = val at h1
  obtain ⟨fs, fd, hu1, hf1, rfl, z, bytes, hT⟩ := hF.h
  cases h1 with
  | agg _ vs hl hv =>
    have hi : fd.offset < vs.size := by rw [← hl]; exact (List.getElem?_eq_some_iff.1 hu).1
    refine ⟨vs[fd.offset], ?_, hv _ u _ hu (by simp [hi])⟩
    simp [execOp, ho, hval, Instr.field, Sem.run_bind, run_underlying hu1, Result.andThen, hf1, asAgg, part, hT.isAgg, hi]
theorem op_fieldN {T f off sz : Nat} {x : Operand} {cs : List IV} (hF : FldV P T f off true sz) (ho : o.op = .field T x f) (hx : e x = .agg cs) : OpQ P r o e σ (.agg ((cs.drop off).take sz)) σ := by
  refine opq_pure (by rw [ho]; rfl) fun W0 D ρ w A hs ha => ?_
  have h1 := ha x (by simp [ho, Op.operands])
  rw [hx] at h1
  generalize hval : A.eval x = val at h1
  obtain ⟨fs, fd, hu1, hf1, rfl, z, bytes, hT⟩ := hF.h
  cases h1 with
  | agg _ vs hl hv =>
    have hr : Rel2 D ρ cs vs.toList := ⟨by simpa using hl, fun i u v e e' => hv i u v e (by simpa using e')⟩
    refine ⟨.agg (vs.extract fd.offset (fd.offset + sz)), ?_, ?_⟩
    · simp [execOp, ho, hval, Instr.field, Sem.run_bind, run_underlying hu1, Result.andThen, hf1, asAgg, part, hT.isAgg, hT.sizeOf]
    · have := (hr.sub fd.offset sz).agg
      have e2 : ((vs.toList.drop fd.offset).take sz).toArray = vs.extract fd.offset (fd.offset + sz) := by
        apply Array.toList_inj.1
        simp [List.extract_eq_take_drop]
      rwa [e2] at this
end
end Go.QL
end

section
/- QL, part e: slices: read, cut, made, appended to, done. Plain; no program in sight. -/
set_option linter.unusedVariables false
set_option linter.unusedSimpArgs false
namespace Go.QL
open Go Go.RowKit

/-- Elements that all take sz cells, none of them junk. -/
def Good (sz : Nat) (xs : List IV) : Prop := ∀ x ∈ xs, x.solid = true ∧ (flat x).length = sz
theorem Good.nil (sz : Nat) : Good sz [] := fun _ h => by cases h
theorem Good.cons {sz : Nat} {x : IV} {xs : List IV} (h1 : x.solid = true) (h2 : (flat x).length = sz) (h : Good sz xs) : Good sz (x :: xs) := by
  intro y hy
  rcases List.mem_cons.1 hy with rfl | hy
  · exact ⟨h1, h2⟩
  · exact h y hy
theorem Good.map {α : Type} {sz : Nat} {f : α → IV} (h : ∀ x, (f x).solid = true ∧ (flat (f x)).length = sz) (xs : List α) : Good sz (xs.map f) := by
  intro y hy
  obtain ⟨x, _, rfl⟩ := List.mem_map.1 hy
  exact h x
theorem Good.append {sz : Nat} {xs ys : List IV} (h : Good sz xs) (k : Good sz ys) : Good sz (xs ++ ys) := fun y hy => (List.mem_append.1 hy).elim (h y) (k y)
theorem Good.take {sz : Nat} {xs : List IV} (h : Good sz xs) (n : Nat) : Good sz (xs.take n) := fun y hy => h y (List.mem_of_mem_take hy)
theorem Good.drop {sz : Nat} {xs : List IV} (h : Good sz xs) (n : Nat) : Good sz (xs.drop n) := fun y hy => h y (List.mem_of_mem_drop hy)
theorem Good.set {sz : Nat} {xs : List IV} (h : Good sz xs) {x : IV} (h1 : x.solid = true) (h2 : (flat x).length = sz) (n : Nat) : Good sz (xs.set n x) := by
  intro y hy
  rcases List.mem_or_eq_of_mem_set hy with hy | rfl
  · exact h y hy
  · exact ⟨h1, h2⟩

theorem flats_length {sz : Nat} : ∀ {xs : List IV}, (∀ x ∈ xs, (flat x).length = sz) → (flats xs).length = xs.length * sz
  | [], _ => by simp [flats]
  | x :: xs, h => by
    have ih := flats_length (sz := sz) (xs := xs) fun y hy => h y (List.mem_cons_of_mem _ hy)
    have hx := h x (List.mem_cons_self ..)
    simp only [flats, List.flatMap_cons, List.length_append] at ih ⊢
    rw [ih, hx, List.length_cons, Nat.add_mul, Nat.one_mul, Nat.add_comm]
theorem flats_append (xs ys : List IV) : flats (xs ++ ys) = flats xs ++ flats ys := by simp [flats]
theorem flats_take {sz : Nat} {xs : List IV} (h : ∀ x ∈ xs, (flat x).length = sz) (n : Nat) : flats (xs.take n) = (flats xs).take (n * sz) := by
  rcases Nat.lt_or_ge n xs.length with hn | hn
  · have e : flats xs = flats (xs.take n) ++ flats (xs.drop n) := by rw [← flats_append, List.take_append_drop]
    have hl : (flats (xs.take n)).length = n * sz := by rw [flats_length (sz := sz) fun y hy => h y (List.mem_of_mem_take hy), List.length_take, Nat.min_eq_left (by omega)]
    rw [e, List.take_append_of_le_length (by omega), ← hl, List.take_length]
  · rw [List.take_of_length_le hn, List.take_of_length_le]
    rw [flats_length h]
    exact Nat.mul_le_mul_right _ hn
theorem flats_drop {sz : Nat} {xs : List IV} (h : ∀ x ∈ xs, (flat x).length = sz) (n : Nat) : flats (xs.drop n) = (flats xs).drop (n * sz) := by
  rcases Nat.lt_or_ge n xs.length with hn | hn
  · have e : flats xs = flats (xs.take n) ++ flats (xs.drop n) := by rw [← flats_append, List.take_append_drop]
    have hl : (flats (xs.take n)).length = n * sz := by rw [flats_length (sz := sz) fun y hy => h y (List.mem_of_mem_take hy), List.length_take, Nat.min_eq_left (by omega)]
    rw [e, ← hl, List.drop_left]
  · rw [List.drop_of_length_le hn, List.drop_of_length_le]
    · rfl
    · rw [flats_length h]
      exact Nat.mul_le_mul_right _ hn
theorem flats_at {sz : Nat} {xs : List IV} (h : ∀ x ∈ xs, (flat x).length = sz) {i : Nat} {x : IV} (hi : xs[i]? = some x) {j : Nat} (hj : j < sz) : (flats xs)[i * sz + j]? = (flat x)[j]? := by
  have hd := flats_drop h i
  have hx : xs.drop i = x :: xs.drop (i + 1) := by
    obtain ⟨hl, rfl⟩ := List.getElem?_eq_some_iff.1 hi
    exact List.drop_eq_getElem_cons hl
  rw [← List.getElem?_drop, ← hd, hx]
  simp only [flats, List.flatMap_cons]
  rw [List.getElem?_append_left (by rw [h x (List.mem_of_getElem? hi)]; exact hj)]

theorem VR.sl_inv {D : DM} {ρ : List Slot} {full : Bool} {xs : List IV} {v : Value} (h : VR D ρ (.sl full xs) v) : ∃ (A : Option Addr) (c b o : Nat) (g : Nat → Value), v = .slice A xs.length c ∧ xs.length ≤ c ∧ c ≤ maxLen ∧ (full = true → c = xs.length) ∧
    (xs ≠ [] → A = some ⟨b, o, none⟩) ∧ (∀ j u, (flats xs)[j]? = some u → D b (o + j) = some (g j)) ∧ (∀ j u, (flats xs)[j]? = some u → VR D ρ u (g j)) := by
  cases h with
  | sl _ _ A c b o g hc hm hf hA hg hv => exact ⟨A, c, b, o, g, rfl, hc, hm, hf, hA, hg, hv⟩
theorem VR.nils_inv {D : DM} {ρ : List Slot} {v : Value} (h : VR D ρ .nils v) : v = .slice none 0 0 := by cases h; rfl
theorem VR.row_inv {D : DM} {ρ : List Slot} {k n : Nat} {v : Value} (h : VR D ρ (.row k n) v) : ∃ A c, v = .slice A n c ∧ RowAt ρ k n v := by cases h; exact ⟨_, _, rfl, by assumption⟩
/-- A slice whose room is not asked for. -/
theorem VR.forget {D : DM} {ρ : List Slot} {full : Bool} {xs : List IV} {v : Value} (h : VR D ρ (.sl full xs) v) : VR D ρ (.sl false xs) v := by
  cases h with
  | sl _ _ A c b o g hc hm hf hA hg hv => exact .sl _ _ A c b o g hc hm (by simp) hA hg hv
theorem VR.nil_sl {D : DM} {ρ : List Slot} {v : Value} (full : Bool) (h : VR D ρ .nils v) : VR D ρ (.sl full []) v := by
  cases h
  exact .sl full [] none 0 0 0 (fun _ => undef) (Nat.le_refl _) (by simp [maxLen]) (by simp) (fun h => absurd rfl h) (fun j u h => by simp [flats] at h) (fun j u h => by simp [flats] at h)

section
variable {P : Program} {r : RN} {o : Oper} {e : Val2} {σ : List IObj}
/-- How long it is. -/
def IV.len : IV → Nat
  | .sl _ xs => xs.length
  | .row _ n => n
  | _ => 0
def IV.isSlice : IV → Bool
  | .sl _ _ | .row _ _ | .nils => true
  | _ => false
theorem op_len {T E : TypeId} {x : Operand} (hT : P.underlying T = some (.slice E)) (ho : o.op = .call { callee := .builtin .len, args := #[x], argTypes := #[T] }) (hx : (e x).isSlice = true) : OpQ P r o e σ (.int .i64 (e x).len) σ := by
  refine opq_pure (by rw [ho]; rfl) fun W0 D ρ w A hs ha => ⟨.int .i64 (e x).len, ?_, .int _ _⟩
  have h1 := ha x (by simp [ho, Op.operands, Call.operands])
  have : ∃ B c, A.eval x = .slice B (e x).len c := by
    cases hv : e x with
    | sl f xs => rw [hv] at h1; obtain ⟨B, c, _, _, _, hh, _⟩ := h1.sl_inv; exact ⟨B, c, hh⟩
    | row k n => rw [hv] at h1; obtain ⟨B, c, hh, _⟩ := h1.row_inv; exact ⟨B, c, hh⟩
    | nils => rw [hv] at h1; exact ⟨_, _, h1.nils_inv⟩
    | _ => rw [hv] at hx; cases hx
  obtain ⟨B, c, h2⟩ := this
  simp [execOp, ho, h2, resolve, invoke, builtin, Builtin.len_, Sem.run_bind, run_underlying hT, Result.andThen, goInt]

theorem op_indexAddr {T E : TypeId} {x i : Operand} {z : Value} {sz bytes : Nat} {agg full : Bool} {xs : List IV} {k : IntKind} {n : Int} {u : IV} (hT : P.underlying T = some (.slice E)) (hE : Ty P E agg z sz bytes) (ho : o.op = .indexAddr T x i)
    (hx : e x = .sl full xs) (hi : e i = .int k n) (h0 : 0 ≤ n) (hu : xs[n.toNat]? = some u) (hg : Good sz xs) : OpQ P r o e σ (.dptr (flat u)) σ := by
  refine opq_pure (by rw [ho]; rfl) fun W0 D ρ w A hs ha => ?_
  have h1 := ha x (by simp [ho, Op.operands]); rw [hx] at h1
  have h2 := ha i (by simp [ho, Op.operands]); rw [hi] at h2; have h2 := h2.int_inv
  obtain ⟨B, c, b, of, g, h1, hc, hm, hf, hA, hd, hv⟩ := h1.sl_inv
  have hlt := (List.getElem?_eq_some_iff.1 hu).1
  have hne : xs ≠ [] := fun h => by rw [h] at hlt; simp at hlt
  have hl := fun y hy => (hg y hy).2
  have hul := hl u (List.mem_of_getElem? hu)
  refine ⟨.pointer (some ⟨b, of + n.toNat * sz, none⟩), ?_, .dptr _ b (of + n.toNat * sz) (fun j => g (n.toNat * sz + j)) (fun j y ej => ?_) (fun j y ej => ?_)⟩
  · have hn : n < (xs.length : Int) := by omega
    simp [execOp, ho, h1, h2, hA hne, Instr.indexAt, asIntOf, Sem.run_bind, run_underlying hT, Result.andThen, h0, hn, hE.sizeOf, Addr_add]
  · have hj : j < sz := by have := (List.getElem?_eq_some_iff.1 ej).1; omega
    rw [Nat.add_assoc]
    exact hd _ y (by rw [flats_at hl hu hj]; exact ej)
  · have hj : j < sz := by have := (List.getElem?_eq_some_iff.1 ej).1; omega
    exact hv _ y (by rw [flats_at hl hu hj]; exact ej)

/-- xs[l:h]. -/
theorem vr_cut {D : DM} {ρ : List Slot} {full : Bool} {xs : List IV} {A : Option Addr} {c sz : Nat} (h : VR D ρ (.sl full xs) (.slice A xs.length c)) (hg : Good sz xs) {l m : Nat} (hl : l ≤ m) (hm : m ≤ xs.length) (c' : Nat) (hc : c' = c ∨ c' = m) (f : Bool) (hf : f = true → c' = m) :
    VR D ρ (.sl f ((xs.take m).drop l)) (.slice (if c' = l then A else A.map (·.add (l * sz))) (m - l) (c' - l)) := by
  obtain ⟨B, c2, b, of, g, h1, hcc, hmm, hf', hA, hd, hv⟩ := h.sl_inv
  injection h1 with e1 e2 e3
  subst e1; subst e3
  have hs := fun y hy => (hg y hy).2
  have hlen : ((xs.take m).drop l).length = m - l := by simp; omega
  have hfl : flats ((xs.take m).drop l) = ((flats xs).take (m * sz)).drop (l * sz) := by
    rw [flats_drop (sz := sz) (fun y hy => hs y (List.mem_of_mem_take hy)), flats_take hs]
  have hget : ∀ j u, (flats ((xs.take m).drop l))[j]? = some u → (flats xs)[l * sz + j]? = some u := by
    intro j u ej
    rw [hfl, List.getElem?_drop, List.getElem?_take] at ej
    split at ej
    · exact ej
    · cases ej
  have key : VR D ρ (.sl f ((xs.take m).drop l)) (.slice (if c' = l then A else A.map (·.add (l * sz))) ((xs.take m).drop l).length (c' - l)) := by
    refine .sl f _ _ (c' - l) b (of + l * sz) (fun j => g (l * sz + j)) (by rcases hc with rfl | rfl <;> omega) (by rcases hc with rfl | rfl <;> omega) (fun hft => ?_) (fun hne => ?_) (fun j u ej => ?_) (fun j u ej => ?_)
    · rw [hlen]
      have := hf hft
      omega
    · have hlt : l < m := by
        rcases Nat.lt_or_ge l m with h | h
        · exact h
        · exact absurd (List.eq_nil_of_length_eq_zero (by omega)) hne
      have hxs : xs ≠ [] := fun h => by subst h; simp at hm; omega
      rw [if_neg (by rcases hc with rfl | rfl <;> omega), hA hxs]
      simp [Addr_add]
    · rw [Nat.add_assoc]; exact hd _ u (hget j u ej)
    · exact hv _ u (hget j u ej)
  rwa [hlen] at key
theorem op_slice {T E : TypeId} {x l h : Operand} {z : Value} {sz bytes : Nat} {agg full : Bool} {xs : List IV} {k k' : IntKind} {n m : Int} (hT : P.underlying T = some (.slice E)) (hE : Ty P E agg z sz bytes) (ho : o.op = .slice T x (some l) (some h) none)
    (hx : e x = .sl full xs) (hl : e l = .int k n) (hh : e h = .int k' m) (h0 : 0 ≤ n) (h1 : n ≤ m) (h2 : m ≤ xs.length) (hg : Good sz xs) : OpQ P r o e σ (.sl false ((xs.take m.toNat).drop n.toNat)) σ := by
  refine opq_pure (by rw [ho]; rfl) fun W0 D ρ w A hs ha => ?_
  have e1 := ha x (by simp [ho, Op.operands]); rw [hx] at e1
  have e2 := ha l (by simp [ho, Op.operands]); rw [hl] at e2; have e2 := e2.int_inv
  have e3 := ha h (by simp [ho, Op.operands]); rw [hh] at e3; have e3 := e3.int_inv
  obtain ⟨B, c, b, of, g, e4, hc, hm, hf, hA, hd, hv⟩ := e1.sl_inv
  refine ⟨_, ?_, vr_cut (sz := sz) (c := c) (e4 ▸ e1) hg (l := n.toNat) (m := m.toNat) (by omega) (by omega) c (.inl rfl) false (by simp)⟩
  simp [execOp, ho, e2, e3, e4, Instr.sliceAt, Instr.slice, Instr.sliceBounds, Instr.sliceBound, asIntOf, Sem.run_bind, run_underlying hT, Result.andThen, h0, show 0 ≤ m by omega, show m ≤ (c : Int) by omega, show n ≤ max m 0 by omega, hE.sizeOf]
theorem op_slicel {T E : TypeId} {x l : Operand} {z : Value} {sz bytes : Nat} {agg full : Bool} {xs : List IV} {k : IntKind} {n : Int} (hT : P.underlying T = some (.slice E)) (hE : Ty P E agg z sz bytes) (ho : o.op = .slice T x (some l) none none)
    (hx : e x = .sl full xs) (hl : e l = .int k n) (h0 : 0 ≤ n) (h1 : n ≤ xs.length) (hg : Good sz xs) : OpQ P r o e σ (.sl false (xs.drop n.toNat)) σ := by
  refine opq_pure (by rw [ho]; rfl) fun W0 D ρ w A hs ha => ?_
  have e1 := ha x (by simp [ho, Op.operands]); rw [hx] at e1
  have e2 := ha l (by simp [ho, Op.operands]); rw [hl] at e2; have e2 := e2.int_inv
  obtain ⟨B, c, b, of, g, e4, hc, hm, hf, hA, hd, hv⟩ := e1.sl_inv
  have hv2 := vr_cut (sz := sz) (c := c) (e4 ▸ e1) hg (l := n.toNat) (m := xs.length) (by omega) (Nat.le_refl _) c (.inl rfl) false (by simp)
  rw [List.take_length] at hv2
  refine ⟨_, ?_, hv2⟩
  simp [execOp, ho, e2, e4, Instr.sliceAt, Instr.slice, Instr.sliceBounds, Instr.sliceBound, asIntOf, Sem.run_bind, run_underlying hT, Result.andThen, h0, h1, hE.sizeOf]
theorem op_sliceh {T E : TypeId} {x h : Operand} {z : Value} {sz bytes : Nat} {agg full : Bool} {xs : List IV} {k' : IntKind} {m : Int} (hT : P.underlying T = some (.slice E)) (hE : Ty P E agg z sz bytes) (ho : o.op = .slice T x none (some h) none)
    (hx : e x = .sl full xs) (hh : e h = .int k' m) (h0 : 0 ≤ m) (h2 : m ≤ xs.length) (hg : Good sz xs) : OpQ P r o e σ (.sl false (xs.take m.toNat)) σ := by
  refine opq_pure (by rw [ho]; rfl) fun W0 D ρ w A hs ha => ?_
  have e1 := ha x (by simp [ho, Op.operands]); rw [hx] at e1
  have e3 := ha h (by simp [ho, Op.operands]); rw [hh] at e3; have e3 := e3.int_inv
  obtain ⟨B, c, b, of, g, e4, hc, hm, hf, hA, hd, hv⟩ := e1.sl_inv
  have hv2 := vr_cut (sz := sz) (c := c) (e4 ▸ e1) hg (l := 0) (m := m.toNat) (by omega) (by omega) c (.inl rfl) false (by simp)
  rw [List.drop_zero] at hv2
  refine ⟨_, ?_, hv2⟩
  simp [execOp, ho, e3, e4, Instr.sliceAt, Instr.slice, Instr.sliceBounds, Instr.sliceBound, asIntOf, Sem.run_bind, run_underlying hT, Result.andThen, h0, show m ≤ (c : Int) by omega, hE.sizeOf]
/-- s[:h:m] -/
theorem op_slice3 {T E : TypeId} {x h mx : Operand} {z : Value} {sz bytes : Nat} {agg full : Bool} {xs : List IV} {k k' : IntKind} {m : Int} (hT : P.underlying T = some (.slice E)) (hE : Ty P E agg z sz bytes) (ho : o.op = .slice T x none (some h) (some mx))
    (hx : e x = .sl full xs) (hh : e h = .int k m) (hm : e mx = .int k' m) (h0 : 0 ≤ m) (h2 : m ≤ xs.length) (hg : Good sz xs) : OpQ P r o e σ (.sl true (xs.take m.toNat)) σ := by
  refine opq_pure (by rw [ho]; rfl) fun W0 D ρ w A hs ha => ?_
  have e1 := ha x (by simp [ho, Op.operands]); rw [hx] at e1
  have e3 := ha h (by simp [ho, Op.operands]); rw [hh] at e3; have e3 := e3.int_inv
  have e5 := ha mx (by simp [ho, Op.operands]); rw [hm] at e5; have e5 := e5.int_inv
  obtain ⟨B, c, b, of, g, e4, hc, hmm, hf, hA, hd, hv⟩ := e1.sl_inv
  have hv2 := vr_cut (sz := sz) (c := c) (e4 ▸ e1) hg (l := 0) (m := m.toNat) (by omega) (by omega) m.toNat (.inr rfl) true (fun _ => rfl)
  rw [List.drop_zero] at hv2
  refine ⟨_, ?_, hv2⟩
  simp [execOp, ho, e3, e4, e5, Instr.sliceAt, Instr.slice, Instr.sliceBounds, Instr.sliceBound, asIntOf, Sem.run_bind, run_underlying hT, Result.andThen, h0, show m ≤ (c : Int) by omega, show m ≤ max m 0 by omega, hE.sizeOf]

/-! ### a slice against nil -/
theorem run_equalIn_nil (d : Nat) {T E : TypeId} (hT : P.underlying T = some (.slice E)) (B : Option Addr) (n c : Nat) (w : World) : (Op.equalIn (d + 1) T (.slice B n c) (.slice none 0 0)).run P w = .ok B.isNone w := by
  cases B <;> simp [Op.equalIn, Sem.run_bind, run_underlying hT, Result.andThen]
theorem run_equal_nil {T E : TypeId} (hT : P.underlying T = some (.slice E)) (B : Option Addr) (n c : Nat) (w : World) : (Op.equal T (.slice B n c) (.slice none 0 0)).run P w = .ok B.isNone w := run_equalIn_nil 9999 hT B n c w
theorem op_eqlnil {T E yt : TypeId} {x y : Operand} {full : Bool} {xs : List IV} (hT : P.underlying T = some (.slice E)) (ho : o.op = .binOp .eql T x y yt) (hx : e x = .sl full xs) (hy : e y = .nils) :
    OpK P r o e σ (fun v σ' => σ' = σ ∧ ∃ b : Bool, v = .bool b ∧ (b = true → xs = [])) := by
  refine opk_val (by rw [ho]; rfl) fun W0 D ρ w A hs ha => ?_
  have e1 := ha x (by simp [ho, Op.operands]); rw [hx] at e1
  have e2 := ha y (by simp [ho, Op.operands]); rw [hy] at e2; have e2 := e2.nils_inv
  obtain ⟨B, c, b, of, g, e4, hc, hmm, hf, hA, hd, hv⟩ := e1.sl_inv
  refine ⟨D, ρ, .bool B.isNone, .bool B.isNone, σ, w, ?_, .refl _ _, hs, .bool _, rfl, _, rfl, fun hb => ?_⟩
  · have hg : (eqGuard .eql T x y (.slice B xs.length c) (.slice none 0 0)).run P w = .ok () w := by unfold eqGuard; split <;> rfl
    simp only [execOp, ho, e2, e4, Sem.run_bind, hg, Result.andThen_ok, binOp]
    simp only [Sem.run_bind, run_equal_nil hT, Result.andThen_ok, Sem.run_pure]
  · rcases xs with _ | ⟨x, xs⟩
    · rfl
    · rw [hA (by simp)] at hb; cases hb
theorem op_neqnil {T E yt : TypeId} {x y : Operand} {full : Bool} {xs : List IV} (hT : P.underlying T = some (.slice E)) (ho : o.op = .binOp .neq T x y yt) (hx : e x = .sl full xs) (hy : e y = .nils) :
    OpK P r o e σ (fun v σ' => σ' = σ ∧ ∃ b : Bool, v = .bool b ∧ (b = false → xs = [])) := by
  refine opk_val (by rw [ho]; rfl) fun W0 D ρ w A hs ha => ?_
  have e1 := ha x (by simp [ho, Op.operands]); rw [hx] at e1
  have e2 := ha y (by simp [ho, Op.operands]); rw [hy] at e2; have e2 := e2.nils_inv
  obtain ⟨B, c, b, of, g, e4, hc, hmm, hf, hA, hd, hv⟩ := e1.sl_inv
  refine ⟨D, ρ, .bool (!B.isNone), .bool (!B.isNone), σ, w, ?_, .refl _ _, hs, .bool _, rfl, _, rfl, fun hb => ?_⟩
  · have hg : (eqGuard .neq T x y (.slice B xs.length c) (.slice none 0 0)).run P w = .ok () w := by unfold eqGuard; split <;> rfl
    simp only [execOp, ho, e2, e4, Sem.run_bind, hg, Result.andThen_ok, binOp]
    simp only [Sem.run_bind, run_equal_nil hT, Result.andThen_ok, Sem.run_pure]
  · rcases xs with _ | ⟨x, xs⟩
    · rfl
    · rw [hA (by simp)] at hb; cases hb
end
end Go.QL
end

section
/- QL, part f: what is made: structs, new slices, append, rows of the call's own. Plain; no program in sight. -/
set_option linter.unusedVariables false
set_option linter.unusedSimpArgs false
namespace Go.QL
open Go Go.RowKit

theorem set_fold (off : Nat) : ∀ (l : List Value) (k : Nat) (cells : Array Value), off + k + l.length ≤ cells.size →
    ((l.zipIdx k).foldl (fun (cs : Array Value) (p : Value × Nat) => cs.setIfInBounds (off + p.2) p.1) cells).toList = cells.toList.take (off + k) ++ l ++ cells.toList.drop (off + k + l.length)
  | [], k, cells, _ => by simp
  | v :: l, k, cells, h => by
    simp only [List.length_cons] at h
    rw [List.zipIdx_cons, List.foldl_cons, set_fold off l (k + 1) _ (by simp; omega)]
    have hk : off + k < cells.toList.length := by simp; omega
    simp only [Array.toList_setIfInBounds, List.length_cons]
    have e1 : (cells.toList.set (off + k) v).take (off + (k + 1)) = cells.toList.take (off + k) ++ [v] := by
      rw [show off + (k + 1) = off + k + 1 by omega, List.take_succ_eq_append_getElem (by simpa using hk), List.take_set_of_le (Nat.le_refl _)]
      simp
    have e2 : (cells.toList.set (off + k) v).drop (off + (k + 1) + l.length) = cells.toList.drop (off + k + (l.length + 1)) := by
      rw [List.drop_set_of_lt (by omega)]
      congr 1
      omega
    rw [e1, e2]
    simp
theorem fill_fold (off : Nat) (v : Value) (cells : Array Value) (h : off + v.cells.size ≤ cells.size) :
    (v.cells.zipIdx.foldl (fun (cs : Array Value) (c, j) => cs.setIfInBounds (off + j) c) cells).toList = cells.toList.take off ++ v.cells.toList ++ cells.toList.drop (off + v.cells.size) := by
  have := set_fold off v.cells.toList 0 cells (by simpa using h)
  rw [← Array.foldl_toList, Array.toList_zipIdx]
  simpa using this
theorem Rel2.wr {D : DM} {ρ : List Slot} {cs us : List IV} {vs ws : List Value} (h : Rel2 D ρ cs vs) (k : Rel2 D ρ us ws) {off : Nat} (hle : off + us.length ≤ cs.length) : Rel2 D ρ (QL.wr cs off us) (vs.take off ++ ws ++ vs.drop (off + ws.length)) := by
  have h1 := h.1
  have k1 := k.1
  unfold QL.wr
  refine ⟨by simp only [List.length_append, List.length_take, List.length_drop]; omega, fun i u v ei ei' => ?_⟩
  have hc1 : (cs.take off).length = off := by simp; omega
  have hc2 : (vs.take off).length = off := by simp; omega
  rcases Nat.lt_or_ge i off with hi | hi
  · rw [List.append_assoc, List.getElem?_append_left (by omega), List.getElem?_take, if_pos hi] at ei ei'
    exact h.2 i u v ei ei'
  · rw [List.append_assoc, List.getElem?_append_right (by omega)] at ei ei'
    rw [hc1] at ei
    rw [hc2] at ei'
    rcases Nat.lt_or_ge (i - off) us.length with hj | hj
    · rw [List.getElem?_append_left (by omega)] at ei ei'
      exact k.2 _ u v ei ei'
    · rw [List.getElem?_append_right (by omega)] at ei ei'
      rw [← k1] at ei'
      rw [List.getElem?_drop] at ei ei'
      exact h.2 _ u v ei ei'

/-- A struct's cells, part by part. -/
def bfill (place : Nat → Option (Nat × Nat)) (cells : List IV) : List (Nat × IV) → Option (List IV)
  | [] => some cells
  | (i, u) :: rest =>
    match place i with
    | some (off, s) => if (flat u).length = s ∧ off + s ≤ cells.length ∧ u.solid = true then bfill place (wr cells off (flat u)) rest else none
    | none => none
theorem fill_of {D : DM} {ρ : List Slot} (pl : Nat → Option (Nat × Nat)) : ∀ (us : List (Nat × IV)) (vs : List (Nat × Value)) (cs : List IV) (cells : Array Value) (out : List IV), us.length = vs.length →
    (∀ (i : Nat) (u : Nat × IV) v, us[i]? = some u → vs[i]? = some v → u.1 = v.1 ∧ VR D ρ u.2 v.2) → Rel2 D ρ cs cells.toList → bfill pl cs us = some out →
    ∃ res : Array Value, Instr.fill pl cells vs = some res ∧ Rel2 D ρ out res.toList
  | [], [], cs, cells, out, _, _, hr, hb => by
    simp only [bfill, Option.some.injEq] at hb
    subst hb
    exact ⟨cells, rfl, hr⟩
  | (i, u) :: us, (j, v) :: vs, cs, cells, out, hl, hp, hr, hb => by
    obtain ⟨rfl, hv⟩ := hp 0 _ _ rfl rfl
    simp only at hv
    simp only [bfill] at hb
    cases hpl : pl i with
    | none => rw [hpl] at hb; cases hb
    | some p =>
      obtain ⟨off, s⟩ := p
      rw [hpl] at hb
      simp only at hb
      split at hb
      · rename_i hc
        obtain ⟨h1, h2, h3⟩ := hc
        have hsz := flat_length_cells hv h3
        have hcl : cs.length = cells.size := by simpa using hr.1
        have hff := fill_fold off v cells (by omega)
        have hr2 := hr.wr (hv.flat h3) (off := off) (by omega)
        simp only [Array.length_toList] at hr2
        rw [← hff] at hr2
        obtain ⟨res, hres, hrel⟩ := fill_of pl us vs _ _ out (by simpa using hl) (fun i u v e e' => hp (i + 1) u v e e') hr2 hb
        refine ⟨res, ?_, hrel⟩
        simp only [Instr.fill]
        rw [hpl]
        simp only
        rw [if_neg (by simp; omega)]
        exact hres
      · cases hb
  | [], _ :: _, _, _, _, hl, _, _, _ => by simp at hl
  | _ :: _, [], _, _, _, hl, _, _, _ => by simp at hl

/-- Where the fields of a struct type lie. -/
structure Flds (P : Program) (T : TypeId) (pl : List (Nat × Nat)) : Prop where
  h : ∃ fs, P.underlying T = some (.struct fs) ∧ fs.toList.map (fun f => (f.offset, (P.info? f.type).map (·.size))) = pl.map (fun p => (p.1, some p.2))
section
variable {P : Program} {r : RN} {o : Oper} {e : Val2} {σ : List IObj}
theorem mapM_places {w : World} : ∀ (fs : List Field) (pl : List (Nat × Nat)), fs.map (fun f => (f.offset, (P.info? f.type).map (·.size))) = pl.map (fun p => (p.1, some p.2)) →
    (fs.mapM (fun f => do pure (f.offset, ← sizeOf f.type)) : Sem (List (Nat × Nat))).run P w = .ok pl w
  | [], [], _ => by simp
  | f :: fs, p :: pl, h => by
    simp only [List.map_cons, List.cons.injEq, Prod.mk.injEq] at h
    obtain ⟨⟨h1, h2⟩, h3⟩ := h
    obtain ⟨i, hi, hsz⟩ := Option.map_eq_some_iff.1 h2
    have hs : (sizeOf f.type).run P w = .ok p.2 w := by simp [Go.sizeOf, typeInfo, Sem.run_bind, hi, hsz]
    have ih := mapM_places (w := w) fs pl h3
    simp only [List.mapM_cons, Sem.run_bind, hs, Result.andThen_ok, Sem.run_pure, ih, h1]
  | [], _ :: _, h => by simp at h
  | _ :: _, [], h => by simp at h
theorem op_build {T : TypeId} {parts : Array (Nat × Operand)} {pl : List (Nat × Nat)} {z : Value} {sz bytes : Nat} {agg : Bool} {out : List IV} (hT : Ty P T agg z sz bytes) (hF : Flds P T pl) (ho : o.op = .build T parts)
    (hb : bfill (pl[·]?) (z.cells.toList.map cst1) (parts.toList.map fun p => (p.1, e p.2)) = some out) : OpQ P r o e σ (.agg out) σ := by
  refine opq_pure (by rw [ho]; rfl) fun W0 D ρ w A hs ha => ?_
  obtain ⟨fs, h1, h2⟩ := hF.h
  have hz : Rel2 D ρ (z.cells.toList.map cst1) z.cells.toList := ⟨by simp, fun i u v e e' => by
    simp only [List.getElem?_map, Option.map_eq_some_iff] at e
    obtain ⟨y, hy, rfl⟩ := e
    rw [hy] at e'
    cases e'
    exact vr_cst1 _ _ _⟩
  obtain ⟨res, hres, hrel⟩ := fill_of (D := D) (ρ := ρ) (pl[·]?) (parts.toList.map fun p => (p.1, e p.2)) (parts.toList.map fun p => (p.1, A.eval p.2)) _ z.cells out (by simp) (fun i u v e1 e2 => by
    simp only [List.getElem?_map, Option.map_eq_some_iff] at e1 e2
    obtain ⟨p, hp, rfl⟩ := e1
    obtain ⟨q, hq, rfl⟩ := e2
    rw [hp] at hq
    cases hq
    refine ⟨rfl, ha _ ?_⟩
    have hm := List.mem_of_getElem? hp
    simp only [ho, Op.operands, List.mem_toArray, List.mem_map]
    exact ⟨p, hm, rfl⟩) hz hb
  refine ⟨.agg res, ?_, ?_⟩
  · have hm := mapM_places (P := P) (w := w) fs.toList pl h2
    have hm2 : (fs.mapM (fun f => do pure (f.offset, ← sizeOf f.type)) : Sem (Array (Nat × Nat))).run P w = .ok pl.toArray w := by
      rw [Array.mapM_eq_mapM_toList, ← bind_pure_comp]
      simp only [Sem.run_bind, hm, Result.andThen_ok, Sem.run_pure]
    simp only [execOp, ho, Instr.build, Sem.run_bind, hT.zero, Result.andThen_ok, run_underlying h1, hm2]
    have e1 : (parts.map fun (x : Nat × Operand) => (x.1, A.eval x.2)).toList = parts.toList.map fun p => (p.1, A.eval p.2) := by simp
    have e2 : (fun (i : Nat) => pl.toArray[i]?) = (fun (i : Nat) => pl[i]?) := by funext i; simp
    rw [e1, e2, hres]
    rfl
  · have := hrel.agg
    simpa using this
end
end Go.QL
end

section
/- QL, part g: new slices, append, rows of the call's own, and when they are done. Plain; no program in sight. -/
set_option linter.unusedVariables false
set_option linter.unusedSimpArgs false
namespace Go.QL
open Go Go.RowKit

/-- A new block that is done at once. -/
theorem St.frz {W0 : Base} {D : DM} {ρ : List Slot} {σ : List IObj} {w : World} (h : St W0 D ρ σ w) (vs : Array Value) (E : TypeId) (w' : World) (hw : w'.heap = (w.alloc (.cells vs E)).heap) (h1 : w'.os = w.os) (h2 : w'.tape = w.tape) (h3 : w'.output = w.output) :
    St W0 (fun b o => if b = w.heap.size then vs[o]? else D b o) ρ σ w' ∧ Ext D ρ (fun b o => if b = w.heap.size then vs[o]? else D b o) ρ := by
  refine h.grew ⟨h1, h2, h3, by rw [hw]; simp, fun k hk => by rw [hw]; exact Below.heap_alloc _ _ _ hk⟩ (fun b o v e => ?_) (fun b o v e => ?_)
  · have hlt : b < w.heap.size := World.block_lt_of_cell? w _ (h.dc _ _ _ e)
    show (if b = w.heap.size then vs[o]? else D b o) = some v
    rw [if_neg (by omega)]
    exact e
  · split at e
    · rename_i hb
      subst hb
      refine .inr ⟨Nat.le_refl _, ?_⟩
      have hh : w'.heap[w.heap.size]? = some (.cells vs E (0, 0)) := by rw [hw]; exact heap_alloc_new w _
      rw [cells_at hh]
      exact e
    · exact .inl e
theorem St.vr_new {W0 : Base} {D : DM} {ρ : List Slot} {σ : List IObj} {w : World} {vs : Array Value} {xs : List IV} {sz c : Nat} {full : Bool} (x : Ext D ρ (fun b o => if b = w.heap.size then vs[o]? else D b o) ρ) (hr : Rel2 D ρ (flats xs) (vs.toList.take (flats xs).length))
    (hc : xs.length ≤ c) (hm : c ≤ maxLen) (hf : full = true → c = xs.length) : VR (fun b o => if b = w.heap.size then vs[o]? else D b o) ρ (.sl full xs) (.slice (some ⟨w.heap.size, 0, none⟩) xs.length c) := by
  have hlen : (flats xs).length ≤ vs.size := by have := hr.1; simp at this; omega
  have hget : ∀ (j : Nat) u, (flats xs)[j]? = some u → vs[j]? = some (vs.getD j undef) ∧ (vs.toList.take (flats xs).length)[j]? = some (vs.getD j undef) := by
    intro j u e
    have hj := (List.getElem?_eq_some_iff.1 e).1
    have hj2 : j < vs.size := by omega
    have e1 : vs[j]? = some (vs.getD j undef) := by simp [Array.getD, hj2]
    refine ⟨e1, ?_⟩
    rw [List.getElem?_take, if_pos hj]
    simpa using e1
  refine .sl full xs _ c w.heap.size 0 (fun j => vs.getD j undef) hc hm hf (fun _ => rfl) (fun j u e => ?_) (fun j u e => ?_)
  · simp only [Nat.zero_add, if_true]
    exact (hget j u e).1
  · exact (hr.2 j u _ e (hget j u e).2).ext x

theorem bfill_all {sz : Nat} : ∀ (us ds : List IV) (rest : List IV), Good sz us → (∀ x ∈ ds, (flat x).length = sz) → rest.length = us.length * sz →
    bfill (fun i => some (i * sz, sz)) (flats ds ++ rest) ((us.zipIdx ds.length).map fun p => (p.2, p.1)) = some (flats (ds ++ us))
  | [], ds, rest, _, _, hr => by
    have : rest = [] := List.eq_nil_of_length_eq_zero (by simpa using hr)
    subst this
    simp [bfill]
  | u :: us, ds, rest, hg, hd, hr => by
    have hu := hg u (List.mem_cons_self ..)
    have hfl := flats_length hd
    simp only [List.zipIdx_cons, List.map_cons, bfill]
    rw [if_pos ⟨hu.2, by simp only [List.length_append, hfl, hr, List.length_cons]; rw [Nat.add_mul]; omega, hu.1⟩]
    have hrl : sz ≤ rest.length := by rw [hr, List.length_cons, Nat.add_mul]; omega
    have hw : wr (flats ds ++ rest) (ds.length * sz) (flat u) = flats (ds ++ [u]) ++ rest.drop sz := by
      unfold wr
      rw [← hfl, List.take_left, hu.2, List.drop_append, List.drop_of_length_le (by omega)]
      simp [flats]
    rw [hw]
    have ih := bfill_all us (ds ++ [u]) (rest.drop sz) (fun y hy => hg y (List.mem_cons_of_mem _ hy)) (fun y hy => by
      rcases List.mem_append.1 hy with h | h
      · exact hd y h
      · simp at h; subst h; exact hu.2) (by rw [List.length_drop, hr, List.length_cons, Nat.add_mul]; omega)
    rw [List.length_append, List.length_singleton] at ih
    rw [ih]
    simp
section
variable {P : Program} {r : RN} {o : Oper} {e : Val2} {σ : List IObj}
theorem run_buildSlice {D : DM} {ρ : List Slot} {T E : TypeId} {n : Nat} {parts : Array (Nat × Operand)} {z : Value} {sz bytes : Nat} {agg : Bool} (hT : P.underlying T = some (.slice E)) (hE : Ty P E agg z sz bytes) (hz : z.cells.size = sz) (hs : 0 < sz)
    (hn : n * sz ≤ 16777216) (us : List IV) (hus : us.length = n) (hp : parts.toList.map (fun p => (p.1, e p.2)) = (us.zipIdx 0).map fun p => (p.2, p.1)) (hg : Good sz us) (A : Act) (hA : ∀ p ∈ parts, VR D ρ (e p.2) (A.eval p.2)) (w : World) :
    ∃ vs : Array Value, (Instr.buildSlice T n (parts.map fun p => (p.1, A.eval p.2))).run P w = .ok (.slice (some ⟨w.heap.size, 0, none⟩) n n) (w.alloc (.cells vs E)) ∧ Rel2 D ρ (flats us) vs.toList := by
  have hzc : Rel2 D ρ (List.replicate (n * sz) IV.junk) ((Array.range (n * sz)).map (z.cells[· % z.cells.size]!)).toList := ⟨by simp, fun i u v e1 e2 => by
    have := List.eq_of_mem_replicate (List.mem_of_getElem? e1)
    subst this
    exact .junk _⟩
  have hb := bfill_all (sz := sz) us [] (List.replicate (n * sz) IV.junk) hg (fun _ h => by cases h) (by simp [hus])
  simp only [flats, List.flatMap_nil, List.nil_append, List.length_nil] at hb
  rw [← hp] at hb
  obtain ⟨res, hres, hrel⟩ := fill_of (D := D) (ρ := ρ) (fun i => some (i * sz, sz)) (parts.toList.map fun p => (p.1, e p.2)) (parts.toList.map fun p => (p.1, A.eval p.2)) _ _ _ (by simp) (fun i u v e1 e2 => by
    simp only [List.getElem?_map, Option.map_eq_some_iff] at e1 e2
    obtain ⟨p, hp1, rfl⟩ := e1
    obtain ⟨q, hq, rfl⟩ := e2
    rw [hp1] at hq
    cases hq
    exact ⟨rfl, hA p (by simpa using List.mem_of_getElem? hp1)⟩) hzc hb
  refine ⟨res, ?_, hrel⟩
  simp only [Instr.buildSlice, Sem.run_bind, run_underlying hT, Result.andThen_ok, hE.sizeOf]
  rw [if_neg (by omega)]
  have e1 : (parts.map fun (x : Nat × Operand) => (x.1, A.eval x.2)).toList = parts.toList.map fun p => (p.1, A.eval p.2) := by simp
  by_cases h0 : n * sz = 0
  · rw [if_pos h0]
    have hn0 : n = 0 := by rcases Nat.mul_eq_zero.1 h0 with h | h <;> omega
    subst hn0
    have : us = [] := List.eq_nil_of_length_eq_zero hus
    subst this
    have hp0 : parts.toList = [] := by simpa using hp
    simp only [Sem.run_bind, Sem.run_pure, Result.andThen_ok, e1, hp0, List.map_nil, Instr.fill]
    have : res = #[] := by
      have := hrel.1
      exact Array.eq_empty_of_size_eq_zero (by simpa using this.symm)
    subst this
    simp [newRow, Sem.run_bind, Result.andThen, Sem.run_pure, Array.range_zero']
  · rw [if_neg h0]
    simp only [Sem.run_bind, Sem.run_pure, Result.andThen_ok, hE.zero, e1, hres]
    simp [newRow, Sem.run_bind, Result.andThen, Sem.run_pure]
/-- A slice's literal, done at once. -/
theorem op_lit {T E : TypeId} {n : Nat} {parts : Array (Nat × Operand)} {z : Value} {sz bytes : Nat} {agg : Bool} {us : List IV} (hT : P.underlying T = some (.slice E)) (hE : Ty P E agg z sz bytes) (hz : z.cells.size = sz) (hs : 0 < sz) (ho : o.op = .buildSlice T n parts)
    (hp : parts.toList.map (fun p => (p.1, e p.2)) = (us.zipIdx 0).map fun p => (p.2, p.1)) (hus : us.length = n) (hn : n * sz ≤ 16777216) (hg : Good sz us) : OpQ P r o e σ (.sl true us) σ := by
  refine opk_val (by rw [ho]; rfl) fun W0 D ρ w A hs' ha => ?_
  obtain ⟨vs, hrun, hrel⟩ := run_buildSlice (D := D) (ρ := ρ) hT hE hz hs hn us hus hp hg A (fun p hp => ha _ (by
    simp only [ho, Op.operands, List.mem_toArray, List.mem_map]
    exact ⟨p, by simpa using hp, rfl⟩)) w
  obtain ⟨h1, h2⟩ := hs'.frz vs E (w.alloc (.cells vs E)) rfl rfl rfl rfl
  have hlen : (flats us).length = vs.toList.length := hrel.1
  refine ⟨_, ρ, .sl true us, _, σ, _, ?_, h2, h1, St.vr_new (σ := σ) (W0 := W0) (sz := sz) (c := n) h2 (by rw [hlen, List.take_length]; exact hrel) (by omega) ?_ (fun _ => hus.symm), rfl, rfl⟩
  · simp only [execOp, ho, Sem.run_bind, hrun, Result.andThen_ok, Sem.run_pure, hus]
  · have : n ≤ n * sz := Nat.le_mul_of_pos_right _ hs
    simp [maxLen]
    omega

/-! ### rows of the call's own -/
theorem hblk_own {v : Value} {g : Nat} (h : hblk v = some g) : v.ownBlock = some g := by
  cases v with
  | slice a n c =>
    cases a with
    | none => cases h
    | some a =>
      simp only [hblk] at h
      split at h
      · cases h
      · simpa [Value.ownBlock] using h
  | _ => cases h
theorem run_app {t E ty : TypeId} {z : Value} {sz bytes n0 : Nat} {agg : Bool} {w : World} {v : Value} {n : Nat} {vs : List Value} (hT : P.underlying t = some (.slice E)) (hE : Ty P E agg z sz bytes) (hz : z.cells.size = sz) (hs : 0 < sz) (hr : RowOk w n0 E sz v n vs)
    (A : Option Addr) (m c : Nat) (news : List Value) (hl : news.length = m * sz) (hA : 0 < m → ∃ a, A = some a ∧ ∀ (j : Nat) u, news[j]? = some u → w.cell? (a.add j) = some u) (h1 : ∀ u ∈ news, u.oneCell' = true)
    (hb : (n + m) * bytes ≤ 140737488355328) (hnm : n + m ≤ 140737488355328) (hbase : n0 ≤ w.heap.size) :
    ∃ v' w', (Builtin.append_ #[t, t] ty #[v, .slice A m c]).run P w = .ok v' w' ∧ RowOk w' n0 E sz v' (n + m) (vs ++ news) ∧ w.grownBy w' (hblk v) ∧ (m = 0 → v' = v) ∧ (hblk v' = hblk v ∨ (hblk v' = some w.heap.size ∧ w.heap.size < w'.heap.size)) := by
  obtain ⟨i, hi, hiz, his, hib⟩ := hE.info
  subst his
  subst hib
  have hmax : n + m ≤ maxLen := by simp only [maxLen]; omega
  by_cases hm : m = 0
  · subst hm
    have hn : news = [] := List.eq_nil_of_length_eq_zero (by simpa using hl)
    subst hn
    refine ⟨v, w, ?_, by simpa using hr, World.grownBy.refl w _, fun _ => rfl, .inl rfl⟩
    have hv : ∃ B c', v = .slice B n c' ∧ n ≤ c' := by
      rcases hr.2 with ⟨rfl, B, rfl⟩ | ⟨g, cap, cur, _, rfl, _, _, h, _⟩
      · exact ⟨B, 0, rfl, Nat.le_refl _⟩
      · exact ⟨_, cap, rfl, h⟩
    obtain ⟨B, c', rfl, hc'⟩ := hv
    have hf : (Builtin.firstCells i.size 0 (.slice A 0 c)).run P w = .ok #[] w := by
      cases A <;> simp [Builtin.firstCells, loadCells, loadCellsFrom]
    cases B <;> simp [Builtin.append_, run_underlying hT, sizeOf, typeInfo, hi, Builtin.lenOf, hc', hf, storeCells, Sem.run_bind, Result.andThen]
  · obtain ⟨a, rfl, hnews⟩ := hA (by omega)
    rcases hr.2 with ⟨rfl, B, rfl⟩ | ⟨g, cap, cur, hcap, rfl, hg0, hh, hnc, hcm, hcs, htake⟩
    · -- nothing there yet
      have hvs : vs = [] := List.eq_nil_of_length_eq_zero (by simpa using hr.1)
      subst hvs
      have hrun : (Builtin.append_ #[t, t] ty #[.slice B 0 0, .slice (some a) m c]).run P w = .ok (.slice (some ⟨w.heap.size, 0, none⟩) m (grownCap w m 0 E))
          (w.drew.alloc (.cells (news.toArray ++ Builtin.zeroCells z.cells (grownCap w m 0 E - m)) E)) := by
        cases B with
        | none => exact run_append_nil (P := P) w t ty E i z hT hi hiz a m c news hl hnews (by omega) (by simp only [Nat.zero_add] at hnm; omega) (by simp only [Nat.zero_add] at hb; omega)
        | some b =>
          have := run_append_grow (P := P) w t ty E i z hT hi hiz b 0 0 [] (by simp) (fun j u h => by simp at h) a m c news hl hnews (by omega) (by omega) (growslice_fits (by omega) hb)
          simpa using this
      have hge := grownCap_ge w m 0 E
      have hle := grownCap_le_maxLen w m 0 E (by omega)
      refine ⟨_, _, hrun, ⟨by simp [hl], .inr ⟨w.heap.size, grownCap w m 0 E, _, by omega, by simp, by simpa using hbase, heap_alloc_new w.drew _, by omega, hle, ?_, ?_⟩⟩, ⟨rfl, rfl, rfl, by simp, fun k hk _ => Below.heap_alloc w.drew _ k hk⟩, fun h => absurd h hm, .inr ⟨?_, by simp⟩⟩
      · simp only [Array.size_append, List.size_toArray, size_zeroCells, hz, hl, ← Nat.add_mul]
        congr 1
        omega
      · simp only [Array.toList_append, Nat.zero_add, List.nil_append]
        rw [← hl]
        exact List.take_left
      · simp [hblk]
        omega
    · have hown : w.ownsRow n0 E i.size (.slice (some ⟨g, 0, none⟩) n cap) n vs := ⟨hr.1, .inr ⟨g, cap, cur, rfl, hg0, hh, hnc, hcm, hcs, htake⟩⟩
      obtain ⟨v', w', hrun, hown', hgrow, hnil, hat⟩ := run_append_own_at (P := P) w n0 t ty E i z i.size i.bytes hT hi hiz rfl rfl hz hs _ n vs hown a m c news hl hnews h1 hmax hb hbase
      have hbk : hblk (.slice (some ⟨g, 0, none⟩) n cap) = some g := by simp [hblk]; omega
      refine ⟨v', w', hrun, ⟨hown'.1, ?_⟩, by rw [hbk]; exact hgrow, fun h => absurd h hm, ?_⟩
      · rcases hown'.2 with ⟨h2, h3⟩ | ⟨g', cap', cur', h2, h3, h4, h5, h6, h7, h8⟩
        · omega
        · exact .inr ⟨g', cap', cur', by omega, h2, h3, h4, h5, h6, h7, h8⟩
      · rcases hown'.2 with ⟨h2, h3⟩ | ⟨g', cap', cur', h2, h3, h4, h5, h6, h7, h8⟩
        · omega
        · subst h2
          have hb' : hblk (.slice (some ⟨g', 0, none⟩) (n + m) cap') = some g' := by simp [hblk]; omega
          rw [hbk, hb']
          have hlt := (Array.getElem?_eq_some_iff.1 h4).1
          rcases hat with h | h
          · left; simpa [Value.ownBlock] using h
          · right
            simp only [Value.ownBlock, Option.some.injEq] at h
            subst h
            exact ⟨rfl, hlt⟩
theorem Slot.le_row {v v' : Value} {n n' : Nat} (h : n ≤ n') (k : n = n' → v = v') : Slot.le (.row v n) (.row v' n') := ⟨h, k⟩
theorem St.rowset {W0 : Base} {D : DM} {ρ : List Slot} {w w' : World} (h : St W0 D ρ σ w) {k n n' : Nat} {v v' : Value} (hk : ρ[k]? = some (.row v n)) (hg : w.grownBy w' (hblk v)) (hle : n ≤ n') (heq : n = n' → v = v')
    (hb : hblk v' = hblk v ∨ (hblk v' = some w.heap.size ∧ w.heap.size < w'.heap.size)) (O : IObj) (hO : Ext D ρ D (ρ.set k (.row v' n')) → ObjOk 0 D (ρ.set k (.row v' n')) w' (.row v' n') O) :
    St W0 D (ρ.set k (.row v' n')) (σ.set k O) w' ∧ Ext D ρ D (ρ.set k (.row v' n')) := by
  have hkl := (List.getElem?_eq_some_iff.1 hk).1
  have x : Ext D ρ D (ρ.set k (.row v' n')) := ⟨fun _ _ _ h => h, fun j s e => by
    by_cases hj : j = k
    · subst hj
      rw [hk] at e
      cases e
      exact ⟨_, List.getElem?_set_self hkl, Slot.le_row hle heq⟩
    · exact ⟨s, by rw [List.getElem?_set_ne (Ne.symm hj)]; exact e, Slot.le_refl s⟩⟩
  have hnew : ∀ b, hblk v' = some b → W0.free b ∧ b < w'.heap.size ∧ (∀ o, D b o = none) ∧ (∀ (j : Nat) s, j ≠ k → ρ[j]? = some s → s.blk ≠ some b) := by
    intro b e
    rcases hb with hb | ⟨hb, hlt⟩
    · rw [hb] at e
      obtain ⟨h1, h2, h3⟩ := h.own k _ b hk e
      exact ⟨h1, Nat.lt_of_lt_of_le h2 hg.size, h3, fun j s hj hs hsb => hj (h.inj j k s _ b hs hk hsb e)⟩
    · rw [hb] at e
      cases e
      refine ⟨h.fresh0, hlt, fun o => ?_, fun j s hj hs hsb => ?_⟩
      · cases e : D w.heap.size o with
        | none => rfl
        | some v => exact absurd (World.block_lt_of_cell? w _ (h.dc _ _ _ e)) (by simp)
      · have := (h.own j s _ hs hsb).2.1
        omega
  refine ⟨h.change x ?_ (fun i => hblk v = some i) (fun i hi => (h.own k _ i hk hi).2.2) (fun i hi hn => hg.block i hi fun e => hn e.symm) (fun b o v e => .inl e) (by simp [h.len]) (fun j s o e e' => ?_) (fun j s b e hsb => ?_) (fun i j s t b e1 e2 h1 h2 => ?_), x⟩
  · exact h.below.on W0.hf hg.os hg.tape hg.output hg.size fun i hi hn => hg.block i hi fun e => hn ((h.own k _ i hk e.symm).1)
  · by_cases hj : j = k
    · subst hj
      rw [List.getElem?_set_self hkl] at e
      rw [List.getElem?_set_self (by rw [← h.len]; exact hkl)] at e'
      cases e; cases e'
      exact .inr (hO x)
    · rw [List.getElem?_set_ne (Ne.symm hj)] at e e'
      exact .inl ⟨e, e', fun b hsb hx => hj (h.inj j k s _ b e hk hsb hx)⟩
  · by_cases hj : j = k
    · subst hj
      rw [List.getElem?_set_self hkl] at e
      cases e
      obtain ⟨h1, h2, h3, _⟩ := hnew b hsb
      exact ⟨h1, h2, h3⟩
    · rw [List.getElem?_set_ne (Ne.symm hj)] at e
      obtain ⟨h1, h2, h3⟩ := h.own j s b e hsb
      exact ⟨h1, Nat.lt_of_lt_of_le h2 hg.size, h3⟩
  · by_cases hi : i = k <;> by_cases hj : j = k
    · omega
    · subst hi
      rw [List.getElem?_set_self hkl] at e1
      rw [List.getElem?_set_ne (Ne.symm hj)] at e2
      cases e1
      exact absurd h2 ((hnew b h1).2.2.2 j t hj e2)
    · subst hj
      rw [List.getElem?_set_self hkl] at e2
      rw [List.getElem?_set_ne (Ne.symm hi)] at e1
      cases e2
      exact absurd h1 ((hnew b h2).2.2.2 i s hi e1)
    · rw [List.getElem?_set_ne (Ne.symm hi)] at e1
      rw [List.getElem?_set_ne (Ne.symm hj)] at e2
      exact h.inj i j s t b e1 e2 h1 h2
theorem St.pushRow {W0 : Base} {D : DM} {ρ : List Slot} {w w' : World} (h : St W0 D ρ σ w) {n : Nat} {v : Value} (hg : w.grownBy w' none) (hb : hblk v = none ∨ (hblk v = some w.heap.size ∧ w.heap.size < w'.heap.size)) (O : IObj)
    (hO : Ext D ρ D (ρ ++ [.row v n]) → ObjOk 0 D (ρ ++ [.row v n]) w' (.row v n) O) : St W0 D (ρ ++ [.row v n]) (σ ++ [O]) w' ∧ Ext D ρ D (ρ ++ [.row v n]) := by
  have x : Ext D ρ D (ρ ++ [.row v n]) := ⟨fun _ _ _ h => h, fun k s e => ⟨s, by rw [List.getElem?_append_left (List.getElem?_eq_some_iff.1 e).1]; exact e, Slot.le_refl s⟩⟩
  have hat : ∀ (k : Nat) s, (ρ ++ [Slot.row v n])[k]? = some s → ρ[k]? = some s ∨ (k = ρ.length ∧ s = .row v n) := by
    intro k s e
    rcases Nat.lt_or_ge k ρ.length with hk | hk
    · rw [List.getElem?_append_left hk] at e; exact .inl e
    · rw [List.getElem?_append_right hk] at e
      have : k - ρ.length = 0 := by
        have := (List.getElem?_eq_some_iff.1 e).1
        simp at this
        omega
      rw [this] at e
      simp at e
      exact .inr ⟨by omega, e.symm⟩
  have hfree : ∀ o, D w.heap.size o = none := fun o => by
    cases e : D w.heap.size o with
    | none => rfl
    | some v => exact absurd (World.block_lt_of_cell? w _ (h.dc _ _ _ e)) (by simp)
  have hbs : ∀ b, hblk v = some b → b = w.heap.size ∧ w.heap.size < w'.heap.size := by
    intro b e
    rcases hb with hb | ⟨hb, hlt⟩
    · rw [hb] at e; cases e
    · rw [hb] at e; cases e; exact ⟨rfl, hlt⟩
  refine ⟨h.change x (h.below.on W0.hf hg.os hg.tape hg.output hg.size fun i hi _ => hg.block i hi (by simp)) (fun _ => False) (fun _ hf => hf.elim) (fun i hi _ => hg.block i hi (by simp)) (fun b o v e => .inl e) (by simp [h.len]) (fun k s o' e e' => ?_) (fun k s b e hsb => ?_) (fun j k s t b e e' hsb hsb' => ?_), x⟩
  · rcases hat k s e with e1 | ⟨rfl, rfl⟩
    · rw [List.getElem?_append_left (by rw [← h.len]; exact (List.getElem?_eq_some_iff.1 e1).1)] at e'
      exact .inl ⟨e1, e', fun _ _ hf => hf⟩
    · rw [List.getElem?_append_right (by rw [h.len]; exact Nat.le_refl _), h.len, Nat.sub_self] at e'
      simp at e'
      subst e'
      exact .inr (hO x)
  · rcases hat k s e with e1 | ⟨rfl, rfl⟩
    · obtain ⟨h1, h2, h3⟩ := h.own k s b e1 hsb
      exact ⟨h1, Nat.lt_of_lt_of_le h2 hg.size, h3⟩
    · obtain ⟨rfl, hlt⟩ := hbs b hsb
      exact ⟨h.fresh0, hlt, hfree⟩
  · rcases hat j s e with e1 | ⟨rfl, rfl⟩ <;> rcases hat k t e' with e2 | ⟨rfl, rfl⟩
    · exact h.inj j k s t b e1 e2 hsb hsb'
    · have := (h.own j s b e1 hsb).2.1
      have := (hbs b hsb').1
      omega
    · have := (h.own k t b e2 hsb').2.1
      have := (hbs b hsb).1
      omega
    · rfl
end
end Go.QL
end

section
/- QL, part h: append; rows of the call's own are read, written, done. Plain; no program in sight. -/
set_option linter.unusedVariables false
set_option linter.unusedSimpArgs false
namespace Go.QL
open Go Go.RowKit
section
variable {P : Program} {r : RN} {o : Oper} {e : Val2} {σ : List IObj}
theorem flat_one {y : IV} (h : y.solid = true) : ∀ u ∈ flat y, u.one = true := by
  cases y with
  | agg xs => exact fun u hu => List.all_eq_true.1 h u hu
  | _ =>
    intro u hu
    simp only [flat, List.mem_singleton] at hu
    subst hu
    exact h
/-- What an append's second operand holds. -/
def srcOf : IV → Option (List IV)
  | .sl _ ys => some ys
  | .nils => some []
  | _ => none
theorem src_inv {W0 : Base} {D : DM} {ρ : List Slot} {w : World} (hs : St W0 D ρ σ w) {u : IV} {ys : List IV} {v : Value} {sz : Nat} (h : VR D ρ u v) (hu : srcOf u = some ys) (hg : Good sz ys) (hsz : 0 < sz) :
    ∃ (A : Option Addr) (c : Nat) (news : List Value), v = .slice A ys.length c ∧ news.length = ys.length * sz ∧ Rel2 D ρ (flats ys) news ∧ (∀ x ∈ news, x.oneCell' = true) ∧
      (0 < ys.length → ∃ a, A = some a ∧ ∀ (j : Nat) u, news[j]? = some u → w.cell? (a.add j) = some u) := by
  have key : ∀ full, u = .sl full ys → ∃ (A : Option Addr) (c : Nat) (news : List Value), v = .slice A ys.length c ∧ news.length = ys.length * sz ∧ Rel2 D ρ (flats ys) news ∧ (∀ x ∈ news, x.oneCell' = true) ∧
      (0 < ys.length → ∃ a, A = some a ∧ ∀ (j : Nat) u, news[j]? = some u → w.cell? (a.add j) = some u) := by
    rintro full rfl
    obtain ⟨A, c, b, of, g, h1, hc, hm, hf, hA, hd, hv⟩ := h.sl_inv
    have hfl := flats_length fun y hy => (hg y hy).2
    have hrel : Rel2 D ρ (flats ys) ((List.range (flats ys).length).map g) := ⟨by simp, fun i u v e1 e2 => by
      have hi := (List.getElem?_eq_some_iff.1 e1).1
      simp [hi] at e2
      subst e2
      exact hv i u e1⟩
    refine ⟨A, c, (List.range (flats ys).length).map g, h1, by simp [hfl], hrel, fun x hx => ?_, fun hp => ?_⟩
    · obtain ⟨j, hj, rfl⟩ := List.mem_map.1 hx
      have hj := List.mem_range.1 hj
      have hget : (flats ys)[j]? = some (flats ys)[j] := List.getElem?_eq_getElem hj
      refine (hv j _ hget).one ?_
      have hm := List.mem_of_getElem? hget
      obtain ⟨y, hy, hyj⟩ := List.mem_flatMap.1 hm
      have hsol := (hg y hy).1
      exact flat_one hsol _ hyj
    · refine ⟨_, hA (fun h => by subst h; simp at hp), fun j u e => ?_⟩
      have hj : j < (flats ys).length := by have := (List.getElem?_eq_some_iff.1 e).1; simpa using this
      simp [hj] at e
      subst e
      rw [Addr_add]
      exact hs.dc _ _ _ (hd j _ (List.getElem?_eq_getElem hj))
  cases u with
  | sl full zs =>
    simp only [srcOf, Option.some.injEq] at hu
    subst hu
    exact key full rfl
  | nils =>
    simp only [srcOf, Option.some.injEq] at hu
    subst hu
    exact ⟨none, 0, [], h.nils_inv, by simp, ⟨rfl, fun i u v e => by simp [flats] at e⟩, (fun x hx => by cases hx), (fun hp => by simp at hp)⟩
  | _ => cases hu
theorem Rel2.append {D : DM} {ρ : List Slot} {xs ys : List IV} {vs ws : List Value} (h : Rel2 D ρ xs vs) (k : Rel2 D ρ ys ws) : Rel2 D ρ (xs ++ ys) (vs ++ ws) := by
  have h1 := h.1
  refine ⟨by simp [h.1, k.1], fun i u v e e' => ?_⟩
  rcases Nat.lt_or_ge i xs.length with hi | hi
  · rw [List.getElem?_append_left hi] at e
    rw [List.getElem?_append_left (by omega)] at e'
    exact h.2 i u v e e'
  · rw [List.getElem?_append_right hi] at e
    rw [List.getElem?_append_right (by omega)] at e'
    exact k.2 _ u v e (by rw [h1]; exact e')
theorem exec_append {T E : TypeId} {A : Act} {w w' : World} {s x : Operand} {v' : Value} (ho : o.op = .call { callee := .builtin .append, args := #[s, x], argTypes := #[T, T] }) (h : (Builtin.append_ #[T, T] o.type #[A.eval s, A.eval x]).run P w = .ok v' w') :
    (execOp A.eval o).run P w = .ok (.value v') w' := by
  simp only [execOp, ho, resolve, invoke, builtin, Sem.run_bind, Sem.run_pure, Result.andThen_ok, List.map_toArray, List.map_cons, List.map_nil, h]
/-- append onto a row of the call's own. -/
theorem op_append {T E : TypeId} {s x : Operand} {z : Value} {sz bytes k n : Nat} {agg : Bool} {xs ys : List IV} (hT : P.underlying T = some (.slice E)) (hE : Ty P E agg z sz bytes) (hz : z.cells.size = sz) (hs : 0 < sz)
    (ho : o.op = .call { callee := .builtin .append, args := #[s, x], argTypes := #[T, T] }) (hx : e s = .row k n) (hy : srcOf (e x) = some ys) (hk : σ[k]? = some (.row E sz xs)) (hn : n = xs.length) (hg : Good sz ys)
    (hb : (xs.length + ys.length) * bytes ≤ 140737488355328) (hnm : xs.length + ys.length ≤ 140737488355328) : OpQ P r o e σ (.row k (xs.length + ys.length)) (σ.set k (.row E sz (xs ++ ys))) := by
  subst hn
  refine opk_val (by rw [ho]; rfl) fun W0 D ρ w A hst ha => ?_
  have h1 := ha s (by simp [ho, Op.operands, Call.operands]); rw [hx] at h1
  have h2 := ha x (by simp [ho, Op.operands, Call.operands])
  obtain ⟨B, c, hv, hrow⟩ := h1.row_inv
  have hkl := (List.getElem?_eq_some_iff.1 hk).1
  obtain ⟨sl, hsl⟩ : ∃ sl, ρ[k]? = some sl := ⟨_, List.getElem?_eq_getElem (by rw [hst.len]; exact hkl)⟩
  have hok := hst.ok k sl _ hsl hk
  cases sl with
  | box b => exact hok.elim
  | fix b => exact hok.elim
  | gone => exact hok.elim
  | row v0 n0 =>
    obtain ⟨rfl, hfl, _, vs, hro, hrel⟩ := hok
    have hveq : A.eval s = v0 := by
      unfold RowAt at hrow
      rw [hsl] at hrow
      exact hrow.2 rfl
    subst hveq
    obtain ⟨C, c', news, hxv, hnl, hnrel, hone, hread⟩ := src_inv hst h2 hy hg hs
    obtain ⟨v', w', hrun, hro', hgrow, hsame, hblk⟩ := run_app (P := P) (ty := o.type) hT hE hz hs hro C ys.length c' news hnl hread hone hb hnm (Nat.zero_le _)
    obtain ⟨h3, h4⟩ := hst.rowset (n' := xs.length + ys.length) (v' := v') hsl hgrow (by omega) (fun h => (hsame (by omega)).symm) hblk (.row E sz (xs ++ ys)) fun x => by
      refine ⟨by simp, fun y hy => ?_, hs, _, hro', by rw [flats_append]; exact (hrel.ext x).append (hnrel.ext x)⟩
      rcases List.mem_append.1 hy with h | h
      · exact hfl y h
      · exact (hg y h).2
    refine ⟨D, _, _, v', _, w', exec_append (E := E) ho (by rw [hxv]; exact hrun), h4, h3, ?_, rfl, rfl⟩
    have hv' : ∃ A' c', v' = .slice A' (xs.length + ys.length) c' := by
      rcases hro'.2 with ⟨h0, B', rfl⟩ | ⟨g, cap, cur, _, rfl, _⟩
      · exact ⟨B', 0, by rw [h0]⟩
      · exact ⟨_, cap, rfl⟩
    obtain ⟨A', c2, rfl⟩ := hv'
    refine .row k _ A' c2 ?_
    unfold RowAt
    rw [List.getElem?_set_self (by rw [hst.len]; exact hkl)]
    exact ⟨Nat.le_refl _, fun _ => rfl⟩
/-- append onto a nil slice (or one that has no room and no elements): a row of the call's own begins. -/
theorem op_append0 {T E : TypeId} {s x : Operand} {z : Value} {sz bytes : Nat} {agg : Bool} {ys : List IV} (hT : P.underlying T = some (.slice E)) (hE : Ty P E agg z sz bytes) (hz : z.cells.size = sz) (hs : 0 < sz)
    (ho : o.op = .call { callee := .builtin .append, args := #[s, x], argTypes := #[T, T] }) (hx : e s = .nils ∨ e s = .sl true []) (hy : srcOf (e x) = some ys) (hg : Good sz ys)
    (hb : ys.length * bytes ≤ 140737488355328) (hnm : ys.length ≤ 140737488355328) : OpQ P r o e σ (.row σ.length ys.length) (σ ++ [.row E sz ys]) := by
  refine opk_val (by rw [ho]; rfl) fun W0 D ρ w A hst ha => ?_
  have h1 := ha s (by simp [ho, Op.operands, Call.operands])
  have h2 := ha x (by simp [ho, Op.operands, Call.operands])
  have hv : ∃ B, A.eval s = .slice B 0 0 := by
    rcases hx with hx | hx <;> rw [hx] at h1
    · exact ⟨_, h1.nils_inv⟩
    · obtain ⟨B, c, _, _, _, h3, _, _, h4, _⟩ := h1.sl_inv
      have := h4 rfl
      simp only [List.length_nil] at this h3
      subst this
      exact ⟨B, h3⟩
  obtain ⟨B, hv⟩ := hv
  have hro : RowOk w 0 E sz (.slice B 0 0) 0 [] := ⟨by simp, .inl ⟨rfl, B, rfl⟩⟩
  obtain ⟨C, c', news, hxv, hnl, hnrel, hone, hread⟩ := src_inv hst h2 hy hg hs
  obtain ⟨v', w', hrun, hro', hgrow, hsame, hbk⟩ := run_app (P := P) (ty := o.type) hT hE hz hs hro C ys.length c' news hnl hread hone (by simpa using hb) (by omega) (Nat.zero_le _)
  have hb0 : hblk (.slice B 0 0) = none := by cases B <;> simp [hblk]
  rw [hb0] at hgrow hbk
  simp only [Nat.zero_add, List.nil_append] at hro'
  obtain ⟨h3, h4⟩ := hst.pushRow (n := ys.length) hgrow hbk (.row E sz ys) fun x => ⟨rfl, fun y hy => (hg y hy).2, hs, _, hro', hnrel.ext x⟩
  refine ⟨D, _, _, v', _, w', exec_append (E := E) ho (by rw [hv, hxv]; exact hrun), h4, h3, ?_, rfl, rfl⟩
  have hv' : ∃ A' c', v' = .slice A' ys.length c' := by
    rcases hro'.2 with ⟨h0, B', rfl⟩ | ⟨g, cap, cur, _, rfl, _⟩
    · exact ⟨B', 0, by rw [h0]⟩
    · exact ⟨_, cap, rfl⟩
  obtain ⟨A', c2, rfl⟩ := hv'
  refine .row _ _ A' c2 ?_
  unfold RowAt
  rw [← hst.len, List.getElem?_append_right (Nat.le_refl _), Nat.sub_self]
  exact ⟨Nat.le_refl _, fun _ => rfl⟩

/-! ### a row is done -/
theorem St.freeze {W0 : Base} {D : DM} {ρ : List Slot} {w : World} (h : St W0 D ρ σ w) {k : Nat} {E sz : Nat} {xs : List IV} (hk : σ[k]? = some (.row E sz xs)) :
    ∃ D', St W0 D' (ρ.set k .gone) (σ.set k .gone) w ∧ Ext D ρ D' (ρ.set k .gone) ∧ ∀ v, VR D ρ (.row k xs.length) v → VR D' (ρ.set k .gone) (.sl false xs) v := by
  have hkl := (List.getElem?_eq_some_iff.1 hk).1
  obtain ⟨sl, hsl⟩ : ∃ sl, ρ[k]? = some sl := ⟨_, List.getElem?_eq_getElem (by rw [h.len]; exact hkl)⟩
  have hok := h.ok k sl _ hsl hk
  cases sl with
  | box b => exact hok.elim
  | fix b => exact hok.elim
  | gone => exact hok.elim
  | row v0 n0 =>
    obtain ⟨rfl, hfl, hs, vs, hro, hrel⟩ := hok
    have hfll := flats_length hfl
    have hkl' : k < ρ.length := by rw [h.len]; exact hkl
    have hrest : ∀ (D' : DM), Ext D ρ D' (ρ.set k .gone) → (∀ b o v, D' b o = some v → D b o = some v ∨ (hblk v0 = some b ∧ w.cell? ⟨b, o, none⟩ = some v)) → St W0 D' (ρ.set k .gone) (σ.set k .gone) w := by
      intro D' x hD
      refine h.change x h.below (fun _ => False) (fun _ hf => hf.elim) (fun i hi _ => rfl) (fun b o v e => (hD b o v e).imp id fun q => ⟨(h.own k _ b hsl q.1).1, q.2⟩) (by simp [h.len]) (fun j s o e e' => ?_) (fun j s b e hb => ?_) (fun i j s t b e1 e2 h1 h2 => ?_)
      · by_cases hj : j = k
        · subst hj
          rw [List.getElem?_set_self hkl'] at e
          rw [List.getElem?_set_self hkl] at e'
          cases e; cases e'
          exact .inr trivial
        · rw [List.getElem?_set_ne (Ne.symm hj)] at e e'
          exact .inl ⟨e, e', fun _ _ hf => hf⟩
      · by_cases hj : j = k
        · subst hj
          rw [List.getElem?_set_self hkl'] at e
          cases e
          cases hb
        · rw [List.getElem?_set_ne (Ne.symm hj)] at e
          obtain ⟨h1, h2, h3⟩ := h.own j s b e hb
          refine ⟨h1, h2, fun o => ?_⟩
          cases e' : D' b o with
          | none => rfl
          | some v =>
            rcases hD b o v e' with h4 | ⟨h4, _⟩
            · rw [h3 o] at h4; cases h4
            · exact absurd (h.inj j k s _ b e hsl hb h4) hj
      · by_cases hi : i = k
        · subst hi
          rw [List.getElem?_set_self hkl'] at e1
          cases e1
          cases h1
        · by_cases hj : j = k
          · subst hj
            rw [List.getElem?_set_self hkl'] at e2
            cases e2
            cases h2
          · rw [List.getElem?_set_ne (Ne.symm hi)] at e1
            rw [List.getElem?_set_ne (Ne.symm hj)] at e2
            exact h.inj i j s t b e1 e2 h1 h2
    have hext : ∀ D' : DM, (∀ b o v, D b o = some v → D' b o = some v) → Ext D ρ D' (ρ.set k .gone) := fun D' hd => ⟨hd, fun j s e => by
      by_cases hj : j = k
      · subst hj
        rw [hsl] at e
        cases e
        exact ⟨.gone, List.getElem?_set_self hkl', trivial⟩
      · exact ⟨s, by rw [List.getElem?_set_ne (Ne.symm hj)]; exact e, Slot.le_refl s⟩⟩
    have hval : ∀ v, VR D ρ (.row k xs.length) v → v = v0 := by
      intro v hv
      obtain ⟨_, _, _, hrow⟩ := hv.row_inv
      unfold RowAt at hrow
      rw [hsl] at hrow
      exact hrow.2 rfl
    rcases hro.2 with ⟨h0, B, rfl⟩ | ⟨g, cap, cur, hcap, rfl, hg0, hh, hnc, hcm, hcs, htake⟩
    · have hx0 : xs = [] := List.eq_nil_of_length_eq_zero h0
      subst hx0
      refine ⟨D, hrest D (hext D fun _ _ _ h => h) (fun b o v e => .inl e), hext D fun _ _ _ h => h, fun v hv => ?_⟩
      rw [hval v hv]
      exact .sl false [] B 0 0 0 (fun _ => undef) (by simp) (by simp [maxLen]) (by simp) (fun h => absurd rfl h) (fun j u h => by simp [flats] at h) (fun j u h => by simp [flats] at h)
    · have hbk : hblk (.slice (some ⟨g, 0, none⟩) xs.length cap) = some g := by simp [hblk]; omega
      have hd : ∀ b o v, D b o = some v → (if b = g then cur[o]? else D b o) = some v := fun b o v e => by
        have hne : b ≠ g := fun h' => by
          subst h'
          have := (h.own k _ b hsl hbk).2.2 o
          rw [this] at e
          cases e
        rw [if_neg hne]
        exact e
      have x := hext (fun b o => if b = g then cur[o]? else D b o) hd
      refine ⟨_, hrest _ x (fun b o v e => ?_), x, fun v hv => ?_⟩
      · split at e
        · rename_i hb
          subst hb
          exact .inr ⟨hbk, by rw [cells_at hh]; exact e⟩
        · exact .inl e
      · rw [hval v hv]
        have hlen : (flats xs).length = vs.length := hrel.1
        have hget : ∀ (j : Nat) u, (flats xs)[j]? = some u → cur[j]? = some (cur.getD j undef) ∧ vs[j]? = some (cur.getD j undef) := by
          intro j u e
          have hj := (List.getElem?_eq_some_iff.1 e).1
          have hj2 : j < cur.size := by
            rw [hcs]
            have : xs.length * sz ≤ cap * sz := Nat.mul_le_mul_right _ hnc
            omega
          have e1 : cur[j]? = some (cur.getD j undef) := by simp [Array.getD, hj2]
          refine ⟨e1, ?_⟩
          rw [← htake, List.getElem?_take, if_pos (by omega)]
          simpa using e1
        refine .sl false xs _ cap g 0 (fun j => cur.getD j undef) hnc hcm (by simp) (fun _ => rfl) (fun j u e => ?_) (fun j u e => ?_)
        · simp only [Nat.zero_add, if_true]
          exact (hget j u e).1
        · exact (hrel.2 j u _ e (hget j u e).2).ext x
/-- In the frame: slot t's row is done. -/
theorem il_freeze {ops : Array Oper} {Q : IPost} {rest : List Oper} {a : IA} (t : Nat) {k n : Nat} {E sz : Nat} {xs : List IV} (ht : a.tmps.getD t .junk = .row k n) (hk : σ[k]? = some (.row E sz xs)) (hn : n = xs.length)
    (h : IL P r ops Q rest (a.put (some t) (.sl false xs)) (σ.set k .gone)) : IL P r ops Q rest a σ := by
  intro W0 D ρ w A hs hf
  subst hn
  obtain ⟨D', h1, h2, h3⟩ := hs.freeze hk
  have hv := hf.ev (.tmp t)
  simp only [ev, ht] at hv
  have hv2 := h3 _ hv
  have hput := (hf.ext h2).put hv2 (some t)
  have hsame : A.put (some t) (A.eval (.tmp t)) = A := by
    unfold Act.put Act.eval
    simp only
    congr 1
    apply Array.ext
    · simp
    · intro i hi1 hi2
      by_cases hit : t = i
      · subst hit
        simp [Array.getD, hi2]
      · rw [Array.getElem_setIfInBounds_ne _ hit]
  rw [hsame] at hput
  exact il_op.wpListIn_lift (fun e A w q => lift_ext h2 q) (h W0 D' _ w A h1 hput)
theorem ic_freeze {Q : IPost} {c : Code} {a : IA} (t : Nat) {k n : Nat} {E sz : Nat} {xs : List IV} (ht : a.tmps.getD t .junk = .row k n) (hk : σ[k]? = some (.row E sz xs)) (hn : n = xs.length)
    (h : IC P r c Q (a.put (some t) (.sl false xs)) (σ.set k .gone)) : IC P r c Q a σ := by
  intro W0 D ρ w A hs hf
  subst hn
  obtain ⟨D', h1, h2, h3⟩ := hs.freeze hk
  have hv := hf.ev (.tmp t)
  simp only [ev, ht] at hv
  have hv2 := h3 _ hv
  have hput := (hf.ext h2).put hv2 (some t)
  have hsame : A.put (some t) (A.eval (.tmp t)) = A := by
    unfold Act.put Act.eval
    simp only
    congr 1
    apply Array.ext
    · simp
    · intro i hi1 hi2
      by_cases hit : t = i
      · subst hit
        simp [Array.getD, hi2]
      · rw [Array.getElem_setIfInBounds_ne _ hit]
  rw [hsame] at hput
  exact wpIn_mono (h W0 D' _ w A h1 hput) fun e A w q => lift_ext h2 q
/-- A box is done. -/
theorem St.freezeBox {W0 : Base} {D : DM} {ρ : List Slot} {w : World} (h : St W0 D ρ σ w) {k : Nat} {T : TypeId} {cs : List IV} (hk : σ[k]? = some (.box T cs)) :
    ∃ D' ρ', St W0 D' ρ' (σ.set k .gone) w ∧ Ext D ρ D' ρ' ∧ ∀ off v, VR D ρ (.ptr k off) v → VR D' ρ' (.dptr (cs.drop off)) v := by
  have hkl := (List.getElem?_eq_some_iff.1 hk).1
  obtain ⟨sl, hsl⟩ : ∃ sl, ρ[k]? = some sl := ⟨_, List.getElem?_eq_getElem (by rw [h.len]; exact hkl)⟩
  have hok := h.ok k sl _ hsl hk
  cases sl with
  | row => exact hok.elim
  | fix b => exact hok.elim
  | gone => exact hok.elim
  | box g =>
    obtain ⟨cur, hh, hrel⟩ := hok
    have hkl' : k < ρ.length := by rw [h.len]; exact hkl
    have hd : ∀ b o v, D b o = some v → (if b = g then cur[o]? else D b o) = some v := fun b o v e => by
      have hne : b ≠ g := fun h' => by
        subst h'
        have := (h.own k _ b hsl rfl).2.2 o
        rw [this] at e
        cases e
      rw [if_neg hne]
      exact e
    have x : Ext D ρ (fun b o => if b = g then cur[o]? else D b o) (ρ.set k .gone) := ⟨hd, fun j s e => by
      by_cases hj : j = k
      · subst hj
        rw [hsl] at e
        cases e
        exact ⟨.gone, List.getElem?_set_self hkl', .inr rfl⟩
      · exact ⟨s, by rw [List.getElem?_set_ne (Ne.symm hj)]; exact e, Slot.le_refl s⟩⟩
    have hD : ∀ b o v, (if b = g then cur[o]? else D b o) = some v → D b o = some v ∨ (b = g ∧ w.cell? ⟨b, o, none⟩ = some v) := fun b o v e => by
      split at e
      · rename_i hb
        subst hb
        exact .inr ⟨rfl, by rw [cells_at hh]; exact e⟩
      · exact .inl e
    refine ⟨_, ρ.set k .gone, ?_, x, fun off v hv => ?_⟩
    · refine h.change x h.below (fun _ => False) (fun _ hf => hf.elim) (fun i hi _ => rfl) (fun b o v e => (hD b o v e).imp id fun (q : b = g ∧ w.cell? ⟨b, o, none⟩ = some v) => ⟨q.1 ▸ (h.own k _ g hsl rfl).1, q.2⟩) (by simp [h.len]) (fun j s o e e' => ?_) (fun j s b e hb => ?_) (fun i j s t b e1 e2 h1 h2 => ?_)
      · by_cases hj : j = k
        · subst hj
          rw [List.getElem?_set_self hkl'] at e
          rw [List.getElem?_set_self hkl] at e'
          cases e; cases e'
          exact .inr trivial
        · rw [List.getElem?_set_ne (Ne.symm hj)] at e e'
          exact .inl ⟨e, e', fun _ _ hf => hf⟩
      · by_cases hj : j = k
        · subst hj
          rw [List.getElem?_set_self hkl'] at e
          cases e
          cases hb
        · rw [List.getElem?_set_ne (Ne.symm hj)] at e
          obtain ⟨h1, h2, h3⟩ := h.own j s b e hb
          refine ⟨h1, h2, fun o => ?_⟩
          have hne : b ≠ g := fun e2 => hj (h.inj j k s _ b e hsl hb (by rw [e2]; rfl))
          show (if b = g then cur[o]? else D b o) = none
          rw [if_neg hne]
          exact h3 o
      · by_cases hi : i = k
        · subst hi
          rw [List.getElem?_set_self hkl'] at e1
          cases e1
          cases h1
        · by_cases hj : j = k
          · subst hj
            rw [List.getElem?_set_self hkl'] at e2
            cases e2
            cases h2
          · rw [List.getElem?_set_ne (Ne.symm hi)] at e1
            rw [List.getElem?_set_ne (Ne.symm hj)] at e2
            exact h.inj i j s t b e1 e2 h1 h2
    · obtain ⟨b, hb, hv⟩ := h.ptr_at hk hv
      rw [hsl] at hb
      cases hb
      subst hv
      have hget : ∀ (j : Nat) u, (cs.drop off)[j]? = some u → cur[off + j]? = some (cur.getD (off + j) undef) ∧ VR D ρ u (cur.getD (off + j) undef) := by
        intro j u e
        rw [List.getElem?_drop] at e
        have hj := (List.getElem?_eq_some_iff.1 e).1
        have hj2 : off + j < cur.size := by have := hrel.1; simp at this; omega
        have e1 : cur[off + j]? = some (cur.getD (off + j) undef) := by simp [Array.getD, hj2]
        exact ⟨e1, hrel.2 (off + j) u _ e (by simpa using e1)⟩
      refine .dptr _ g off (fun j => cur.getD (off + j) undef) (fun j u e => ?_) (fun j u e => ?_)
      · rw [if_pos rfl]
        exact (hget j u e).1
      · exact (hget j u e).2.ext x
/-- What a value turns to when block k is done. -/
inductive Fz (k : Nat) (cs : List IV) : IV → IV → Prop
  | refl (u : IV) : Fz k cs u u
  | ptr (off : Nat) : Fz k cs (.ptr k off) (.dptr (cs.drop off))
  | fn (f : Fn) (xs ys ys' : List IV) (hl : ys'.length = ys.length) (h : ∀ (i : Nat) (u u' : IV), ys[i]? = some u → ys'[i]? = some u' → u' = u ∨ ∃ off, u = IV.ptr k off ∧ u' = IV.dptr (cs.drop off)) : Fz k cs (.fn f xs ys) (.fn f xs ys')
/-- .. as a function. -/
def fz1 (k : Nat) (cs : List IV) : IV → IV
  | .ptr j off => if j = k then .dptr (cs.drop off) else .ptr j off
  | u => u
def fz (k : Nat) (cs : List IV) : IV → IV
  | .fn f xs ys => .fn f xs (ys.map (fz1 k cs))
  | u => fz1 k cs u
theorem fz1_spec (k : Nat) (cs : List IV) (u : IV) : fz1 k cs u = u ∨ ∃ off, u = .ptr k off ∧ fz1 k cs u = .dptr (cs.drop off) := by
  cases u with
  | ptr j off =>
    simp only [fz1]
    by_cases h : j = k
    · subst h; exact .inr ⟨off, rfl, by rw [if_pos rfl]⟩
    · rw [if_neg h]; exact .inl rfl
  | _ => exact .inl rfl
theorem fz_spec (k : Nat) (cs : List IV) (u : IV) : Fz k cs u (fz k cs u) := by
  have one : ∀ u, Fz k cs u (fz1 k cs u) := fun u => by
    rcases fz1_spec k cs u with h | ⟨off, rfl, h⟩
    · rw [h]; exact .refl u
    · rw [h]; exact .ptr off
  cases u with
  | fn f xs ys =>
    refine .fn f xs ys _ (by simp) fun i u u' e e' => ?_
    rw [List.getElem?_map, e] at e'
    cases e'
    exact fz1_spec k cs u
  | _ => exact one _
theorem Fz.vr {k : Nat} {cs : List IV} {D D' : DM} {ρ ρ' : List Slot} (x : Ext D ρ D' ρ') (h : ∀ off v, VR D ρ (.ptr k off) v → VR D' ρ' (.dptr (cs.drop off)) v) {u u' : IV} (hz : Fz k cs u u') {v : Value} (hv : VR D ρ u v) : VR D' ρ' u' v := by
  cases hz with
  | refl => exact hv.ext x
  | ptr off => exact h off v hv
  | fn f xs ys ys' hl hz =>
    cases hv with
    | fn _ _ _ vs us h1 h2 h3 h4 =>
      refine .fn f xs ys' vs us h1 (by rw [hl]; exact h2) (fun i u v e e' => (h3 i u v e e').ext x) (fun i u' v e e' => ?_)
      have hi : i < ys.length := by rw [← hl]; exact (List.getElem?_eq_some_iff.1 e).1
      rcases hz i _ u' (List.getElem?_eq_getElem hi) e with h5 | ⟨off, h5, h6⟩
      · rw [h5]; exact (h4 i _ v (List.getElem?_eq_getElem hi) e').ext x
      · subst h6
        refine h off v ?_
        rw [← h5]
        exact h4 i _ v (List.getElem?_eq_getElem hi) e'
theorem Rel2.fz {k : Nat} {cs : List IV} {D D' : DM} {ρ ρ' : List Slot} (x : Ext D ρ D' ρ') (h : ∀ off v, VR D ρ (.ptr k off) v → VR D' ρ' (.dptr (cs.drop off)) v) {us : List IV} {vs : List Value} (hr : Rel2 D ρ us vs) : Rel2 D' ρ' (us.map (fz k cs)) vs :=
  ⟨by simp [hr.1], fun i u v e e' => by
    rw [List.getElem?_map, Option.map_eq_some_iff] at e
    obtain ⟨y, hy, rfl⟩ := e
    exact (fz_spec k cs y).vr x h (hr.2 i y v hy e')⟩
theorem il_fbox {ops : Array Oper} {Q : IPost} {rest : List Oper} {t t' : List IV} {ds : List IDef} {σ' : List IObj} (k : Nat) {T : TypeId} {cs : List IV} (hk : σ[k]? = some (.box T cs)) (ht : t.map (fz k cs) = t') (hσ : σ.set k .gone = σ')
    (h : IL P r ops Q rest ⟨t', ds⟩ σ') : IL P r ops Q rest ⟨t, ds⟩ σ := by
  subst ht; subst hσ
  intro W0 D ρ w A hs hf
  obtain ⟨D', ρ', h1, h2, h3⟩ := hs.freezeBox hk
  exact il_op.wpListIn_lift (fun e A w q => lift_ext h2 q) (h W0 D' ρ' w A h1 ⟨hf.t.fz h2 h3, hf.d.ext h2⟩)
theorem ic_fbox {Q : IPost} {c : Code} {t t' : List IV} {ds : List IDef} {σ' : List IObj} (k : Nat) {T : TypeId} {cs : List IV} (hk : σ[k]? = some (.box T cs)) (ht : t.map (fz k cs) = t') (hσ : σ.set k .gone = σ')
    (h : IC P r c Q ⟨t', ds⟩ σ') : IC P r c Q ⟨t, ds⟩ σ := by
  subst ht; subst hσ
  intro W0 D ρ w A hs hf
  obtain ⟨D', ρ', h1, h2, h3⟩ := hs.freezeBox hk
  exact wpIn_mono (h W0 D' ρ' w A h1 ⟨hf.t.fz h2 h3, hf.d.ext h2⟩) fun e A w q => lift_ext h2 q
/-- An empty slice in box k is a row of the call's own. -/
theorem ic_row0 {Q : IPost} {c : Code} {a : IA} {σ' : List IObj} (k off : Nat) (E sz : Nat) {T : TypeId} {cs : List IV} (hsz : decide (0 < sz) = true) (hk : σ[k]? = some (.box T cs)) (ho : cs[off]? = some .nils) (hσ : σ.set k (.box T (cs.set off (.row σ.length 0))) ++ [.row E sz []] = σ')
    (h : IC P r c Q a σ') : IC P r c Q a σ := by
  subst hσ
  intro W0 D ρ w A hs hf
  have hp := hs.pushRow (w' := w) (n := 0) (v := .slice none 0 0) (World.grownBy.refl w none) (.inl rfl) (.row E sz []) (fun x => ⟨rfl, (fun _ h => by cases h), of_decide_eq_true hsz, [], ⟨by simp, .inl ⟨rfl, none, rfl⟩⟩, ⟨rfl, fun i u v e => by simp [flats] at e⟩⟩)
  obtain ⟨p1, x1⟩ := hp
  have hkl := (List.getElem?_eq_some_iff.1 hk).1
  have hk' : (σ ++ [IObj.row E sz []])[k]? = some (.box T cs) := by rw [List.getElem?_append_left hkl]; exact hk
  obtain ⟨sl, hsl⟩ : ∃ sl, (ρ ++ [Slot.row (.slice none 0 0) 0])[k]? = some sl := ⟨_, List.getElem?_eq_getElem (by rw [p1.len]; simp; omega)⟩
  have hok := p1.ok k sl _ hsl hk'
  cases sl with
  | row => exact hok.elim
  | fix b => exact hok.elim
  | gone => exact hok.elim
  | box b =>
    obtain ⟨vs, hh, hrel⟩ := hok
    have hoff := (List.getElem?_eq_some_iff.1 ho).1
    have hoffv : off < vs.toList.length := by rw [← hrel.1]; exact hoff
    have hv0 : vs.toList[off]? = some (.slice none 0 0) := by
      rw [List.getElem?_eq_getElem hoffv]
      have := hrel.2 off _ _ ho (List.getElem?_eq_getElem hoffv)
      generalize vs.toList[off] = v at this
      cases this
      rfl
    have hset : vs.toList.set off (.slice none 0 0) = vs.toList := by
      apply List.ext_getElem?
      intro i
      by_cases hi : off = i
      · subst hi; rw [List.getElem?_set_self hoffv, hv0]
      · rw [List.getElem?_set_ne hi]
    have hrel2 := hrel.set (u := .row σ.length 0) (v := .slice none 0 0) (.row _ _ _ _ (by unfold RowAt; rw [← hs.len]; simp)) off
    rw [hset] at hrel2
    have p2 := p1.set (w' := w) hsl rfl (.box T (cs.set off (.row σ.length 0))) ⟨vs, hh, hrel2⟩ rfl rfl rfl rfl (fun _ _ => rfl)
    have he : (σ ++ [IObj.row E sz []]).set k (.box T (cs.set off (.row σ.length 0))) = σ.set k (.box T (cs.set off (.row σ.length 0))) ++ [.row E sz []] := by
      rw [List.set_append_left _ _ hkl]
    rw [he] at p2
    exact wpIn_mono (h W0 D _ w A p2 (hf.ext x1)) fun e A w q => lift_ext x1 q
end
end Go.QL
end

section
/- QL, part i: calls; what a call made for itself falls away behind it. Plain; no program in sight. -/
set_option linter.unusedVariables false
set_option linter.unusedSimpArgs false
namespace Go.QL
open Go Go.RowKit

/-- A value that leads to none of the call's own blocks from number n on. -/
inductive Lt (n : Nat) : IV → Prop
  | int (k : IntKind) (m : Int) : Lt n (.int k m)
  | bool (b : Bool) : Lt n (.bool b)
  | str (s : ByteArray) : Lt n (.str s)
  | nils : Lt n .nils
  | sl (full : Bool) (xs : List IV) (h : ∀ x ∈ flats xs, Lt n x) : Lt n (.sl full xs)
  | row (k m : Nat) (h : k < n) : Lt n (.row k m)
  | ptr (k off : Nat) (h : k < n) : Lt n (.ptr k off)
  | eptr (k m off : Nat) (h : k < n) : Lt n (.eptr k m off)
  | rsub (k m off len : Nat) (h : k < n) : Lt n (.rsub k m off len)
  | dptr (cs : List IV) (h : ∀ x ∈ cs, Lt n x) : Lt n (.dptr cs)
  | nilp : Lt n .nilp
  | agg (xs : List IV) (h : ∀ x ∈ xs, Lt n x) : Lt n (.agg xs)
  | tup (xs : List IV) (h : ∀ x ∈ xs, Lt n x) : Lt n (.tup xs)
  | fn (f : Fn) (fs cs : List IV) (h : ∀ x ∈ fs, Lt n x) (h2 : ∀ x ∈ cs, Lt n x) : Lt n (.fn f fs cs)
  | nilf : Lt n .nilf
  | yf (k : Nat) (h : k < n) : Lt n (.yf k)
  | und : Lt n .und
  | junk : Lt n .junk
/-- Plain data. -/
def Dat (u : IV) : Prop := ∀ n, Lt n u
theorem Dat.int (k : IntKind) (m : Int) : Dat (.int k m) := fun n => .int k m
theorem Dat.bool (b : Bool) : Dat (.bool b) := fun n => .bool b
theorem Dat.str (s : ByteArray) : Dat (.str s) := fun n => .str s
theorem Dat.nils : Dat .nils := fun n => .nils
theorem Dat.agg {xs : List IV} (h : ∀ x ∈ xs, Dat x) : Dat (.agg xs) := fun n => .agg xs fun x hx => h x hx n
theorem Dat.tup {xs : List IV} (h : ∀ x ∈ xs, Dat x) : Dat (.tup xs) := fun n => .tup xs fun x hx => h x hx n
theorem Dat.fn {f : Fn} {fs cs : List IV} (h : ∀ x ∈ fs, Dat x) (k : ∀ x ∈ cs, Dat x) : Dat (.fn f fs cs) := fun n => .fn f fs cs (fun x hx => h x hx n) (fun x hx => k x hx n)
theorem Dat.dptr {cs : List IV} (h : ∀ x ∈ cs, Dat x) : Dat (.dptr cs) := fun n => .dptr cs fun x hx => h x hx n
theorem Dat.nilp : Dat .nilp := fun n => .nilp
theorem Dat.nilf : Dat .nilf := fun n => .nilf
theorem Dat.flat {u : IV} (h : Dat u) : ∀ x ∈ QL.flat u, Dat x := by
  intro x hx n
  have := h n
  cases u with
  | agg xs => cases this with | agg _ h => exact h x hx
  | _ => simp only [QL.flat, List.mem_singleton] at hx; subst hx; exact this
theorem Dat.sl {f : Bool} {xs : List IV} (h : ∀ x ∈ xs, Dat x) : Dat (.sl f xs) := fun n => .sl f xs fun x hx => by
  obtain ⟨y, hy, hxy⟩ := List.mem_flatMap.1 hx
  exact (h y hy).flat x hxy n

theorem VR.lt {D : DM} {ρ : List Slot} {u : IV} {v : Value} (h : VR D ρ u v) : Lt ρ.length u := by
  induction h with
  | int k n => exact .int k n
  | bool b => exact .bool b
  | str s => exact .str s
  | nils => exact .nils
  | sl full xs A c b o g hc hm hf hA hg hv ih =>
    refine .sl full xs fun x hx => ?_
    obtain ⟨j, hj, rfl⟩ := List.mem_iff_getElem.1 hx
    exact ih j _ (List.getElem?_eq_getElem hj)
  | row k n A c h =>
    refine .row k n ?_
    unfold RowAt at h
    rcases Nat.lt_or_ge k ρ.length with hk | hk
    · exact hk
    · rw [List.getElem?_eq_none hk] at h; exact h.elim
  | ptr k off a h =>
    refine .ptr k off ?_
    unfold PtrAt at h
    rcases Nat.lt_or_ge k ρ.length with hk | hk
    · exact hk
    · rw [List.getElem?_eq_none hk] at h; exact h.elim
  | eptr k n off a h =>
    refine .eptr k n off ?_
    unfold EltAt at h
    rcases Nat.lt_or_ge k ρ.length with hk | hk
    · exact hk
    · rw [List.getElem?_eq_none hk] at h; exact h.elim
  | rsub k n off len A c h =>
    refine .rsub k n off len ?_
    unfold EltAt at h
    rcases Nat.lt_or_ge k ρ.length with hk | hk
    · exact hk
    · rw [List.getElem?_eq_none hk] at h; exact h.elim
  | dptr cells b o g hg hv ih =>
    refine .dptr cells fun x hx => ?_
    obtain ⟨j, hj, rfl⟩ := List.mem_iff_getElem.1 hx
    exact ih j _ (List.getElem?_eq_getElem hj)
  | nilp => exact .nilp
  | agg xs vs hl hv ih =>
    refine .agg xs fun x hx => ?_
    obtain ⟨j, hj, rfl⟩ := List.mem_iff_getElem.1 hx
    exact ih j _ (vs[j]'(by omega)) (List.getElem?_eq_getElem hj) (by simp)
  | tup xs vs hl hv ih =>
    refine .tup xs fun x hx => ?_
    obtain ⟨j, hj, rfl⟩ := List.mem_iff_getElem.1 hx
    exact ih j _ (vs[j]'(by omega)) (List.getElem?_eq_getElem hj) (by simp)
  | fn f fs cs vs us hl hl2 hv hv2 ih ih2 =>
    refine .fn f fs cs (fun x hx => ?_) (fun x hx => ?_)
    · obtain ⟨j, hj, rfl⟩ := List.mem_iff_getElem.1 hx
      exact ih j _ (vs[j]'(by omega)) (List.getElem?_eq_getElem hj) (by simp)
    · obtain ⟨j, hj, rfl⟩ := List.mem_iff_getElem.1 hx
      exact ih2 j _ (us[j]'(by omega)) (List.getElem?_eq_getElem hj) (by simp)
  | nilf => exact .nilf
  | yf k b h => exact .yf k (List.getElem?_eq_some_iff.1 h).1
  | und => exact .und
  | junk v => exact .junk
theorem VR.cut {D : DM} {ρ : List Slot} {u : IV} {v : Value} (h : VR D ρ u v) (n : Nat) (hu : Lt n u) : VR D (ρ.take n) u v := by
  induction h with
  | int k n => exact .int k n
  | bool b => exact .bool b
  | str s => exact .str s
  | nils => exact .nils
  | sl full xs A c b o g hc hm hf hA hg hv ih =>
    cases hu with
    | sl _ _ h => exact .sl full xs A c b o g hc hm hf hA hg fun j u e => ih j u e (h u (List.mem_of_getElem? e))
  | row k m A c h =>
    cases hu with
    | row _ _ hk =>
      refine .row k m A c ?_
      unfold RowAt at *
      rwa [List.getElem?_take, if_pos hk]
  | ptr k off a h =>
    cases hu with
    | ptr _ _ hk =>
      refine .ptr k off a ?_
      unfold PtrAt at *
      rwa [List.getElem?_take, if_pos hk]
  | eptr k m off a h =>
    cases hu with
    | eptr _ _ _ hk =>
      refine .eptr k m off a ?_
      unfold EltAt at *
      rwa [List.getElem?_take, if_pos hk]
  | rsub k m off len A c h =>
    cases hu with
    | rsub _ _ _ _ hk =>
      refine .rsub k m off len A c ?_
      unfold EltAt at *
      rwa [List.getElem?_take, if_pos hk]
  | dptr cells b o g hg hv ih =>
    cases hu with
    | dptr _ h => exact .dptr cells b o g hg fun j u e => ih j u e (h u (List.mem_of_getElem? e))
  | nilp => exact .nilp
  | agg xs vs hl hv ih =>
    cases hu with
    | agg _ h => exact .agg xs vs hl fun i u v e e' => ih i u v e e' (h u (List.mem_of_getElem? e))
  | tup xs vs hl hv ih =>
    cases hu with
    | tup _ h => exact .tup xs vs hl fun i u v e e' => ih i u v e e' (h u (List.mem_of_getElem? e))
  | fn f fs cs vs us hl hl2 hv hv2 ih ih2 =>
    cases hu with
    | fn _ _ _ h h2 => exact .fn f fs cs vs us hl hl2 (fun i u v e e' => ih i u v e e' (h u (List.mem_of_getElem? e))) (fun i u v e e' => ih2 i u v e e' (h2 u (List.mem_of_getElem? e)))
  | nilf => exact .nilf
  | yf k b h =>
    cases hu with
    | yf _ hk => exact .yf k b (by rwa [List.getElem?_take, if_pos hk])
  | und => exact .und
  | junk v => exact .junk v
theorem Rel2.cut {D : DM} {ρ : List Slot} {xs : List IV} {vs : List Value} (h : Rel2 D ρ xs vs) (n : Nat) (hx : ∀ x ∈ xs, Lt n x) : Rel2 D (ρ.take n) xs vs :=
  ⟨h.1, fun i u v e e' => (h.2 i u v e e').cut n (hx u (List.mem_of_getElem? e))⟩
theorem Rel2.lt {D : DM} {ρ : List Slot} {xs : List IV} {vs : List Value} (h : Rel2 D ρ xs vs) : ∀ x ∈ xs, Lt ρ.length x := by
  intro x hx
  obtain ⟨j, hj, rfl⟩ := List.mem_iff_getElem.1 hx
  have h1 := h.1
  exact (h.2 j _ (vs[j]'(by omega)) (List.getElem?_eq_getElem hj) (by simp)).lt

def OLt (n : Nat) : IObj → Prop
  | .box _ cs => ∀ c ∈ cs, Lt n c
  | .row _ _ xs => ∀ c ∈ flats xs, Lt n c
  | .loop _ _ _ tmps _ _ _ k => (∀ c ∈ tmps, Lt n c) ∧ k < n
  | _ => True
theorem St.olt {W0 : Base} {D : DM} {ρ : List Slot} {σ : List IObj} {w : World} (h : St W0 D ρ σ w) {k : Nat} {o : IObj} (hk : σ[k]? = some o) : OLt σ.length o := by
  have hkl := (List.getElem?_eq_some_iff.1 hk).1
  obtain ⟨sl, hsl⟩ : ∃ sl, ρ[k]? = some sl := ⟨_, List.getElem?_eq_getElem (by rw [h.len]; exact hkl)⟩
  have hok := h.ok k sl _ hsl hk
  rw [← h.len]
  cases sl with
  | box b =>
    cases o with
    | box T cs => obtain ⟨vs, _, hr⟩ := hok; exact hr.lt
    | gone => trivial
    | _ => exact hok.elim
  | fix b =>
    cases o with
    | loop st pend fn tmps params assign body k => obtain ⟨vs, bk, h0, _, hr⟩ := hok; exact ⟨hr.lt, (List.getElem?_eq_some_iff.1 h0).1⟩
    | obj => trivial
    | gone => trivial
    | _ => exact hok.elim
  | row v n =>
    cases o with
    | row E sz xs => obtain ⟨_, _, _, vs, _, hr⟩ := hok; exact hr.lt
    | _ => exact hok.elim
  | gone => cases o <;> first | trivial | exact hok.elim
theorem St.cut {W0 : Base} {D : DM} {ρ : List Slot} {σ τ : List IObj} {w : World} (h : St W0 D ρ (σ ++ τ) w) (hl : ∀ (k : Nat) o, σ[k]? = some o → OLt σ.length o) : St W0 D (ρ.take σ.length) σ w := by
  have hlen := h.len
  rw [List.length_append] at hlen
  have hat : ∀ (k : Nat) s, (ρ.take σ.length)[k]? = some s → ρ[k]? = some s ∧ k < σ.length := by
    intro k s e
    rw [List.getElem?_take] at e
    split at e
    · exact ⟨e, by assumption⟩
    · cases e
  refine ⟨h.below, h.dc, h.dn, by rw [List.length_take]; omega, fun k s o e e' => ?_, fun k s b e hb => h.own k s b (hat k s e).1 hb, fun i j s t b e1 e2 h1 h2 => h.inj i j s t b (hat i s e1).1 (hat j t e2).1 h1 h2⟩
  obtain ⟨e1, hk⟩ := hat k s e
  have hok := h.ok k s o e1 (by rw [List.getElem?_append_left hk]; exact e')
  have ho := hl k o e'
  cases s with
  | box b =>
    cases o with
    | box T cs => obtain ⟨vs, h1, hr⟩ := hok; exact ⟨vs, h1, hr.cut _ ho⟩
    | gone => trivial
    | _ => exact hok.elim
  | fix b =>
    cases o with
    | box => exact hok.elim
    | loop st pend fn tmps params assign body k => obtain ⟨vs, bk, h0, h1, hr⟩ := hok; exact ⟨vs, bk, by rw [List.getElem?_take, if_pos ho.2]; exact h0, h1, hr.cut _ ho.1⟩
    | row => exact hok.elim
    | obj => exact hok
    | gone => trivial
  | row v n =>
    cases o with
    | row E sz xs => obtain ⟨h1, h2, h3, vs, h4, hr⟩ := hok; exact ⟨h1, h2, h3, vs, h4, hr.cut _ ho⟩
    | _ => exact hok.elim
  | gone => cases o <;> first | trivial | exact hok.elim

/-- What a call made for itself falls away: its answer leads to nothing of it. -/
theorem ICalls.cut {P : Program} {f : FuncId} {args : List IV} {σ : List IObj} {R : IV → List IObj → Prop}
    (h : ICalls P f args σ (fun u σ' => ∃ σ1 τ, σ' = σ1 ++ τ ∧ σ1.length = σ.length ∧ Lt σ.length u ∧ (∀ (k : Nat) o, σ1[k]? = some o → σ[k]? = some o ∨ OLt σ.length o) ∧ R u σ1)) : ICalls P f args σ R := by
  intro W0 D ρ w vs hs ha
  refine (h W0 D ρ w vs hs ha).mono ?_
  rintro e w' ⟨D', ρ', u, v, σ', rfl, x, s', hv, σ1, τ, rfl, hl, hlt, hO, hR⟩
  have hc := s'.cut fun k o e => by
    rw [hl]
    rcases hO k o e with h | h
    · exact hs.olt h
    · exact h
  rw [hl] at hc
  refine ⟨D', ρ'.take σ.length, u, v, σ1, rfl, ⟨x.d, fun k s e => ?_⟩, hc, hv.cut _ hlt, hR⟩
  obtain ⟨s2, e2, l2⟩ := x.s k s e
  have hk := (List.getElem?_eq_some_iff.1 e).1
  rw [hs.len] at hk
  exact ⟨s2, by rw [List.getElem?_take, if_pos hk]; exact e2, l2⟩
/-- The usual case: the caller's blocks are as they were; plain data is answered. -/
theorem ICalls.pure {P : Program} {f : FuncId} {args : List IV} {σ : List IObj} {u : IV} (hd : Dat u) (h : ICalls P f args σ (fun u' σ' => u' = u ∧ ∃ τ, σ' = σ ++ τ)) : ICalls P f args σ (fun u' σ' => u' = u ∧ σ' = σ) :=
  (h.mono (R' := fun u' σ' => ∃ σ1 τ, σ' = σ1 ++ τ ∧ σ1.length = σ.length ∧ Lt σ.length u' ∧ (∀ (k : Nat) o, σ1[k]? = some o → σ[k]? = some o ∨ OLt σ.length o) ∧ u' = u ∧ σ1 = σ)
    fun u' σ' ⟨h1, τ, h2⟩ => ⟨σ, τ, h2, rfl, by rw [h1]; exact hd _, fun k o e => .inl e, h1, rfl⟩).cut

/-- A function of the program that has a body. -/
structure Fun (P : Program) (f : FuncId) : Prop where
  h : ∃ fn, P.funcs[f]? = some fn ∧ (fn.name == "runtime.NumGoroutine") = false ∧ fn.body.isNone = false
section
variable {P : Program} {r : RN} {o : Oper} {e : Val2} {σ : List IObj}
theorem Fun.run {f : FuncId} (h : Fun P f) (args : Array Value) (w : World) : (callFunc f args).run P w = .ok (.enter f args) w := by
  obtain ⟨fn, h1, h2, h3⟩ := h.h
  simp only [callFunc, Sem.run_bind, show (program).run P w = .ok P w from rfl, Result.andThen_ok, h1, h2, h3]
  rfl
theorem op_call {f : FuncId} {g : Operand} {args : Array Operand} {tys : Array TypeId} {fs cs : List IV} {R : IV → List IObj → Prop} (ho : o.op = .call { callee := .value g, args := args, argTypes := tys }) (hg : e g = .fn (.func f) fs cs) (hF : Fun P f)
    (hc : ICalls P f (fs ++ args.toList.map e ++ cs) σ R) : OpK P r o e σ R := by
  intro W0 D ρ w A hs ha
  refine ⟨fun _ _ => trivial, ?_⟩
  have h1 := ha g (by simp [ho, Op.operands, Call.operands])
  rw [hg] at h1
  generalize hgv : A.eval g = gval at h1
  cases h1 with
  | fn _ _ _ vs us hl hl2 hv hv2 =>
    have hrun : (execOp A.eval o).run P w = .ok (.enter f (vs ++ args.map A.eval ++ us)) w := by
      simp only [execOp, ho, resolve, Deferred.ofValue, hgv, invoke, Sem.run_bind, Sem.run_pure, Result.andThen_ok, hF.run]
    rw [Oper.semAt_eq _ _ _ (fun c hc => by rw [ho] at hc; cases hc), hrun]
    have hrel : Rel2 D ρ (fs ++ args.toList.map e ++ cs) (vs ++ args.map A.eval ++ us).toList := by
      simp only [Array.toList_append, Array.toList_map]
      refine Rel2.append (Rel2.append ⟨by simpa using hl, fun i u v e1 e2 => hv i u v e1 (by simpa using e2)⟩ ⟨by simp, fun i u v e1 e2 => ?_⟩) ⟨by simpa using hl2, fun i u v e1 e2 => hv2 i u v e1 (by simpa using e2)⟩
      simp only [List.getElem?_map, Option.map_eq_some_iff] at e1 e2
      obtain ⟨p, hp, rfl⟩ := e1
      obtain ⟨q, hq, rfl⟩ := e2
      rw [hp] at hq
      cases hq
      refine ha p ?_
      have hm : p ∈ args := by simpa using List.mem_of_getElem? hp
      simp only [ho, Op.operands, Call.operands, Array.mem_append]
      exact .inr hm
    have hcall := hc W0 D ρ w _ hs hrel
    have hin : CallsIn (Wd r) 0 P f (vs ++ args.map A.eval ++ us) w (fun
      | .returned v, w'' => ∃ D' ρ' u val σ', A.put o.dst v = A.put o.dst val ∧ Ext D ρ D' ρ' ∧ St W0 D' ρ' σ' w'' ∧ VR D' ρ' u val ∧ R u σ'
      | .panicked chain, w'' => False
      | .outgrown, _ => LetsOut (fun _ _ _ => False)) := by
      refine callsIn_wide (n := 0).2 (hcall.mono ?_)
      rintro e' w' ⟨D', ρ', u, v, σ', rfl, x, s', hv', hR⟩
      exact ⟨D', ρ', u, v, σ', rfl, x, s', hv', hR⟩
    exact ⟨fun h => (by cases h), hin⟩
end
end Go.QL
end

section
/- QL, part j: facts on types, as instances; steps of a region by name. Plain; no program in sight. -/
set_option linter.unusedVariables false
set_option linter.unusedSimpArgs false
namespace Go.QL
open Go Go.RowKit
class TyC (P : Program) (T : TypeId) (agg : outParam Bool) (z : outParam Value) (zl : outParam (List IV)) (sz : outParam Nat) (bytes : outParam Nat) : Prop where
  h : Ty P T agg z sz bytes
  zl : z.cells.toList.map cst1 = zl
  zs : z.cells.size = sz
class SlC (P : Program) (T : TypeId) (E : outParam TypeId) : Prop where
  h : P.underlying T = some (.slice E)
class StrC (P : Program) (T : TypeId) : Prop where
  h : P.underlying T = some .string
class IntC (P : Program) (T : TypeId) (k : outParam IntKind) : Prop where
  h : P.underlying T = some (.int k)
class BoolC (P : Program) (T : TypeId) : Prop where
  h : P.underlying T = some .bool
class FldC (P : Program) (T f : Nat) (off : outParam Nat) : Prop where
  h : Fld P T f off
class FldVC (P : Program) (T f : Nat) (off : outParam Nat) (agg : outParam Bool) (sz : outParam Nat) : Prop where
  h : FldV P T f off agg sz
class FldsC (P : Program) (T : TypeId) (pl : outParam (List (Nat × Nat))) : Prop where
  h : Flds P T pl
class FunC (P : Program) (f : FuncId) : Prop where
  h : Fun P f
/-- What is known of a struct type, at once. -/
theorem Fld.mk' {P : Program} {T f off : Nat} {fs : Array Field} {fd : Field} (h : P.underlying T = some (.struct fs)) (hf : fs[f]? = some fd) (ho : fd.offset = off) {agg : Bool} {z : Value} {sz bytes : Nat} (hT : Ty P fd.type agg z sz bytes) (hs : decide (0 < sz) = true) : Fld P T f off := by
  obtain ⟨i, hi, _, hsz, _⟩ := hT.info
  exact ⟨fs, fd, fd.type, h, hf, ho, by rw [hi]; simp [hsz, of_decide_eq_true hs], rfl⟩
theorem FldV.mk' {P : Program} {T f off : Nat} {fs : Array Field} {fd : Field} (h : P.underlying T = some (.struct fs)) (hf : fs[f]? = some fd) (ho : fd.offset = off) {agg : Bool} {z : Value} {sz bytes : Nat} (hT : Ty P fd.type agg z sz bytes) : FldV P T f off agg sz :=
  ⟨fs, fd, h, hf, ho, z, bytes, hT⟩
end Go.QL
end

section
/- QL, part k: a function is walked with no block of its caller's in sight; normal forms. Plain; no program in sight. -/
set_option linter.unusedVariables false
set_option linter.unusedSimpArgs false
namespace Go.QL
open Go Go.RowKit
/-- The base of a call: all that lies there stays. -/
abbrev St.base {W0 : Base} {D : DM} {ρ : List Slot} {σ : List IObj} {w : World} (h : St W0 D ρ σ w) : Base :=
  ⟨w, D, h.laid, fun b => w.heap.size ≤ b, fun _ hb => hb, fun b hb hf => W0.lf b hb (W0.hf b (Nat.le_trans h.below.size hf))⟩
theorem Keeps.all {a w : World} (h : Keeps (fun b => a.heap.size ≤ b) a w) : Below a.heap.size a w := ⟨h.os, h.tape, h.output, h.size, fun k hk => h.block k (Nat.not_le.2 hk)⟩
theorem Keeps.refl (F : Nat → Prop) (a : World) : Keeps F a a := ⟨rfl, rfl, rfl, Nat.le_refl _, fun _ _ => rfl⟩
theorem St.fresh {W0 : Base} {D : DM} {ρ : List Slot} {σ : List IObj} {w : World} (h : St W0 D ρ σ w) : St h.base D [] [] w :=
  ⟨Keeps.refl _ _, h.dc, fun b o v e => .inl e, rfl, fun k s o e => by simp at e, fun k s b e => by simp at e, fun j k s t b e => by simp at e⟩
theorem St.back {W0 : Base} {D D' : DM} {ρ ρ' : List Slot} {σ σ' : List IObj} {w w' : World} (h : St W0 D ρ σ w) (x : Ext D [] D' ρ') (s : St h.base D' ρ' σ' w') : St W0 D' ρ σ w' ∧ Ext D ρ D' ρ :=
  h.grew s.below.all x.d fun b o v e => by
    rcases s.dn b o v e with e' | e'
    · exact .inl e'
    · exact .inr ⟨e', s.dc b o v e⟩
theorem VR.dat {D : DM} {ρ : List Slot} {u : IV} {v : Value} (h : VR D ρ u v) (hd : Dat u) (ρ' : List Slot) : VR D ρ' u v := by
  have h0 := h.cut 0 (hd 0)
  rw [List.take_zero] at h0
  exact h0.ext ⟨fun _ _ _ h => h, fun k s e => by simp at e⟩
theorem Rel2.dat {D : DM} {ρ : List Slot} {xs : List IV} {vs : List Value} (h : Rel2 D ρ xs vs) (hd : ∀ x ∈ xs, Dat x) (ρ' : List Slot) : Rel2 D ρ' xs vs :=
  ⟨h.1, fun i u v e e' => (h.2 i u v e e').dat (hd u (List.mem_of_getElem? e)) ρ'⟩
/-- A call that is handed plain data and answers plain data. -/
theorem ICalls.frame {P : Program} {f : FuncId} {args : List IV} {R : IV → Prop} (h : ICalls P f args [] (fun u _ => R u)) (ha : ∀ x ∈ args, Dat x) (hd : ∀ u, R u → Dat u) (σ : List IObj) : ICalls P f args σ (fun u σ' => R u ∧ σ' = σ) := by
  intro W0 D ρ w vs hs hr
  refine (h hs.base D [] w vs hs.fresh (hr.dat ha [])).mono ?_
  rintro e w' ⟨D', ρ', u, v, σ', rfl, x, s', hv, hR⟩
  obtain ⟨h1, h2⟩ := hs.back x s'
  exact ⟨D', ρ, u, v, σ, rfl, h2, h1, hv.dat (hd u hR) ρ, hR, rfl⟩
theorem ICalls.frame1 {P : Program} {f : FuncId} {args : List IV} {v : IV} (h : ICalls P f args [] (fun u _ => u = v)) (ha : ∀ x ∈ args, Dat x) (hd : Dat v) (σ : List IObj) : ICalls P f args σ (fun u σ' => u = v ∧ σ' = σ) :=
  h.frame ha (fun u hu => hu ▸ hd) σ
/-- A call that answers a row that nobody else has. -/
theorem ICalls.frameRow {P : Program} {f : FuncId} {args : List IV} {E sz : Nat} {xs : List IV} (h : ICalls P f args [] (fun u σ' => ∃ k, u = .row k xs.length ∧ σ'[k]? = some (.row E sz xs))) (ha : ∀ x ∈ args, Dat x) (hd : ∀ x ∈ xs, Dat x) (σ : List IObj) :
    ICalls P f args σ (fun u σ' => u = .row σ.length xs.length ∧ σ' = σ ++ [.row E sz xs]) := by
  intro W0 D ρ w vs hs hr
  refine (h hs.base D [] w vs hs.fresh (hr.dat ha [])).mono ?_
  rintro e w' ⟨D', ρ', u, v, σ', rfl, x, s', hv, k, rfl, hk⟩
  obtain ⟨h1, h2⟩ := hs.back x s'
  have hkl := (List.getElem?_eq_some_iff.1 hk).1
  obtain ⟨sl, hsl⟩ : ∃ sl, ρ'[k]? = some sl := ⟨_, List.getElem?_eq_getElem (by rw [s'.len]; exact hkl)⟩
  have hok := s'.ok k sl _ hsl hk
  cases sl with
  | box b => exact hok.elim
  | fix b => exact hok.elim
  | gone => exact hok.elim
  | row v0 n0 =>
    obtain ⟨hn0, hfl, hsz, us, hro, hrel⟩ := hok
    have hveq : v = v0 := by
      obtain ⟨_, _, _, hrow⟩ := hv.row_inv
      unfold RowAt at hrow
      rw [hsl] at hrow
      exact hrow.2 hn0.symm
    subst hveq
    have hown := fun b hb => s'.own k _ b hsl hb
    have x2 : Ext D' ρ D' (ρ ++ [.row v n0]) := ⟨fun _ _ _ h => h, fun j s e => ⟨s, by rw [List.getElem?_append_left (List.getElem?_eq_some_iff.1 e).1]; exact e, Slot.le_refl s⟩⟩
    have hat : ∀ (j : Nat) s, (ρ ++ [Slot.row v n0])[j]? = some s → ρ[j]? = some s ∨ (j = ρ.length ∧ s = .row v n0) := by
      intro j s e
      rcases Nat.lt_or_ge j ρ.length with hj | hj
      · rw [List.getElem?_append_left hj] at e; exact .inl e
      · rw [List.getElem?_append_right hj] at e
        have : j - ρ.length = 0 := by
          have := (List.getElem?_eq_some_iff.1 e).1
          simp at this
          omega
        rw [this] at e
        simp at e
        exact .inr ⟨by omega, e.symm⟩
    have hro' : RowOk w' 0 E sz v xs.length us := by
      obtain ⟨a1, a2⟩ := hro
      rw [hn0] at a1 a2
      refine ⟨a1, a2.imp id ?_⟩
      rintro ⟨g, cap, cur, c1, c2, c3, c4⟩
      exact ⟨g, cap, cur, c1, c2, c3, c4⟩
    have hst : St W0 D' (ρ ++ [.row v n0]) (σ ++ [.row E sz xs]) w' := by
      refine ⟨h1.below, h1.dc, h1.dn, by simp [h1.len], fun j s o e e' => ?_, fun j s b e hb => ?_, fun i j s t b e1 e2 b1 b2 => ?_⟩
      · rcases hat j s e with e1 | ⟨rfl, rfl⟩
        · rw [List.getElem?_append_left (by rw [← h1.len]; exact (List.getElem?_eq_some_iff.1 e1).1)] at e'
          exact (h1.ok j s o e1 e').kept x2 fun _ _ => rfl
        · rw [List.getElem?_append_right (by rw [h1.len]; exact Nat.le_refl _), h1.len, Nat.sub_self] at e'
          simp at e'
          subst e'
          refine ⟨hn0, hfl, hsz, us, hn0 ▸ hro', hrel.dat (fun y hy => ?_) _⟩
          obtain ⟨z, hz, hyz⟩ := List.mem_flatMap.1 hy
          exact (hd z hz).flat y hyz
      · rcases hat j s e with e1 | ⟨rfl, rfl⟩
        · exact h1.own j s b e1 hb
        · obtain ⟨a1, a2, a3⟩ := hown b hb
          exact ⟨W0.hf _ (Nat.le_trans hs.below.size a1), a2, a3⟩
      · rcases hat i s e1 with e1 | ⟨rfl, rfl⟩ <;> rcases hat j t e2 with e2 | ⟨rfl, rfl⟩
        · exact h1.inj i j s t b e1 e2 b1 b2
        · have hb := (hs.own i s b e1 b1).2.1
          have hc : w.heap.size ≤ b := (hown b b2).1
          omega
        · have hb := (hs.own j t b e2 b2).2.1
          have hc : w.heap.size ≤ b := (hown b b1).1
          omega
        · rfl
    refine ⟨D', ρ ++ [.row v n0], _, v, _, rfl, h2.trans x2, hst, ?_, rfl, rfl⟩
    obtain ⟨A', c', rfl, _⟩ := hv.row_inv
    refine .row _ _ A' c' ?_
    unfold RowAt
    rw [← hs.len, List.getElem?_append_right (Nat.le_refl _), Nat.sub_self]
    exact ⟨by omega, fun _ => rfl⟩

theorem g0 (x : IV) (xs : List IV) (d : IV) : List.getD (x :: xs) 0 d = x := rfl
theorem gS (x : IV) (xs : List IV) (d : IV) (n : Nat) : List.getD (x :: xs) (n + 1) d = List.getD xs n d := rfl
theorem s0 (x : IV) (xs : List IV) (d : IV) : List.set (x :: xs) 0 d = d :: xs := rfl
theorem sS (x : IV) (xs : List IV) (d : IV) (n : Nat) : List.set (x :: xs) (n + 1) d = x :: List.set xs n d := rfl
theorem o0 (x : IObj) (xs : List IObj) (d : IObj) : List.set (x :: xs) 0 d = d :: xs := rfl
theorem oS (x : IObj) (xs : List IObj) (d : IObj) (n : Nat) : List.set (x :: xs) (n + 1) d = x :: List.set xs n d := rfl
theorem IA.put_some (t : List IV) (ds : List IDef) (d : Tmp) (v : IV) : IA.put ⟨t, ds⟩ (some d) v = ⟨t.set d v, ds⟩ := rfl
theorem IA.put_none (a : IA) (v : IV) : IA.put a none v = a := rfl
theorem ev_tmp (t : List IV) (ds : List IDef) (i : Tmp) : ev ⟨t, ds⟩ (.tmp i) = t.getD i .junk := rfl
theorem ev_const (a : IA) (v : Value) : ev a (.const v) = cst v := rfl
theorem ev_func (a : IA) (f : FuncId) : ev a (.func f) = .fn (.func f) [] [] := rfl
theorem cst_int (k : IntKind) (n : Int) : cst (.int k n) = .int k n := rfl
theorem cst_bool (b : Bool) : cst (.bool b) = .bool b := rfl
theorem cst_str (b : ByteArray) : cst (.string b) = .str b := rfl
theorem cst_nils : cst (.slice none 0 0) = .nils := rfl
theorem cst_nilp : cst (.pointer none) = .nilp := rfl
theorem cst_nilf : cst .nilFunc = .nilf := rfl
theorem cst_agg (vs : Array Value) : cst (.agg vs) = .agg (vs.toList.map cst1) := rfl
theorem cst1_int (k : IntKind) (n : Int) : cst1 (.int k n) = .int k n := rfl
theorem cst1_bool (b : Bool) : cst1 (.bool b) = .bool b := rfl
theorem cst1_str (b : ByteArray) : cst1 (.string b) = .str b := rfl
theorem cst1_nils : cst1 (.slice none 0 0) = .nils := rfl
theorem cst1_nilp : cst1 (.pointer none) = .nilp := rfl
theorem cst1_nilf : cst1 .nilFunc = .nilf := rfl
section
variable {P : Program} {r : RN} {o : Oper} {e : Val2} {σ : List IObj}
theorem oi_alloc {T : TypeId} {z : Value} {zl : List IV} {sz bytes : Nat} {agg : Bool} [hT : TyC P T agg z zl sz bytes] (ho : o.op = .alloc T) : OpQ P r o e σ (.ptr σ.length 0) (σ ++ [.box T zl]) := by
  have := op_alloc (r := r) (e := e) (σ := σ) hT.h ho
  rwa [hT.zl] at this
theorem oi_build {T : TypeId} {parts : Array (Nat × Operand)} {pl : List (Nat × Nat)} {z : Value} {zl : List IV} {sz bytes : Nat} {agg : Bool} {out : List IV} [hT : TyC P T agg z zl sz bytes] [hF : FldsC P T pl] (ho : o.op = .build T parts)
    (hb : bfill (pl[·]?) zl (parts.toList.map fun p => (p.1, e p.2)) = some out) : OpQ P r o e σ (.agg out) σ := op_build hT.h hF.h ho (by rw [hT.zl]; exact hb)
theorem oi_lit {T E : TypeId} {n : Nat} {parts : Array (Nat × Operand)} {z : Value} {zl : List IV} {sz bytes : Nat} {agg : Bool} {us : List IV} [hT : SlC P T E] [hE : TyC P E agg z zl sz bytes] (hs : decide (0 < sz) = true) (ho : o.op = .buildSlice T n parts)
    (hu : parts.toList.map (fun p => e p.2) = us) (hp : parts.toList.map (fun p => p.1) = List.range n) (hn : decide (n * sz ≤ 16777216) = true) (hg : Good sz us) : OpQ P r o e σ (.sl true us) σ := by
  have hl : us.length = n := by rw [← hu, List.length_map, ← List.length_map (f := fun p : Nat × Operand => p.1), hp, List.length_range]
  refine op_lit hT.h hE.h hE.zs (of_decide_eq_true hs) ho ?_ hl (of_decide_eq_true hn) hg
  apply List.ext_getElem?
  intro i
  have h1 := congrArg (·[i]?) hu
  have h2 := congrArg (·[i]?) hp
  simp only [List.getElem?_map] at h1 h2
  rw [List.getElem?_map, List.getElem?_map, List.getElem?_zipIdx]
  cases hq : parts.toList[i]? with
  | none => rw [hq] at h1; simp only [Option.map_none] at h1; rw [← h1]; rfl
  | some q =>
    rw [hq] at h1 h2
    simp only [Option.map_some] at h1 h2
    rw [← h1]
    have hi : i < n := by
      have := (List.getElem?_eq_some_iff.1 hq).1
      rw [← hl, ← hu, List.length_map]
      exact this
    have h3 : q.1 = i := by
      have : (List.range n)[i]? = some i := by simp [hi]
      rw [this] at h2
      exact Option.some.inj h2
    simp [h3]
theorem oi_indexAddr {T E : TypeId} {x i : Operand} {z : Value} {zl : List IV} {sz bytes : Nat} {agg full : Bool} {xs : List IV} {k : IntKind} {n : Int} {u : IV} [hT : SlC P T E] [hE : TyC P E agg z zl sz bytes] (ho : o.op = .indexAddr T x i)
    (hx : e x = .sl full xs) (hi : e i = .int k n) (h0 : 0 ≤ n) (hu : xs[n.toNat]? = some u) (hg : Good sz xs) : OpQ P r o e σ (.dptr (flat u)) σ := op_indexAddr hT.h hE.h ho hx hi h0 hu hg
theorem oi_append {T E : TypeId} {s x : Operand} {z : Value} {zl : List IV} {sz bytes k n : Nat} {agg : Bool} {xs ys : List IV} [hT : SlC P T E] [hE : TyC P E agg z zl sz bytes] (hs : decide (0 < sz) = true)
    (ho : o.op = .call { callee := .builtin .append, args := #[s, x], argTypes := #[T, T] }) (hx : e s = .row k n) (hy : srcOf (e x) = some ys) (hk : σ[k]? = some (.row E sz xs)) (hn : n = xs.length) (hg : Good sz ys)
    (hb : (xs.length + ys.length) * bytes ≤ 140737488355328) (hnm : xs.length + ys.length ≤ 140737488355328) : OpQ P r o e σ (.row k (xs.length + ys.length)) (σ.set k (.row E sz (xs ++ ys))) := op_append hT.h hE.h hE.zs (of_decide_eq_true hs) ho hx hy hk hn hg hb hnm
theorem oi_append0 {T E : TypeId} {s x : Operand} {z : Value} {zl : List IV} {sz bytes : Nat} {agg : Bool} {ys : List IV} [hT : SlC P T E] [hE : TyC P E agg z zl sz bytes] (hs : decide (0 < sz) = true)
    (ho : o.op = .call { callee := .builtin .append, args := #[s, x], argTypes := #[T, T] }) (hx : e s = .nils ∨ e s = .sl true []) (hy : srcOf (e x) = some ys) (hg : Good sz ys)
    (hb : ys.length * bytes ≤ 140737488355328) (hnm : ys.length ≤ 140737488355328) : OpQ P r o e σ (.row σ.length ys.length) (σ ++ [.row E sz ys]) := op_append0 hT.h hE.h hE.zs (of_decide_eq_true hs) ho hx hy hg hb hnm
end
section
variable {P : Program} {r : RN} {Q : IPost} {a a' : IA} {σ σ' σ1 : List IObj} {ops : Array Oper} {o : Oper} {rest : List Oper} {v : IV}
/-- One operation; the new frame and the new blocks in their normal forms. -/
theorem il_dn (hg : o.guard = none) (h : OpQ P r o (ev a) σ v σ1) (ha : a.put o.dst v = a') (hs : σ1 = σ') (k : IL P r ops Q rest a' σ') : IL P r ops Q (o :: rest) a σ := by
  subst ha; subst hs; exact il_det hg h k
theorem il_kn {K : IV → List IObj → Prop} (hg : o.guard = none) (h : OpK P r o (ev a) σ K) (k : ∀ v σ', K v σ' → ∃ a', a.put o.dst v = a' ∧ IL P r ops Q rest a' σ') : IL P r ops Q (o :: rest) a σ :=
  il_op hg h fun v σ' hv => by obtain ⟨a', rfl, h⟩ := k v σ' hv; exact h
theorem il_yn {j : Nat} {b : Bool} (hg : o.guard = some (j, b)) (hb : gv ops a j = .bool b) (h : OpQ P r o (ev a) σ v σ1) (ha : a.put o.dst v = a') (hs : σ1 = σ') (k : IL P r ops Q rest a' σ') : IL P r ops Q (o :: rest) a σ := by
  subst ha; subst hs
  exact il_yes hg hb h fun _ _ ⟨e1, e2⟩ => by subst e1; subst e2; exact k
theorem il_nn {j : Nat} {b : Bool} (hg : o.guard = some (j, b)) (hb : gv ops a j = .bool (!b) ∨ gv ops a j = .und) (ha : a.put o.dst .und = a') (k : IL P r ops Q rest a' σ) : IL P r ops Q (o :: rest) a σ := by
  subst ha; exact il_no hg hb k
/-- A call, what it answers told by R. -/
theorem il_call {f : FuncId} {g : Operand} {args : Array Operand} {tys : Array TypeId} {fs cs asx : List IV} {R : IV → List IObj → Prop} [hF : FunC P f] (hg : o.guard = none) (ho : o.op = .call { callee := .value g, args := args, argTypes := tys })
    (he : ev a g = .fn (.func f) fs cs) (has : fs ++ args.toList.map (ev a) ++ cs = asx) (hc : ICalls P f asx σ R) (k : ∀ v σ', R v σ' → IL P r ops Q rest (a.put o.dst v) σ') : IL P r ops Q (o :: rest) a σ := by
  subst has
  exact il_op hg (op_call ho he hF.h hc) k
/-- A call that answers one value and leaves all else. -/
theorem il_call1 {f : FuncId} {g : Operand} {args : Array Operand} {tys : Array TypeId} {fs cs asx : List IV} {R : IV → Prop} [hF : FunC P f] (hg : o.guard = none) (ho : o.op = .call { callee := .value g, args := args, argTypes := tys })
    (he : ev a g = .fn (.func f) fs cs) (has : fs ++ args.toList.map (ev a) ++ cs = asx) (hc : ICalls P f asx σ (fun u σ' => R u ∧ σ' = σ)) (k : ∀ v, R v → IL P r ops Q rest (a.put o.dst v) σ) : IL P r ops Q (o :: rest) a σ :=
  il_call hg ho he has hc fun v σ' ⟨h1, h2⟩ => by subst h2; exact k v h1
theorem il_callv {f : FuncId} {g : Operand} {args : Array Operand} {tys : Array TypeId} {fs cs asx : List IV} {u : IV} [hF : FunC P f] (hg : o.guard = none) (ho : o.op = .call { callee := .value g, args := args, argTypes := tys })
    (he : ev a g = .fn (.func f) fs cs) (has : fs ++ args.toList.map (ev a) ++ cs = asx) (hc : ICalls P f asx σ (fun u' σ' => u' = u ∧ σ' = σ)) (ha : a.put o.dst u = a') (k : IL P r ops Q rest a' σ) : IL P r ops Q (o :: rest) a σ :=
  il_call hg ho he has hc fun v σ' ⟨h1, h2⟩ => by subst h1; subst h2; rw [ha]; exact k
theorem il_ycallv {j : Nat} {b : Bool} {f : FuncId} {g : Operand} {args : Array Operand} {tys : Array TypeId} {fs cs asx : List IV} {u : IV} [hF : FunC P f] (hg : o.guard = some (j, b)) (hb : gv ops a j = .bool b) (ho : o.op = .call { callee := .value g, args := args, argTypes := tys })
    (he : ev a g = .fn (.func f) fs cs) (has : fs ++ args.toList.map (ev a) ++ cs = asx) (hc : ICalls P f asx σ (fun u' σ' => u' = u ∧ σ' = σ)) (ha : a.put o.dst u = a') (k : IL P r ops Q rest a' σ) : IL P r ops Q (o :: rest) a σ := by
  subst has
  exact il_yn hg hb (op_call ho he hF.h hc) ha rfl k
end
theorem icalls_in {P : Program} {f : FuncId} {fn : Func} {c : Code} {args l : List IV} {σ : List IObj} {R : IV → List IObj → Prop} (hf : P.funcs[f]? = some fn) (hb : fn.body = some c) (hl : args ++ List.replicate (fn.ntmps - args.length) .und = l)
    (h : IC P ⟨none, σ.length⟩ c (IRet P fn R) ⟨l, []⟩ σ) : ICalls P f args σ R := icalls_of hf hb (by rw [hl]; exact h)
theorem ires_cell {P : Program} {fn : Func} {t : List IV} {σ : List IObj} {d T k off sz bytes : Nat} {z : Value} {T0 : TypeId} {cs : List IV} (h : fn.results = #[.cell d T]) (hT : Ty P T true z sz bytes) (ht : t.getD d .junk = .ptr k off) (hk : σ[k]? = some (.box T0 cs)) (hl : off + sz ≤ cs.length) :
    IRes P fn ⟨t, []⟩ σ (.agg ((cs.drop off).take sz)) := by
  intro W0 D ρ w A hs hf
  have h1 := hf.ev (.tmp d)
  simp only [ev, ht] at h1
  obtain ⟨b, hb, h1⟩ := hs.ptr_at hk h1
  obtain ⟨vs, h2, h3⟩ := hs.box hb hk
  have hlen := h3.1
  have h4 := run_loadAgg hT (w := w) (b := b) (off := off) ((vs.toList.drop off).take sz) (by simp at hlen ⊢; omega) (fun j v ej => by
    rw [cells_at h2]
    rw [List.getElem?_take] at ej
    split at ej
    · rw [List.getElem?_drop] at ej; simpa using ej
    · cases ej)
  refine ⟨_, ?_, (h3.sub off sz).agg⟩
  simp only [Act.eval] at h1
  have h5 : A.tmps[d]?.getD undef = .pointer (some ⟨b, off, none⟩) := by simpa using h1
  simp [results, h, h5, asAddr, h4, Result.andThen]
theorem ires_cell1 {P : Program} {fn : Func} {t : List IV} {σ : List IObj} {d T k off sz bytes : Nat} {z : Value} {T0 : TypeId} {cs : List IV} {u : IV} (h : fn.results = #[.cell d T]) (hT : Ty P T false z sz bytes) (ht : t.getD d .junk = .ptr k off) (hk : σ[k]? = some (.box T0 cs)) (hu : cs[off]? = some u) :
    IRes P fn ⟨t, []⟩ σ u := by
  intro W0 D ρ w A hs hf
  have h1 := hf.ev (.tmp d)
  simp only [ev, ht] at h1
  obtain ⟨b, hb, h1⟩ := hs.ptr_at hk h1
  obtain ⟨vs, h2, h3⟩ := hs.box hb hk
  have hoff : off < vs.size := by have := h3.1; have := (List.getElem?_eq_some_iff.1 hu).1; simp at *; omega
  refine ⟨vs[off], ?_, h3.2 off u _ hu (by simp [hoff])⟩
  have h4 := run_loadOne hT (w := w) (a := ⟨b, off, none⟩) (v := vs[off]) (by rw [cells_at h2]; simp [hoff])
  simp only [Act.eval] at h1
  have h5 : A.tmps[d]?.getD undef = .pointer (some ⟨b, off, none⟩) := by simpa using h1
  simp [results, h, h5, asAddr, h4, Result.andThen]
/-! ### contracts of the library's own shelf -/
theorem St.on {W0 : Base} {D : DM} {w w' : World} (h : St W0 D [] [] w) (b : Below w.heap.size w w') : St W0 D [] [] w' :=
  ⟨h.below.below W0.hf b, fun k o v e => below_cell b (h.dc k o v e), h.dn, rfl, fun k s o e => by simp at e, fun k s b e => by simp at e, fun j k s t b e => by simp at e⟩
theorem icalls_shelf {P : Program} {f : FuncId} {args : List IV} {vs0 : Array Value} {u : IV} {v : Value} (ha : ∀ D ρ vs, Rel2 D ρ args vs → vs = vs0.toList) (hv : ∀ D ρ, VR D ρ u v) (h : ∀ w, Laid w → Calls P f vs0 w fun e w' => e = .returned v ∧ Below w.heap.size w w') : ICalls P f args [] (fun u' _ => u' = u) := by
  intro W0 D ρ w vs hs hr
  have hρ : ρ = [] := List.eq_nil_of_length_eq_zero hs.len
  subst hρ
  obtain rfl : vs = vs0 := Array.toList_inj.1 (ha D [] vs.toList hr)
  refine (h w hs.laid).mono ?_
  rintro e w' ⟨rfl, b⟩
  exact ⟨D, [], u, v, [], rfl, ⟨fun _ _ _ h => h, fun k s e => by simp at e⟩, hs.on b, hv D [], rfl⟩
/-! ### a pointer to one box of the caller's, plain data within -/
theorem Rel2.head {D : DM} {ρ : List Slot} {x : IV} {xs : List IV} {vs : List Value} (h : Rel2 D ρ (x :: xs) vs) : ∃ v vs', vs = v :: vs' ∧ VR D ρ x v ∧ Rel2 D ρ xs vs' := by
  cases vs with
  | nil => have := h.1; simp at this
  | cons v vs' => exact ⟨v, vs', rfl, h.2 0 x v rfl rfl, by have := h.1; simpa using this, fun i u v' e e' => h.2 (i + 1) u v' e e'⟩
theorem Rel2.cons {D : DM} {ρ : List Slot} {x : IV} {xs : List IV} {v : Value} {vs : List Value} (h : VR D ρ x v) (h2 : Rel2 D ρ xs vs) : Rel2 D ρ (x :: xs) (v :: vs) :=
  ⟨by simp [h2.1], fun i u v' e e' => by
    cases i with
    | zero => simp at e e'; subst e; subst e'; exact h
    | succ i => exact h2.2 i u v' e e'⟩
theorem ICalls.frameP {P : Program} {f : FuncId} {args : List IV} {T : TypeId} {cs cs' : List IV} {v : IV} (h : ICalls P f (.ptr 0 0 :: args) [.box T cs] (fun u σ' => u = v ∧ σ'[0]? = some (.box T cs'))) (ha : ∀ x ∈ args, Dat x) (hc : ∀ x ∈ cs, Dat x) (hc' : ∀ x ∈ cs', Dat x) (hd : Dat v) {σ : List IObj} {k : Nat} (hk : σ[k]? = some (.box T cs)) :
    ICalls P f (.ptr k 0 :: args) σ (fun u σ' => u = v ∧ σ' = σ.set k (.box T cs')) := by
  intro W0 D ρ w vs hs hr
  have hkl := (List.getElem?_eq_some_iff.1 hk).1
  obtain ⟨s, hsl⟩ : ∃ s, ρ[k]? = some s := ⟨_, List.getElem?_eq_getElem (by rw [hs.len]; exact hkl)⟩
  have hok := hs.ok k s _ hsl hk
  cases s with
  | row v n => exact hok.elim
  | fix b => exact hok.elim
  | gone => exact hok.elim
  | box b =>
    obtain ⟨us, hh, hrel⟩ := hok
    obtain ⟨hb1, hb2, hb3⟩ := hs.own k _ b hsl rfl
    obtain ⟨v0, vs', hvs, hp, hargs⟩ := hr.head
    have hv0 : v0 = .pointer (some ⟨b, 0, none⟩) := by
      cases hp with
      | ptr _ _ a hpa => unfold PtrAt at hpa; rw [hsl] at hpa; simp at hpa; rw [hpa]
    subst hv0
    let B : Base := ⟨w, D, hs.laid, fun j => j = b ∨ w.heap.size ≤ j, fun _ hb => .inr hb, fun j hj hf => W0.lf j hj (by
      rcases hf with rfl | hf
      · exact hb1
      · exact W0.hf j (Nat.le_trans hs.below.size hf))⟩
    have hs0 : St B D [.box b] [.box T cs] w := by
      refine ⟨Keeps.refl _ _, hs.dc, fun b o v e => .inl e, rfl, fun j s o e e' => ?_, fun j s b' e hb => ?_, fun i j s t b' e e' _ _ => ?_⟩
      · cases j with
        | zero => simp at e e'; subst e; subst e'; exact ⟨us, hh, hrel.dat hc _⟩
        | succ j => simp at e
      · cases j with
        | zero => simp at e; subst e; simp [Slot.blk] at hb; subst hb; exact ⟨.inl rfl, hb2, hb3⟩
        | succ j => simp at e
      · cases i <;> cases j <;> simp at e e' <;> rfl
    have hr0 : Rel2 D [.box b] (.ptr 0 0 :: args) vs.toList := by rw [hvs]; exact .cons (vr_ptr rfl) (hargs.dat ha _)
    refine (h B D [.box b] w vs hs0 hr0).mono ?_
    rintro e w' ⟨D', ρ', u, v1, σ', rfl, x, s', hv, rfl, hσ⟩
    obtain ⟨sl, hsl', hle⟩ := x.s 0 (.box b) rfl
    have hok' := s'.ok 0 sl _ hsl' hσ
    have hslb : sl = .box b := by
      rcases hle with hle | hle
      · exact hle
      · subst hle; exact hok'.elim
    subst hslb
    obtain ⟨us', hh', hrel'⟩ := hok'
    have hkeep : ∀ j, j < w.heap.size → j ≠ b → w'.heap[j]? = w.heap[j]? := fun j hj hjb => s'.below.block j (fun hf => by
      rcases hf with hf | hf
      · exact hjb hf
      · omega)
    have x2 : Ext D ρ D' ρ := ⟨x.d, fun j s e => ⟨s, e, Slot.le_refl s⟩⟩
    have hst : St W0 D' ρ (σ.set k (.box T cs')) w' := by
      refine hs.change x2 (hs.below.on W0.hf s'.below.os s'.below.tape s'.below.output s'.below.size fun j hj hn => hkeep j hj fun e => hn (e ▸ hb1)) (fun j => j = b) (fun j hj o => hj ▸ hb3 o) (fun j hj hn => hkeep j hj hn) (fun j o v' e => ?_) (by simp [hs.len]) (fun j s o e e' => ?_) (fun j s b' e hb => ?_) hs.inj
      · rcases s'.dn j o v' e with h1 | h1
        · exact .inl h1
        · refine .inr ⟨?_, s'.dc j o v' e⟩
          rcases h1 with rfl | h1
          · exact hb1
          · exact W0.hf j (Nat.le_trans hs.below.size h1)
      · by_cases hj : j = k
        · subst hj
          rw [hsl] at e
          cases e
          rw [List.getElem?_set_self hkl] at e'
          cases e'
          exact .inr ⟨us', hh', hrel'.dat hc' _⟩
        · rw [List.getElem?_set_ne (Ne.symm hj)] at e'
          exact .inl ⟨e, e', fun b' hb' e'' => hj (hs.inj j k s _ b e hsl (by rw [← e'']; exact hb') rfl)⟩
      · obtain ⟨h4, h5, h6⟩ := hs.own j s b' e hb
        refine ⟨h4, Nat.lt_of_lt_of_le h5 s'.below.size, fun o => ?_⟩
        by_cases hj : b' = b
        · subst hj
          exact (s'.own 0 _ b' hsl' rfl).2.2 o
        · cases e' : D' b' o with
          | none => rfl
          | some v' =>
            rcases s'.dn b' o v' e' with h1 | h1
            · have h1 : D b' o = some v' := h1
              rw [h6 o] at h1; cases h1
            · rcases h1 with h1 | h1
              · exact absurd h1 hj
              · have h1 : w.heap.size ≤ b' := h1
                omega
    exact ⟨D', ρ, _, v1, _, rfl, x2, hst, hv.dat hd ρ, rfl, rfl⟩
end Go.QL
end

section
/- QL, part m: the data of this program: attributes, nodes, cells, lines, points; normal forms. No program in sight. -/
set_option linter.unusedVariables false
set_option linter.unusedSimpArgs false
namespace Go.QL
open Go Go.RowKit

abbrev Str := ByteArray
structure At where
  name : Str
  value : Str
  deriving Inhabited, DecidableEq
inductive Nd where
  | mk (tag : Int) (attrs : List At) (text : Str) (kids : List Nd)
  deriving Inhabited
def Nd.tag : Nd → Int | .mk t _ _ _ => t
def Nd.attrs : Nd → List At | .mk _ a _ _ => a
def Nd.text : Nd → Str | .mk _ _ x _ => x
def Nd.kids : Nd → List Nd | .mk _ _ _ k => k
structure Cel where
  r : Int
  bits : Int
  href : Str
  deriving Inhabited, DecidableEq
structure Lin where
  quote : Int
  lists : List Int
  kind : Int
  cells : List Cel
  deriving Inhabited, DecidableEq
structure Pos where
  line : Int
  at_ : Int
  deriving Inhabited, DecidableEq
structure Pnt where
  path : List Int
  at_ : Int
  deriving Inhabited, DecidableEq

def eI (n : Int) : IV := .int .i64 n
def eIs (l : List Int) : IV := .sl false (l.map eI)
def eA (a : At) : IV := .agg [.str a.name, .str a.value]
def eAs (l : List At) : IV := .sl false (l.map eA)
mutual
def eN : Nd → IV
  | .mk t a x k => .agg [.int .i64 t, eAs a, .str x, .sl false (eNl k)]
def eNl : List Nd → List IV
  | [] => []
  | n :: l => eN n :: eNl l
end
theorem eNl_eq (l : List Nd) : eNl l = l.map eN := by
  induction l with
  | nil => rfl
  | cons n l ih => simp [eNl, ih]
def eNs (l : List Nd) : IV := .sl false (l.map eN)
theorem eN_eq (n : Nd) : eN n = .agg [.int .i64 n.tag, eAs n.attrs, .str n.text, eNs n.kids] := by
  cases n with
  | mk t a x k => simp [eN, eNl_eq, Nd.tag, Nd.attrs, Nd.text, Nd.kids, eNs]
def eC (c : Cel) : IV := .agg [.int .i32 c.r, .int .i64 c.bits, .str c.href]
def eCs (l : List Cel) : IV := .sl false (l.map eC)
def eL (l : Lin) : IV := .agg [.int .i64 l.quote, eIs l.lists, .int .i64 l.kind, eCs l.cells]
def eLs (l : List Lin) : IV := .sl false (l.map eL)
def eP (p : Pos) : IV := .agg [.int .i64 p.line, .int .i64 p.at_]
def ePt (p : Pnt) : IV := .agg [eIs p.path, .int .i64 p.at_]
def eR (n : Int) : IV := .int .i32 n
def eRs (l : List Int) : IV := .sl false (l.map eR)

theorem good_eI (l : List Int) : Good 1 (l.map eI) := Good.map (f := eI) (fun _ => ⟨rfl, rfl⟩) l
theorem good_eR (l : List Int) : Good 1 (l.map eR) := Good.map (f := eR) (fun _ => ⟨rfl, rfl⟩) l
theorem good_eA (l : List At) : Good 2 (l.map eA) := Good.map (f := eA) (fun _ => ⟨rfl, rfl⟩) l
theorem good_eN (l : List Nd) : Good 4 (l.map eN) := Good.map (f := eN) (fun n => by rw [eN_eq]; exact ⟨rfl, rfl⟩) l
theorem good_eIs (l : List (List Int)) : Good 1 (l.map eIs) := Good.map (f := eIs) (fun _ => ⟨rfl, rfl⟩) l
theorem good_ePt (l : List Pnt) : Good 2 (l.map ePt) := Good.map (f := ePt) (fun _ => ⟨rfl, rfl⟩) l
theorem good_eP (l : List Pos) : Good 2 (l.map eP) := Good.map (f := eP) (fun _ => ⟨rfl, rfl⟩) l
theorem eN_solid (n : Nd) : (eN n).solid = true := by rw [eN_eq]; rfl
theorem eN_flen (n : Nd) : (flat (eN n)).length = 4 := by rw [eN_eq]; rfl
theorem good_eC (l : List Cel) : Good 3 (l.map eC) := Good.map (f := eC) (fun _ => ⟨rfl, rfl⟩) l
theorem good_eL (l : List Lin) : Good 4 (l.map eL) := Good.map (f := eL) (fun _ => ⟨rfl, rfl⟩) l
theorem dat_map {α : Type} {f : α → IV} (h : ∀ x, Dat (f x)) (l : List α) : ∀ y ∈ l.map f, Dat y := fun y hy => by
  obtain ⟨x, _, rfl⟩ := List.mem_map.1 hy
  exact h x
theorem dat_eI (n : Int) : Dat (eI n) := .int _ _
theorem dat_eIs (l : List Int) : Dat (eIs l) := .sl (dat_map dat_eI l)
theorem dat_eR (n : Int) : Dat (eR n) := .int _ _
theorem dat_eRs (l : List Int) : Dat (eRs l) := .sl (dat_map dat_eR l)
theorem dat_cons {x : IV} {l : List IV} (h : Dat x) (k : ∀ y ∈ l, Dat y) : ∀ y ∈ x :: l, Dat y := fun y hy => (List.mem_cons.1 hy).elim (fun e => e ▸ h) (k y)
theorem dat_nil : ∀ y ∈ ([] : List IV), Dat y := fun _ h => by cases h
theorem dat_eA (a : At) : Dat (eA a) := .agg (dat_cons (.str _) (dat_cons (.str _) dat_nil))
theorem dat_eAs (l : List At) : Dat (eAs l) := .sl (dat_map dat_eA l)
mutual
theorem dat_eN : ∀ n : Nd, Dat (eN n)
  | .mk t a x k => by
    rw [eN]
    exact .agg (dat_cons (.int _ _) (dat_cons (dat_eAs a) (dat_cons (.str _) (dat_cons (.sl (dat_eNl k)) dat_nil))))
theorem dat_eNl : ∀ l : List Nd, ∀ y ∈ eNl l, Dat y
  | [] => fun _ h => by cases h
  | n :: l => dat_cons (dat_eN n) (dat_eNl l)
end
theorem dat_eNs (l : List Nd) : Dat (eNs l) := .sl (dat_map dat_eN l)
theorem dat_eC (c : Cel) : Dat (eC c) := .agg (dat_cons (.int _ _) (dat_cons (.int _ _) (dat_cons (.str _) dat_nil)))
theorem dat_eCs (l : List Cel) : Dat (eCs l) := .sl (dat_map dat_eC l)
theorem dat_eL (l : Lin) : Dat (eL l) := .agg (dat_cons (.int _ _) (dat_cons (dat_eIs _) (dat_cons (.int _ _) (dat_cons (dat_eCs _) dat_nil))))
theorem dat_eLs (l : List Lin) : Dat (eLs l) := .sl (dat_map dat_eL l)
theorem dat_eP (p : Pos) : Dat (eP p) := .agg (dat_cons (.int _ _) (dat_cons (.int _ _) dat_nil))
theorem dat_ePt (p : Pnt) : Dat (ePt p) := .agg (dat_cons (dat_eIs _) (dat_cons (.int _ _) dat_nil))

/-- Normal forms of frames and blocks. -/
theorem nf :
    (∀ t ds d v, IA.put ⟨t, ds⟩ (some d) v = ⟨t.set d v, ds⟩) ∧ (∀ a v, IA.put a none v = a) ∧ (∀ t ds i, ev ⟨t, ds⟩ (.tmp i) = t.getD i .junk) ∧ (∀ a v, ev a (.const v) = cst v) ∧
    (∀ a f, ev a (.func f) = .fn (.func f) [] []) ∧ (∀ k n, cst (.int k n) = .int k n) ∧ (∀ b, cst (.bool b) = .bool b) ∧ (∀ b, cst (.string b) = .str b) ∧ (cst (.slice none 0 0) = .nils) ∧ (cst (.pointer none) = .nilp) ∧ (cst .nilFunc = .nilf) ∧
    (∀ vs : List Value, cst (.agg vs.toArray) = .agg (vs.map cst1)) ∧ (∀ k n, cst1 (.int k n) = .int k n) ∧ (∀ b, cst1 (.bool b) = .bool b) ∧ (∀ b, cst1 (.string b) = .str b) ∧ (cst1 (.slice none 0 0) = .nils) ∧ (cst1 (.pointer none) = .nilp) ∧ (cst1 .nilFunc = .nilf) ∧
    (∀ (x : IV) xs d, List.getD (x :: xs) 0 d = x) ∧ (∀ (x : IV) xs d n, List.getD (x :: xs) (n + 1) d = List.getD xs n d) ∧ (∀ (x : IV) xs d, List.set (x :: xs) 0 d = d :: xs) ∧ (∀ (x : IV) xs d n, List.set (x :: xs) (n + 1) d = x :: List.set xs n d) ∧
    (∀ (x : IObj) xs d, List.set (x :: xs) 0 d = d :: xs) ∧ (∀ (x : IObj) xs d n, List.set (x :: xs) (n + 1) d = x :: List.set xs n d) ∧
    (∀ cs off us, wr cs off us = cs.take off ++ us ++ cs.drop (off + us.length)) ∧ (∀ (x : IV) xs n, List.take (n + 1) (x :: xs) = x :: xs.take n) ∧ (∀ xs : List IV, xs.take 0 = []) ∧ (∀ (x : IV) xs n, List.drop (n + 1) (x :: xs) = xs.drop n) ∧ (∀ xs : List IV, xs.drop 0 = xs) ∧
    (∀ n, List.take n ([] : List IV) = []) ∧ (∀ n, List.drop n ([] : List IV) = []) ∧
    (∀ (x : IV) xs ys, (x :: xs) ++ ys = x :: (xs ++ ys)) ∧ (∀ xs : List IV, [] ++ xs = xs) ∧ (∀ xs : List IV, xs ++ [] = xs) ∧ (∀ (x : IObj) xs ys, (x :: xs) ++ ys = x :: (xs ++ ys)) ∧ (∀ xs : List IObj, [] ++ xs = xs) ∧
    (∀ (x : IV) xs, (x :: xs).length = xs.length + 1) ∧ (([] : List IV).length = 0) ∧ (∀ (x : IObj) xs, (x :: xs).length = xs.length + 1) ∧ (([] : List IObj).length = 0) ∧
    (∀ xs, flat (.agg xs) = xs) ∧ (∀ k n, flat (.int k n) = [.int k n]) ∧ (∀ b, flat (.bool b) = [.bool b]) ∧ (∀ b, flat (.str b) = [.str b]) ∧ (flat .nils = [.nils]) ∧ (∀ b xs, flat (.sl b xs) = [.sl b xs]) ∧ (∀ k n, flat (.row k n) = [.row k n]) ∧ (∀ k n, flat (.ptr k n) = [.ptr k n]) ∧
    (∀ f fs cs, flat (.fn f fs cs) = [.fn f fs cs]) ∧ (flat .nilp = [.nilp]) ∧ (flat .nilf = [.nilf]) ∧ (∀ cs, flat (.dptr cs) = [.dptr cs]) ∧
    (∀ n, flat (eN n) = [.int .i64 n.tag, eAs n.attrs, .str n.text, eNs n.kids]) ∧ (∀ c, flat (eC c) = [.int .i32 c.r, .int .i64 c.bits, .str c.href]) ∧ (∀ l, flat (eL l) = [.int .i64 l.quote, eIs l.lists, .int .i64 l.kind, eCs l.cells]) ∧
    (∀ a, flat (eA a) = [.str a.name, .str a.value]) ∧ (∀ p, flat (eP p) = [.int .i64 p.line, .int .i64 p.at_]) ∧ (∀ p, flat (ePt p) = [eIs p.path, .int .i64 p.at_]) ∧ (∀ n, flat (eI n) = [.int .i64 n]) ∧ (∀ n, flat (eR n) = [.int .i32 n]) ∧
    (∀ l, flat (eNs l) = [eNs l]) ∧ (∀ l, flat (eAs l) = [eAs l]) ∧ (∀ l, flat (eCs l) = [eCs l]) ∧ (∀ l, flat (eLs l) = [eLs l]) ∧ (∀ l, flat (eIs l) = [eIs l]) ∧ (∀ l, flat (eRs l) = [eRs l]) ∧ (∀ (f : Value → IV) x xs, List.map f (x :: xs) = f x :: List.map f xs) ∧ (∀ (f : Value → IV), List.map f [] = []) ∧ (∀ (f : Operand → IV) x xs, List.map f (x :: xs) = f x :: List.map f xs) ∧ (∀ (f : Operand → IV), List.map f [] = []) ∧ (∀ (f : Nat × Operand → IV) x xs, List.map f (x :: xs) = f x :: List.map f xs) ∧ (∀ (f : Nat × Operand → IV), List.map f [] = []) ∧ (∀ f xs, IV.len (.sl f xs) = xs.length) ∧ (IV.len .nils = 0) ∧ (∀ k n, IV.len (.row k n) = n) ∧ (∀ l, IV.len (eNs l) = l.length) ∧ (∀ l, IV.len (eAs l) = l.length) ∧ (∀ l, IV.len (eCs l) = l.length) ∧ (∀ l, IV.len (eLs l) = l.length) ∧ (∀ l, IV.len (eIs l) = l.length) ∧ (∀ l, IV.len (eRs l) = l.length) ∧
    (∀ n : Nd, IV.agg [.int .i64 n.tag, eAs n.attrs, .str n.text, eNs n.kids] = eN n) ∧ (∀ c : Cel, IV.agg [.int .i32 c.r, .int .i64 c.bits, .str c.href] = eC c) ∧ (∀ l : Lin, IV.agg [.int .i64 l.quote, eIs l.lists, .int .i64 l.kind, eCs l.cells] = eL l) ∧
    (∀ a : At, IV.agg [.str a.name, .str a.value] = eA a) ∧ (∀ p : Pos, IV.agg [.int .i64 p.line, .int .i64 p.at_] = eP p) ∧ (∀ p : Pnt, IV.agg [eIs p.path, .int .i64 p.at_] = ePt p) := by
  refine ⟨?_, ?_, ?_, ?_, ?_, ?_, ?_, ?_, ?_, ?_, ?_, ?_, ?_, ?_, ?_, ?_, ?_, ?_, ?_, ?_, ?_, ?_, ?_, ?_, ?_, ?_, ?_, ?_, ?_, ?_, ?_, ?_, ?_, ?_, ?_, ?_, ?_, ?_, ?_, ?_, ?_, ?_, ?_, ?_, ?_, ?_, ?_, ?_, ?_, ?_, ?_, ?_, ?_, ?_, ?_, ?_, ?_, ?_, ?_, ?_, ?_, ?_, ?_, ?_, ?_, ?_, ?_, ?_, ?_, ?_, ?_, ?_, ?_, ?_, ?_, ?_, ?_, ?_, ?_, ?_, ?_, ?_, ?_, ?_, ?_, ?_, ?_⟩ <;> intros <;> first | rfl | simp | exact List.length_map .. | (rw [eN_eq]; rfl) | (rw [eN_eq])
end Go.QL
end

/- Part 1 of the texts below the theorem of the last part. -/
import Derived.Laws.Cover4
import Derived.Laws.IdiomStrings
import Derived.RangeFuncRecord
import Derived.KernelRfl
import Derived.Test.YtokbhcnomffopaaGreatDoorMint0
section
/- QL, part l: a region that draws its order. Plain; no program in sight. -/
set_option linter.unusedVariables false
set_option linter.unusedSimpArgs false
namespace Go.QL
open Go Go.RowKit

/-- What must be done ahead of an operation, whatever order is drawn. -/
def deps (o : Oper) : List Nat := (o.after.toList.filter (Region.binds .any)).map (·.on)
/-- .. through others, too. -/
def bef (l : List Oper) : Nat → Nat → Nat → Bool
  | 0, _, _ => false
  | n + 1, t, i => match l[t]? with
    | none => false
    | some o => (deps o).any fun d => d == i || bef l n d i
def looks (l : List Oper) (o : Oper) : List Tmp :=
  (o.op.operands.toList.filterMap fun x => match x with | .tmp t => some t | _ => none) ++ (match o.guard with | none => [] | some (j, _) => ((l[j]?).bind (·.dst)).toList)
def qchk (l : List Oper) (p : Nat) : Bool :=
  -- no two write one slot
  ((List.range p).all fun i => (List.range p).all fun j => i == j || !(match l[i]?, l[j]? with | some x, some y => x.dst.isSome && x.dst == y.dst | _, _ => false)) &&
  -- who reads a slot that another one writes is ordered with it
  ((List.range p).all fun i => match l[i]? with
    | none => false
    | some o => (looks l o).all fun t => (List.range p).all fun j => match l[j]? with
      | none => false
      | some x => !(x.dst == some t) || i == j || (decide (j < i) && (deps o).contains j) || (decide (i < j) && (deps x).contains i)) &&
  -- an operation of the first part waits for earlier ones alone
  ((List.range p).all fun i => match l[i]? with | none => false | some o => (deps o).all fun d => decide (d < i)) &&
  -- the second part waits for the whole first
  ((List.range l.length).all fun t => decide (t < p) || (List.range p).all fun i => bef l l.length t i)

def IGm (P : Program) (r : RN) (ops : Array Oper) (Q : IPost) (n : Nat) (L : Array Bool) (a : IA) (σ : List IObj) : Prop :=
  ∀ W0 D ρ w A, St W0 D ρ σ w → FR D ρ a A → wpAnyIn (Wd r) 0 P .any ops (lift r.n W0 D ρ Q) n L A w
def IGi (P : Program) (r : RN) (ops : Array Oper) (Q : IPost) (n : Nat) (L : Array Bool) (a : IA) (σ : List IObj) (i : Nat) : Prop :=
  ∀ W0 D ρ w A, St W0 D ρ σ w → FR D ρ a A → wpOpIn (Wd r) 0 P ops (lift r.n W0 D ρ Q) i (wpAnyIn (Wd r) 0 P .any ops (lift r.n W0 D ρ Q) n (L.setIfInBounds i true)) A w
section
variable {P : Program} {r : RN} {Q : IPost} {a : IA} {σ : List IObj} {ops : Array Oper} {L : Array Bool} {n : Nat}
theorem St.drew {W0 : Base} {D : DM} {ρ : List Slot} {w : World} (h : St W0 D ρ σ w) (d : Nat) : St W0 D ρ σ { w with drawn := d } := by
  refine (h.grew (D' := D) (w' := { w with drawn := d }) ⟨rfl, rfl, rfl, Nat.le_refl _, fun _ _ => rfl⟩ (fun _ _ _ h => h) (fun _ _ _ h => .inl h)).1
theorem ic_draw {id : Nat} {l : List Oper} (hm : P.follows .mixedOrders = true) (h : IGm P r l.toArray Q l.length (Array.replicate l.length false) a σ) : IC P r (.region id l.toArray true) Q a σ := by
  intro W0 D ρ w A hs hf
  refine wpIn_region_any hm ?_
  have := h W0 D ρ _ A (hs.drew (w.drawn + 1)) hf
  simpa using this
theorem ig_done (hr : Region.ready .any ops L = []) (h : Q .normal a σ) : IGm P r ops Q n L a σ := by
  intro W0 D ρ w A hs hf
  have hq : lift r.n W0 D ρ Q .normal A w := ⟨D, ρ, a, σ, .take0 _ _ _, hs, hf, h⟩
  cases n with
  | zero => exact ⟨hr, hq⟩
  | succ n => exact ⟨fun _ => hq, fun i hi => by rw [hr] at hi; cases hi⟩
theorem ig_ready {rs : List Nat} (hr : Region.ready .any ops L = rs) (hne : rs ≠ []) (h : ∀ i ∈ rs, IGi P r ops Q n L a σ i) : IGm P r ops Q (n + 1) L a σ := by
  intro W0 D ρ w A hs hf
  exact ⟨fun h0 => absurd (hr ▸ h0) hne, fun i hi => h i (hr ▸ hi) W0 D ρ w A hs hf⟩
theorem wpOpIn_weaken {F : Fence} {m : Nat} {i : Nat} {K K' : Act → World → Prop} {Q Q' : Exit → Act → World → Prop} {A : Act} {w : World} (hk : ∀ a w, K a w → K' a w) (hq : ∀ e a w, Q e a w → Q' e a w) (h : wpOpIn F m P ops Q i K A w) : wpOpIn F m P ops Q' i K' A w := by
  unfold wpOpIn at *
  split
  · exact hk _ _ (by simpa [*] using h)
  · rename_i o ho
    simp only [ho] at h
    split
    · rename_i hw; simp only [hw, if_true] at h; exact wpIn_weaken hk hq h
    · rename_i hw; simp only [hw] at h; exact ⟨h.1, hk _ _ h.2⟩
theorem wpAnyIn_weaken {F : Fence} {m : Nat} {Q Q' : Exit → Act → World → Prop} (hq : ∀ e a w, Q e a w → Q' e a w) : ∀ (n : Nat) {L : Array Bool} {A : Act} {w : World}, wpAnyIn F m P .any ops Q n L A w → wpAnyIn F m P .any ops Q' n L A w
  | 0, _, _, _, h => ⟨h.1, hq _ _ _ h.2⟩
  | n + 1, _, _, _, h => ⟨fun h0 => hq _ _ _ (h.1 h0), fun i hi => wpOpIn_weaken (fun _ _ h => wpAnyIn_weaken hq n h) hq (h.2 i hi)⟩
theorem igi_op {i : Nat} {o : Oper} {v : IV} {σ1 : List IObj} (ho : ops[i]? = some o) (hg : o.guard = none) (h : OpQ P r o (ev a) σ v σ1) (k : IGm P r ops Q n (L.setIfInBounds i true) (a.put o.dst v) σ1) : IGi P r ops Q n L a σ i := by
  intro W0 D ρ w A hs hf
  unfold wpOpIn
  rw [ho]
  simp only
  rw [if_pos (by simp [Region.wanted, hg])]
  refine wpIn_weaken ?_ (fun _ _ _ hf => hf.elim) (h W0 D ρ w A hs fun x _ => hf.ev x)
  rintro A' w' ⟨D', ρ', v', val, σ', rfl, x, s', hv, rfl, rfl⟩
  exact wpAnyIn_weaken (fun e A w q => lift_ext x q) n (k W0 D' ρ' w' _ s' ((hf.ext x).put hv o.dst))

/-- The first part, in the text's order; the blocks stay as they are. -/
def IQ (P : Program) (r : RN) (l : List Oper) (σ : List IObj) (K : IA → Prop) : List Oper → IA → Prop
  | [], a => K a
  | o :: rest, a =>
    match o.guard with
    | none => ∃ v, OpQ P r o (ev a) σ v σ ∧ IQ P r l σ K rest (a.put o.dst v)
    | some (j, b) => (gv l.toArray a j = .bool b ∧ ∃ v, OpQ P r o (ev a) σ v σ ∧ IQ P r l σ K rest (a.put o.dst v)) ∨ ((gv l.toArray a j = .bool (!b) ∨ gv l.toArray a j = .und) ∧ IQ P r l σ K rest (a.put o.dst .und))
/-- One operation of the first part at frame a leaves v. -/
def Step1 (P : Program) (r : RN) (l : List Oper) (σ : List IObj) (o : Oper) (a : IA) (v : IV) : Prop :=
  match o.guard with
  | none => OpQ P r o (ev a) σ v σ
  | some (j, b) => (gv l.toArray a j = .bool b ∧ OpQ P r o (ev a) σ v σ) ∨ ((gv l.toArray a j = .bool (!b) ∨ gv l.toArray a j = .und) ∧ v = .und)
def pref (pre : List Oper) (vals : List IV) (a : IA) : IA := (pre.zip vals).foldl (fun a p => a.put p.1.dst p.2) a
theorem IQ.vals {l : List Oper} {K : IA → Prop} : ∀ {pre : List Oper} {a : IA}, IQ P r l σ K pre a → ∃ vals : List IV, vals.length = pre.length ∧ (∀ (i : Nat) o v, pre[i]? = some o → vals[i]? = some v → Step1 P r l σ o (pref (pre.take i) (vals.take i) a) v) ∧ K (pref pre vals a)
  | [], a, h => ⟨[], rfl, fun i o v e => by simp at e, h⟩
  | o :: rest, a, h => by
    have key : ∀ v, Step1 P r l σ o a v → IQ P r l σ K rest (a.put o.dst v) → ∃ vals : List IV, vals.length = (o :: rest).length ∧ (∀ (i : Nat) o' v, (o :: rest)[i]? = some o' → vals[i]? = some v → Step1 P r l σ o' (pref ((o :: rest).take i) (vals.take i) a) v) ∧ K (pref (o :: rest) vals a) := by
      intro v hv hrest
      obtain ⟨vals, h1, h2, h3⟩ := hrest.vals
      refine ⟨v :: vals, by simp [h1], fun i o' u e e' => ?_, h3⟩
      rcases i with _ | i
      · simp only [List.getElem?_cons_zero, Option.some.injEq] at e e'
        subst e; subst e'
        exact hv
      · exact h2 i o' u e e'
    unfold IQ at h
    cases hg : o.guard with
    | none =>
      rw [hg] at h
      obtain ⟨v, h1, h2⟩ := h
      exact key v (by unfold Step1; rw [hg]; exact h1) h2
    | some q =>
      obtain ⟨j, b⟩ := q
      rw [hg] at h
      rcases h with ⟨h0, v, h1, h2⟩ | ⟨h0, h2⟩
      · exact key v (by unfold Step1; rw [hg]; exact .inl ⟨h0, h1⟩) h2
      · exact key .und (by unfold Step1; rw [hg]; exact .inr ⟨h0, rfl⟩) h2
/-! ### the first part in whatever order -/
theorem qchk_spec {l : List Oper} {p : Nat} (h : qchk l p = true) :
    (∀ (i j : Nat) x y t, i < p → j < p → l[i]? = some x → l[j]? = some y → x.dst = some t → y.dst = some t → i = j) ∧
    (∀ (i j : Nat) o x t, i < p → j < p → l[i]? = some o → l[j]? = some x → t ∈ looks l o → x.dst = some t → i = j ∨ (j < i ∧ j ∈ deps o) ∨ (i < j ∧ i ∈ deps x)) ∧
    (∀ (i : Nat) o, i < p → l[i]? = some o → ∀ d ∈ deps o, d < i) ∧
    (∀ t i, t < l.length → p ≤ t → i < p → bef l l.length t i = true) := by
  simp only [qchk, Bool.and_eq_true, List.all_eq_true, List.mem_range] at h
  obtain ⟨⟨⟨h1, h2⟩, h3⟩, h4⟩ := h
  refine ⟨fun i j x y t hi hj ex ey hx hy => ?_, fun i j o x t hi hj eo ex ht hx => ?_, fun i o hi eo d hd => ?_, fun t i ht hp hi => ?_⟩
  · have := h1 i hi j hj
    rw [ex, ey] at this
    simp [hx, hy] at this
    exact this
  · have := h2 i hi
    rw [eo] at this
    simp only [List.all_eq_true, List.mem_range] at this
    have := this t ht j hj
    rw [ex] at this
    simp [hx] at this
    rcases this with (h | h) | h
    · exact .inl h
    · exact .inr (.inl h)
    · exact .inr (.inr h)
  · have := h3 i hi
    rw [eo] at this
    simp only [List.all_eq_true, decide_eq_true_eq] at this
    exact this d hd
  · have := h4 t ht
    simp only [Bool.or_eq_true, decide_eq_true_eq, List.all_eq_true, List.mem_range] at this
    rcases this with h | h
    · omega
    · exact h i hi
theorem pref_succ {pre : List Oper} {vals : List IV} {i : Nat} {o : Oper} {v : IV} (ho : pre[i]? = some o) (hv : vals[i]? = some v) : pref (pre.take (i + 1)) (vals.take (i + 1)) a = (pref (pre.take i) (vals.take i) a).put o.dst v := by
  obtain ⟨h1, rfl⟩ := List.getElem?_eq_some_iff.1 ho
  obtain ⟨h2, rfl⟩ := List.getElem?_eq_some_iff.1 hv
  unfold pref
  rw [List.take_succ_eq_append_getElem h1, List.take_succ_eq_append_getElem h2, List.zip_append (by simp; omega), List.foldl_append]
  rfl
theorem put_get {a : IA} {d : Option Tmp} {v : IV} {t : Nat} (h : d ≠ some t) : (a.put d v).tmps[t]? = a.tmps[t]? := by
  cases d with
  | none => rfl
  | some d => simp only [IA.put]; rw [List.getElem?_set_ne (fun e => h (by rw [e]))]
theorem put_len {a : IA} {d : Option Tmp} {v : IV} : (a.put d v).tmps.length = a.tmps.length := by
  cases d <;> simp [IA.put]
theorem put_defers {a : IA} {d : Option Tmp} {v : IV} : (a.put d v).defers = a.defers := by
  cases d <;> rfl
theorem pref_len {pre : List Oper} {vals : List IV} : ∀ (i : Nat), i ≤ pre.length → vals.length = pre.length → (pref (pre.take i) (vals.take i) a).tmps.length = a.tmps.length ∧ (pref (pre.take i) (vals.take i) a).defers = a.defers
  | 0, _, _ => ⟨rfl, rfl⟩
  | i + 1, h, hl => by
    have h1 : pre[i]? = some pre[i] := List.getElem?_eq_getElem (by omega)
    have h2 : vals[i]? = some (vals[i]'(by omega)) := List.getElem?_eq_getElem (by omega)
    rw [pref_succ h1 h2, put_len, put_defers]
    exact pref_len i (by omega) hl
theorem pref_old {pre : List Oper} {vals : List IV} {t : Nat} : ∀ (i : Nat), i ≤ pre.length → vals.length = pre.length → (∀ (j : Nat) o, j < i → pre[j]? = some o → o.dst ≠ some t) → (pref (pre.take i) (vals.take i) a).tmps[t]? = a.tmps[t]?
  | 0, _, _, _ => rfl
  | i + 1, h, hl, hn => by
    have h1 : pre[i]? = some pre[i] := List.getElem?_eq_getElem (by omega)
    have h2 : vals[i]? = some (vals[i]'(by omega)) := List.getElem?_eq_getElem (by omega)
    rw [pref_succ h1 h2, put_get (hn i _ (by omega) h1)]
    exact pref_old i (by omega) hl fun j o hj => hn j o (by omega)
theorem pref_new {pre : List Oper} {vals : List IV} {t j : Nat} {o : Oper} {v : IV} (ho : pre[j]? = some o) (hv : vals[j]? = some v) (hd : o.dst = some t) (ht : t < a.tmps.length) (hu : ∀ (k : Nat) x, pre[k]? = some x → x.dst = some t → k = j) :
    ∀ (i : Nat), j < i → i ≤ pre.length → vals.length = pre.length → (pref (pre.take i) (vals.take i) a).tmps[t]? = some v
  | 0, h, _, _ => by omega
  | i + 1, hj, h, hl => by
    have h1 : pre[i]? = some pre[i] := List.getElem?_eq_getElem (by omega)
    have h2 : vals[i]? = some (vals[i]'(by omega)) := List.getElem?_eq_getElem (by omega)
    rw [pref_succ h1 h2]
    by_cases hij : i = j
    · subst hij
      rw [ho] at h1
      rw [hv] at h2
      have e1 := Option.some.inj h1
      have e2 := Option.some.inj h2
      rw [← e1, ← e2, hd]
      simp only [IA.put]
      rw [List.getElem?_set_self (by rw [(pref_len i (by omega) hl).1]; exact ht)]
    · rw [put_get (fun e => hij (hu i _ h1 e))]
      exact pref_new ho hv hd ht hu i (by omega) (by omega) hl
theorem bef_closed {l : List Oper} {L : Array Bool} (hc : ∀ (i : Nat) o, l[i]? = some o → L.getD i false = true → ∀ d ∈ deps o, L.getD d false = true) :
    ∀ (n t i : Nat) o, l[t]? = some o → (∀ d ∈ deps o, L.getD d false = true) → bef l n t i = true → L.getD i false = true
  | 0, t, i, o, _, _, h => by cases h
  | n + 1, t, i, o, ho, hd, h => by
    simp only [bef, ho, List.any_eq_true, Bool.or_eq_true, beq_iff_eq] at h
    obtain ⟨d, hdm, h⟩ := h
    rcases h with rfl | h
    · exact hd d hdm
    · cases hx : l[d]? with
      | none => cases n <;> simp [bef, hx] at h
      | some x => exact bef_closed hc n d i x hx (hc d x hx (hd d hdm)) h

structure FRL (l : List Oper) (p : Nat) (vals : List IV) (a : IA) (D : DM) (ρ : List Slot) (L : Array Bool) (A : Act) : Prop where
  sz : a.tmps.length = A.tmps.size
  old : ∀ (t : Nat) u v, a.tmps[t]? = some u → A.tmps[t]? = some v → (∀ (i : Nat) o, i < p → l[i]? = some o → o.dst = some t → L.getD i false = false) → VR D ρ u v
  new : ∀ (i : Nat) o u v t, i < p → l[i]? = some o → o.dst = some t → L.getD i false = true → vals[i]? = some u → A.tmps[t]? = some v → VR D ρ u v
  d : DR ρ a.defers A.defers
theorem FRL.ext {l : List Oper} {p : Nat} {vals : List IV} {D D' : DM} {ρ ρ' : List Slot} {A : Act} (h : FRL l p vals a D ρ L A) (x : Ext D ρ D' ρ') : FRL l p vals a D' ρ' L A :=
  ⟨h.sz, fun t u v e e' k => (h.old t u v e e' k).ext x, fun i o u v t h1 h2 h3 h4 h5 h6 => (h.new i o u v t h1 h2 h3 h4 h5 h6).ext x, h.d.ext x⟩
/-- What operation i reads is as in the text's order. -/
theorem FRL.at_ {l : List Oper} {p : Nat} {vals : List IV} {D : DM} {ρ : List Slot} {A : Act} (h : FRL l p vals a D ρ L A) (hp : p ≤ l.length) (hvl : vals.length = p) (hchk : qchk l p = true)
    (hc : ∀ (i : Nat) o, i < p → l[i]? = some o → L.getD i false = true → ∀ d ∈ deps o, L.getD d false = true) {i : Nat} {o : Oper} (hi : i < p) (ho : l[i]? = some o) (hL : L.getD i false = false) (hd : ∀ d ∈ deps o, L.getD d false = true)
    {t : Tmp} (ht : t ∈ looks l o) : VR D ρ (ev (pref ((l.take p).take i) (vals.take i) a) (.tmp t)) (A.eval (.tmp t)) := by
  obtain ⟨c1, c2, c3, c4⟩ := qchk_spec hchk
  have hlp : (l.take p).length = p := by simp; omega
  have hget : ∀ (j : Nat) x, (l.take p)[j]? = some x → l[j]? = some x ∧ j < p := by
    intro j x e
    rw [List.getElem?_take] at e
    split at e
    · exact ⟨e, by assumption⟩
    · cases e
  obtain ⟨hplen, _⟩ := pref_len (a := a) (pre := l.take p) (vals := vals) i (by omega) (by omega)
  simp only [ev, Act.eval]
  rcases Nat.lt_or_ge t a.tmps.length with htl | htl
  · have htA : t < A.tmps.size := h.sz ▸ htl
    have eA : A.tmps[t]? = some (A.tmps.getD t undef) := by simp [Array.getD, htA]
    have ea : a.tmps[t]? = some a.tmps[t] := List.getElem?_eq_getElem htl
    have fin : ∀ u, (pref ((l.take p).take i) (vals.take i) a).tmps[t]? = some u → VR D ρ u (A.tmps.getD t undef) → VR D ρ ((pref ((l.take p).take i) (vals.take i) a).tmps.getD t .junk) (A.tmps.getD t undef) := by
      intro u e hv
      rw [List.getD_eq_getElem?_getD, e]
      exact hv
    have oldCase : (∀ (k : Nat) x, k < p → l[k]? = some x → x.dst = some t → L.getD k false = false) → (∀ (k : Nat) x, k < i → l[k]? = some x → x.dst ≠ some t) → VR D ρ ((pref ((l.take p).take i) (vals.take i) a).tmps.getD t .junk) (A.tmps.getD t undef) := by
      intro hun hno
      refine fin _ ?_ (h.old t _ _ ea eA hun)
      rw [pref_old i (by omega) (by omega) fun j x hj e => hno j x hj (hget j x e).1]
      exact ea
    by_cases hw : ∃ (j : Nat) (x : Oper), j < p ∧ l[j]? = some x ∧ x.dst = some t
    · obtain ⟨j, x, hj, hx, hxd⟩ := hw
      rcases c2 i j o x t hi hj ho hx ht hxd with rfl | ⟨hlt, hdep⟩ | ⟨hlt, hdep⟩
      · refine oldCase (fun k y hk hy hyd => ?_) (fun k y hk hy hyd => ?_)
        · rw [c1 k i y x t hk hj hy hx hyd hxd]; exact hL
        · have := c1 k i y x t (by omega) hj hy hx hyd hxd; omega
      · have hLj := hd j hdep
        have hvj : vals[j]? = some (vals[j]'(by omega)) := List.getElem?_eq_getElem (by omega)
        refine fin _ (pref_new (pre := l.take p) (j := j) (o := x) (by rw [List.getElem?_take, if_pos hj]; exact hx) hvj hxd htl (fun k y hy hyd => c1 k j y x t (hget k y hy).2 hj (hget k y hy).1 hx hyd hxd) i hlt (by omega) (by omega)) (h.new j x _ _ t hj hx hxd hLj hvj eA)
      · have hLj : L.getD j false = false := by
          cases hb : L.getD j false with
          | false => rfl
          | true => have := hc j x hj hx hb i hdep; rw [hL] at this; cases this
        refine oldCase (fun k y hk hy hyd => ?_) (fun k y hk hy hyd => ?_)
        · rw [c1 k j y x t hk hj hy hx hyd hxd]; exact hLj
        · have := c1 k j y x t (by omega) hj hy hx hyd hxd; omega
    · exact oldCase (fun k y hk hy hyd => absurd ⟨k, y, hk, hy, hyd⟩ hw) (fun k y hk hy hyd => hw ⟨k, y, by omega, hy, hyd⟩)
  · have e0 : (pref ((l.take p).take i) (vals.take i) a).tmps[t]? = none := List.getElem?_eq_none (by rw [hplen]; exact htl)
    rw [List.getD_eq_getElem?_getD, e0]
    exact .junk _
theorem VR.ev_other {D : DM} {ρ : List Slot} {a : IA} {A : Act} {x : Operand} (h : ∀ t, x ≠ .tmp t) : VR D ρ (ev a x) (A.eval x) := by
  cases x with
  | tmp t => exact absurd rfl (h t)
  | const v => exact vr_cst _ _ v
  | global g => exact .junk _
  | func f => exact .fn _ _ _ _ _ rfl rfl (fun i u v e _ => by simp at e) (fun i u v e _ => by simp at e)
theorem yield_of {D : DM} {ρ : List Slot} {ops : Array Oper} {a : IA} {A : Act} {j : Nat} {x : Oper} {t : Tmp} (hx : ops[j]? = some x) (hd : x.dst = some t) (h : VR D ρ (ev a (.tmp t)) (A.eval (.tmp t))) :
    (∀ b, gv ops a j = .bool b → yielded ops A.tmps j = some b) ∧ (gv ops a j = .und → yielded ops A.tmps j = none) := by
  simp only [ev, Act.eval] at h
  constructor
  · intro b hb
    simp only [gv, hx, Option.bind_some, hd] at hb
    rw [hb] at h
    have h := h.bool_inv
    have ht' : t < A.tmps.size := by
      rcases Nat.lt_or_ge t A.tmps.size with h' | h'
      · exact h'
      · simp [Array.getD, Nat.not_lt.2 h', undef] at h
    simp [Array.getD, ht'] at h
    simp [yielded, hx, hd, ht', h]
  · intro hb
    simp only [gv, hx, Option.bind_some, hd] at hb
    rw [hb] at h
    cases hv : A.tmps.getD t undef <;> rw [hv] at h <;> cases h
    rcases Nat.lt_or_ge t A.tmps.size with h' | h'
    · simp [Array.getD, h'] at hv
      simp [yielded, hx, hd, h', hv]
    · simp [yielded, hx, hd, h']
def cntU (L : Array Bool) (p : Nat) : Nat := ((List.range p).filter fun i => !L.getD i false).length
theorem cntU_set {L : Array Bool} {p i : Nat} (hi : i < p) (hs : i < L.size) (hL : L.getD i false = false) : cntU (L.setIfInBounds i true) p + 1 = cntU L p := by
  unfold cntU
  have key : ∀ q, ((List.range q).filter fun j => !(L.setIfInBounds i true).getD j false).length + (if i < q then 1 else 0) = ((List.range q).filter fun j => !L.getD j false).length := by
    intro q
    induction q with
    | zero => simp
    | succ q ih =>
      rw [List.range_succ, List.filter_append, List.filter_append, List.length_append, List.length_append]
      by_cases hq : i = q
      · subst hq
        have e1 : (L.setIfInBounds i true).getD i false = true := by simp [Array.getD, hs]
        simp only [List.filter_cons, List.filter_nil, e1, hL, Bool.not_true, Bool.not_false, if_true, if_false, List.length_nil, List.length_singleton, Bool.false_eq_true]
        rw [if_pos (by omega)]
        rw [if_neg (by omega)] at ih
        omega
      · have e1 : (L.setIfInBounds i true).getD q false = L.getD q false := by
          simp only [Array.getD, Array.size_setIfInBounds]
          split
          · exact Array.getElem_setIfInBounds_ne _ hq
          · rfl
        simp only [List.filter_cons, List.filter_nil, e1]
        by_cases h2 : i < q
        · have h3 : i < q + 1 := by omega
          simp only [h2, h3, if_true] at ih ⊢
          omega
        · have h3 : ¬ i < q + 1 := by omega
          simp only [h2, h3, if_false] at ih ⊢
          omega
  have := key p
  rw [if_pos hi] at this
  exact this
theorem cntU_zero {L : Array Bool} {p : Nat} (h : cntU L p = 0) : ∀ i, i < p → L.getD i false = true := by
  intro i hi
  unfold cntU at h
  have := List.eq_nil_of_length_eq_zero h
  rw [List.filter_eq_nil_iff] at this
  simpa using this i (List.mem_range.2 hi)
theorem getD_set_eq {L : Array Bool} {i j : Nat} (hi : i < L.size) : (L.setIfInBounds i true).getD j false = if j = i then true else L.getD j false := by
  by_cases h : j = i
  · subst h; simp [Array.getD, hi]
  · rw [if_neg h]
    simp only [Array.getD, Array.size_setIfInBounds]
    split
    · exact Array.getElem_setIfInBounds_ne _ (Ne.symm h)
    · rfl
theorem least_unlisted {L : Array Bool} {p : Nat} : ∀ {i : Nat}, i < p → L.getD i false = false → ∃ i0, i0 < p ∧ L.getD i0 false = false ∧ ∀ j, j < i0 → L.getD j false = true := by
  intro i
  induction i using Nat.strongRecOn with
  | _ i ih =>
    intro hi hL
    by_cases h : ∃ j, j < i ∧ L.getD j false = false
    · obtain ⟨j, hj, hLj⟩ := h
      exact ih j hj (by omega) hLj
    · refine ⟨i, hi, hL, fun j hj => ?_⟩
      cases hb : L.getD j false with
      | true => rfl
      | false => exact absurd ⟨j, hj, hb⟩ h
theorem ig_quiet {l : List Oper} {p : Nat} {K : IA → Prop} (hp : p ≤ l.length) (hchk : qchk l p = true) (hrun : IQ P r l σ K (l.take p) a)
    (hK : ∀ a', K a' → IGm P r l.toArray Q (l.length - p) ((List.replicate p true ++ List.replicate (l.length - p) false).toArray) a' σ) : IGm P r l.toArray Q l.length (Array.replicate l.length false) a σ := by
  obtain ⟨vals, hvl, hstep, hKp⟩ := hrun.vals
  have hlp : (l.take p).length = p := by simp; omega
  rw [hlp] at hvl
  obtain ⟨c1, c2, c3, c4⟩ := qchk_spec hchk
  have hfin := hK _ hKp
  have hgt : ∀ (j : Nat) x, j < p → l[j]? = some x → (l.take p)[j]? = some x := fun j x hj e => by rw [List.getElem?_take, if_pos hj]; exact e
  have htg : ∀ (j : Nat) x, (l.take p)[j]? = some x → l[j]? = some x ∧ j < p := by
    intro j x e
    rw [List.getElem?_take] at e
    split at e
    · exact ⟨e, by assumption⟩
    · cases e
  intro W0 D0 ρ0 w0 A0 hs0 hf0
  -- the claim at every state of the first part
  have main : ∀ (k : Nat) (L : Array Bool) (D : DM) (ρ : List Slot) (w : World) (A : Act), cntU L p = k → L.size = l.length → (∀ t, p ≤ t → L.getD t false = false) →
      (∀ (i : Nat) o, i < p → l[i]? = some o → L.getD i false = true → ∀ d ∈ deps o, L.getD d false = true) → Ext D0 ρ0 D ρ → St W0 D ρ σ w → FRL l p vals a D ρ L A →
      wpAnyIn (Wd r) 0 P .any l.toArray (lift r.n W0 D0 ρ0 Q) (k + (l.length - p)) L A w := by
    intro k
    induction k with
    | zero =>
      intro L D ρ w A hk hLs htail hc x hs hfr
      have hall := cntU_zero hk
      have hL : L = (List.replicate p true ++ List.replicate (l.length - p) false).toArray := by
        apply Array.ext
        · simp; omega
        · intro i h1 h2
          have e1 : L.getD i false = L[i] := by simp [Array.getD, h1]
          rw [← e1]
          rcases Nat.lt_or_ge i p with hi | hi
          · rw [hall i hi]
            simp [List.getElem_append, hi]
          · rw [htail i hi]
            simp only [List.getElem_toArray]
            rw [List.getElem_append_right (by simpa using hi)]
            simp
      subst hL
      rw [Nat.zero_add]
      have hfr' : FR D ρ (pref (l.take p) vals a) A := by
        obtain ⟨e1, e2⟩ := pref_len (a := a) (pre := l.take p) (vals := vals) p (by omega) (by omega)
        rw [List.take_of_length_le (by omega : (l.take p).length ≤ p), List.take_of_length_le (by omega : vals.length ≤ p)] at e1 e2
        refine ⟨⟨by rw [e1]; simpa using hfr.sz, fun t u v eu ev' => ?_⟩, by rw [e2]; exact hfr.d⟩
        have htl : t < a.tmps.length := by rw [← e1]; exact (List.getElem?_eq_some_iff.1 eu).1
        have evA : A.tmps[t]? = some v := by simpa using ev'
        by_cases hw : ∃ (j : Nat) (y : Oper), j < p ∧ l[j]? = some y ∧ y.dst = some t
        · obtain ⟨j, y, hj, hy, hyd⟩ := hw
          have hvj : vals[j]? = some (vals[j]'(by omega)) := List.getElem?_eq_getElem (by omega)
          have := pref_new (a := a) (pre := l.take p) (vals := vals) (hgt j y hj hy) hvj hyd htl (fun k z hz hzd => c1 k j z y t (htg k z hz).2 hj (htg k z hz).1 hy hzd hyd) p hj (by omega) (by omega)
          rw [List.take_of_length_le (by omega : (l.take p).length ≤ p), List.take_of_length_le (by omega : vals.length ≤ p)] at this
          rw [this] at eu
          cases eu
          exact hfr.new j y _ v t hj hy hyd (hall j hj) hvj evA
        · have := pref_old (a := a) (pre := l.take p) (vals := vals) (t := t) p (by omega) (by omega) (fun j y hj hy hyd => hw ⟨j, y, hj, (htg j y hy).1, hyd⟩)
          rw [List.take_of_length_le (by omega : (l.take p).length ≤ p), List.take_of_length_le (by omega : vals.length ≤ p)] at this
          rw [this] at eu
          exact hfr.old t u v eu evA fun i o hi ho hd => absurd ⟨i, o, hi, ho, hd⟩ hw
      exact wpAnyIn_weaken (fun e A w q => lift_ext x q) _ (hfin W0 D ρ w A hs hfr')
    | succ k ih =>
      intro L D ρ w A hk hLs htail hc x hs hfr
      have hclosed : ∀ (i : Nat) o, l[i]? = some o → L.getD i false = true → ∀ d ∈ deps o, L.getD d false = true := by
        intro i o ho hLi
        rcases Nat.lt_or_ge i p with hi | hi
        · exact hc i o hi ho hLi
        · rw [htail i hi] at hLi; cases hLi
      obtain ⟨i1, hi1, hL1⟩ : ∃ i1, i1 < p ∧ L.getD i1 false = false := by
        cases h : (List.range p).filter fun i => !L.getD i false with
        | nil => unfold cntU at hk; rw [h] at hk; cases hk
        | cons i rest =>
          have hm : i ∈ (List.range p).filter fun i => !L.getD i false := by rw [h]; exact List.mem_cons_self ..
          rw [List.mem_filter, List.mem_range] at hm
          exact ⟨i, hm.1, by simpa using hm.2⟩
      obtain ⟨i0, hi0, hL0, hlow⟩ := least_unlisted hi1 hL1
      have hdt : ∀ (i : Nat), i < l.length → L.getD i true = L.getD i false := fun i hi => by simp [Array.getD, show i < L.size by omega]
      have hdeps : ∀ (o : Oper), (∀ e ∈ o.after, Region.binds .any e = true → L.getD e.on false = true) ↔ (∀ d ∈ deps o, L.getD d false = true) := by
        intro o
        constructor
        · intro h d hd
          simp only [deps, List.mem_map, List.mem_filter] at hd
          obtain ⟨e, ⟨he, hb⟩, rfl⟩ := hd
          exact h e (by simpa using he) hb
        · intro h e he hb
          refine h e.on ?_
          simp only [deps, List.mem_map, List.mem_filter]
          exact ⟨e, ⟨by simpa using he, hb⟩, rfl⟩
      rw [show k + 1 + (l.length - p) = (k + (l.length - p)) + 1 by omega]
      refine ⟨fun h0 => ?_, fun i hi => ?_⟩
      · -- somebody is ready
        obtain ⟨o, ho⟩ : ∃ o, l[i0]? = some o := ⟨_, List.getElem?_eq_getElem (by omega)⟩
        have : i0 ∈ Region.ready .any l.toArray L := by
          rw [mem_ready]
          refine ⟨by rw [hdt i0 (by omega)]; exact hL0, o, by simpa using ho, (hdeps o).2 fun d hd => hlow d (c3 i0 o hi0 ho d hd)⟩
        rw [h0] at this
        cases this
      · rw [mem_ready] at hi
        obtain ⟨hiL, o, ho', hda⟩ := hi
        have ho : l[i]? = some o := by simpa using ho'
        have hil : i < l.length := (List.getElem?_eq_some_iff.1 ho).1
        have hd := (hdeps o).1 hda
        rw [hdt i hil] at hiL
        have hip : i < p := by
          rcases Nat.lt_or_ge i p with h | h
          · exact h
          · have := bef_closed hclosed l.length i i0 o ho hd (c4 i i0 hil h hi0)
            rw [hL0] at this
            cases this
        have hvi : vals[i]? = some (vals[i]'(by omega)) := List.getElem?_eq_getElem (by omega)
        have hst := hstep i o _ (hgt i o hip ho) hvi
        have hat := fun {t} (ht : t ∈ looks l o) => hfr.at_ hp hvl hchk hc hip ho hiL hd ht
        have hops : ∀ y ∈ o.op.operands, VR D ρ (ev (pref ((l.take p).take i) (vals.take i) a) y) (A.eval y) := by
          intro y hy
          by_cases ht : ∃ t, y = .tmp t
          · obtain ⟨t, rfl⟩ := ht
            refine hat ?_
            simp only [looks, List.mem_append, List.mem_filterMap]
            exact .inl ⟨.tmp t, by simpa using hy, rfl⟩
          · exact VR.ev_other fun t e => ht ⟨t, e⟩
        -- what comes behind
        have next : ∀ (D' : DM) (ρ' : List Slot) (w' : World) (val : Value), Ext D ρ D' ρ' → St W0 D' ρ' σ w' → VR D' ρ' (vals[i]'(by omega)) val →
            wpAnyIn (Wd r) 0 P .any l.toArray (lift r.n W0 D0 ρ0 Q) (k + (l.length - p)) (L.setIfInBounds i true) (A.put o.dst val) w' := by
          intro D' ρ' w' val x' s' hv
          have hiS : i < L.size := by omega
          refine ih _ D' ρ' w' _ ?_ (by simpa using hLs) (fun t ht => ?_) (fun j y hj hy hLj d hdm => ?_) (x.trans x') s' ?_
          · have := cntU_set hip hiS hiL
            omega
          · rw [getD_set_eq hiS, if_neg (by omega)]
            exact htail t ht
          · rw [getD_set_eq hiS] at hLj ⊢
            split
            · rfl
            · split at hLj
              · rename_i hji
                subst hji
                rw [ho] at hy
                cases hy
                exact hd d hdm
              · exact hc j y hj hy hLj d hdm
          · have hfr2 := hfr.ext x'
            have hAget : ∀ t, o.dst ≠ some t → (A.put o.dst val).tmps[t]? = A.tmps[t]? := by
              intro t ht
              cases hdst : o.dst with
              | none => rfl
              | some dd => simp only [Act.put]; rw [Array.getElem?_setIfInBounds_ne (fun e => ht (by rw [hdst, e]))]
            refine ⟨?_, fun t u v eu ev' hun => ?_, fun j y u v t hj hy hyd hLj hu ev' => ?_, ?_⟩
            · rw [hfr2.sz]; cases o.dst <;> simp [Act.put]
            · have hne : o.dst ≠ some t := fun e => by
                have := hun i o hip ho e
                rw [getD_set_eq hiS, if_pos rfl] at this
                cases this
              rw [hAget t hne] at ev'
              refine hfr2.old t u v eu ev' fun j y hj hy hyd => ?_
              have := hun j y hj hy hyd
              rw [getD_set_eq hiS] at this
              split at this
              · cases this
              · exact this
            · rw [getD_set_eq hiS] at hLj
              split at hLj
              · rename_i hji
                subst hji
                rw [ho] at hy
                cases hy
                rw [hvi] at hu
                cases hu
                have htA : t < A.tmps.size := by
                  have := (Array.getElem?_eq_some_iff.1 ev').1
                  rw [hyd] at this
                  simpa [Act.put] using this
                rw [hyd] at ev'
                simp [Act.put, htA] at ev'
                subst ev'
                exact hv
              · rename_i hji
                have hne : o.dst ≠ some t := fun e => hji (c1 j i y o t hj hip hy ho hyd e)
                rw [hAget t hne] at ev'
                exact hfr2.new j y u v t hj hy hyd hLj hu ev'
            · have : (A.put o.dst val).defers = A.defers := by cases o.dst <;> rfl
              rw [this]
              exact hfr2.d
        unfold wpOpIn
        rw [ho']
        simp only
        have yes : OpQ P r o (ev (pref ((l.take p).take i) (vals.take i) a)) σ (vals[i]'(by omega)) σ → o.wpIn (Wd r) 0 P A w (wpAnyIn (Wd r) 0 P .any l.toArray (lift r.n W0 D0 ρ0 Q) (k + (l.length - p)) (L.setIfInBounds i true)) (lift r.n W0 D0 ρ0 Q) := by
          intro hq
          refine wpIn_weaken ?_ (fun _ _ _ hf => hf.elim) (hq W0 D ρ w A hs hops)
          rintro A' w' ⟨D', ρ', v', val, σ', rfl, x', s', hv, rfl, rfl⟩
          exact next D' ρ' w' val x' s' hv
        have no : (vals[i]'(by omega)) = .und → (∀ f, o.about P w A.eval = some f → (Wd r).fn f) ∧ wpAnyIn (Wd r) 0 P .any l.toArray (lift r.n W0 D0 ρ0 Q) (k + (l.length - p)) (L.setIfInBounds i true) (A.put o.dst undef) w :=
          fun hu => ⟨fun _ _ => trivial, next D ρ w undef (.refl _ _) hs (hu ▸ .und)⟩
        unfold Step1 at hst
        cases hg : o.guard with
        | none =>
          rw [hg] at hst
          rw [if_pos (by simp [Region.wanted, hg])]
          exact yes hst
        | some q =>
          obtain ⟨j, b⟩ := q
          rw [hg] at hst
          -- the guard's operation
          have hgd : ∀ g, gv l.toArray (pref ((l.take p).take i) (vals.take i) a) j = g → (∀ b, g = .bool b → yielded l.toArray A.tmps j = some b) ∧ (g = .und → yielded l.toArray A.tmps j = none) := by
            intro g hgv
            cases hx : l[j]? with
            | none => subst hgv; simp [gv, hx]
            | some y =>
              cases hyd : y.dst with
              | none => subst hgv; simp [gv, hx, hyd]
              | some t =>
                have hmem : t ∈ looks l o := by
                  simp only [looks, List.mem_append, hg, hx, Option.bind_some, hyd, Option.toList_some, List.mem_singleton]
                  exact .inr trivial
                have := yield_of (ops := l.toArray) (a := pref ((l.take p).take i) (vals.take i) a) (by simpa using hx) hyd (hat hmem)
                subst hgv
                exact this
          rcases hst with ⟨h1, h2⟩ | ⟨h1, h2⟩
          · rw [if_pos (by simp [Region.wanted, hg, (hgd _ rfl).1 b h1])]
            exact yes h2
          · have hy : yielded l.toArray A.tmps j = some (!b) ∨ yielded l.toArray A.tmps j = none := h1.imp ((hgd _ rfl).1 _) (hgd _ rfl).2
            rw [if_neg (by simp only [Region.wanted, hg]; rcases hy with h | h <;> rw [h] <;> simp)]
            exact no h2
  have h0 := main (cntU (Array.replicate l.length false) p) (Array.replicate l.length false) D0 ρ0 w0 A0 rfl (by simp) (fun t _ => by simp [Array.getD]) (fun i o hi ho hL => by
    have : (Array.replicate l.length false).getD i false = false := by simp [Array.getD]
    rw [this] at hL; cases hL) (.refl _ _) hs0 ⟨by simpa using hf0.t.1, fun t u v e e' _ => hf0.t.2 t u v e (by simpa using e'), (fun i o u v t _ _ _ hL => by
    have : (Array.replicate l.length false).getD i false = false := by simp [Array.getD]
    rw [this] at hL; cases hL), hf0.d⟩
  have hcnt : cntU (Array.replicate l.length false) p = p := by
    unfold cntU
    rw [List.filter_eq_self.2 (fun i _ => by simp [Array.getD])]
    simp
  rw [hcnt] at h0
  rw [show p + (l.length - p) = l.length by omega] at h0
  exact h0
end
end Go.QL
end

section
/- QL, part n: texts and runes; a range over a text; a range over a function; what falls away in a loop. Plain; no program in sight. -/
set_option linter.unusedVariables false
set_option linter.unusedSimpArgs false
namespace Go.QL
open Go Go.RowKit

/-! ### a value taken for less -/
def Wk (u u' : IV) : Prop := ∀ D ρ v, VR D ρ u v → VR D ρ u' v
theorem Wk.refl (u : IV) : Wk u u := fun _ _ _ h => h
theorem Wk.junk (u : IV) : Wk u .junk := fun _ _ v _ => .junk v
theorem Wk.nils (f : Bool) : Wk .nils (.sl f []) := fun _ _ _ h => h.nil_sl f
theorem Wk.sl (f : Bool) (xs : List IV) : Wk (.sl f xs) (.sl false xs) := fun _ _ _ h => h.forget
inductive Wks : List IV → List IV → Prop
  | nil : Wks [] []
  | cons {x y : IV} {xs ys : List IV} (h : Wk x y) (k : Wks xs ys) : Wks (x :: xs) (y :: ys)
theorem Wks.refl : ∀ xs : List IV, Wks xs xs
  | [] => .nil
  | x :: xs => .cons (.refl x) (Wks.refl xs)
theorem Wks.len {xs ys : List IV} (h : Wks xs ys) : xs.length = ys.length := by induction h <;> simp_all
theorem Wks.get {xs ys : List IV} (h : Wks xs ys) : ∀ (i : Nat) y, ys[i]? = some y → ∃ x, xs[i]? = some x ∧ Wk x y := by
  induction h with
  | nil => intro i y e; simp at e
  | cons h k ih =>
    intro i y e
    rcases i with _ | i
    · simp only [List.getElem?_cons_zero, Option.some.injEq] at e
      subst e
      exact ⟨_, rfl, h⟩
    · exact ih i y e
theorem Wk.agg {xs ys : List IV} (h : Wks xs ys) : Wk (.agg xs) (.agg ys) := by
  intro D ρ v hv
  cases hv with
  | agg _ vs hl hv =>
    refine .agg ys vs (by rw [← h.len]; exact hl) fun i u v e e' => ?_
    obtain ⟨x, hx, hw⟩ := h.get i u e
    exact hw D ρ v (hv i x v hx e')
theorem Wk.tup {xs ys : List IV} (h : Wks xs ys) : Wk (.tup xs) (.tup ys) := by
  intro D ρ v hv
  cases hv with
  | tup _ vs hl hv =>
    refine .tup ys vs (by rw [← h.len]; exact hl) fun i u v e e' => ?_
    obtain ⟨x, hx, hw⟩ := h.get i u e
    exact hw D ρ v (hv i x v hx e')
theorem Wk.slw {f : Bool} {xs ys : List IV} (hl : xs.length = ys.length) (h : Wks (flats xs) (flats ys)) : Wk (.sl f xs) (.sl false ys) := by
  intro D ρ v hv
  cases hv with
  | sl _ _ A c b o g hc hm hf hA hg hv =>
    rw [hl] at hc ⊢
    refine .sl false ys A c b o g hc hm (by simp) (fun hne => hA (fun he => hne (List.eq_nil_of_length_eq_zero (by rw [← hl, he]; rfl)))) (fun j u e => ?_) (fun j u e => ?_)
    · obtain ⟨x, hx, _⟩ := h.get j u e
      exact hg j x hx
    · obtain ⟨x, hx, hw⟩ := h.get j u e
      exact hw D ρ _ (hv j x hx)
theorem Rel2.wks {D : DM} {ρ : List Slot} {xs ys : List IV} {vs : List Value} (h : Rel2 D ρ xs vs) (k : Wks xs ys) : Rel2 D ρ ys vs :=
  ⟨by rw [← k.len]; exact h.1, fun i u v e e' => by obtain ⟨x, hx, hw⟩ := k.get i u e; exact hw D ρ v (h.2 i x v hx e')⟩
section
variable {P : Program} {r : RN} {Q : IPost} {a a' : IA} {σ σ' : List IObj} {ops : Array Oper} {rest : List Oper} {o : Oper} {e : Val2}
theorem il_wks {t t' : List IV} {ds : List IDef} (h : Wks t t') (k : IL P r ops Q rest ⟨t', ds⟩ σ) : IL P r ops Q rest ⟨t, ds⟩ σ :=
  fun W0 D ρ w A hs hf => k W0 D ρ w A hs ⟨hf.t.wks h, hf.d⟩
theorem ic_wks {c : Code} {t t' : List IV} {ds : List IDef} (h : Wks t t') (k : IC P r c Q ⟨t', ds⟩ σ) : IC P r c Q ⟨t, ds⟩ σ :=
  fun W0 D ρ w A hs hf => k W0 D ρ w A hs ⟨hf.t.wks h, hf.d⟩
theorem ires_wk {fn : Func} {u u' : IV} (h : IRes P fn a σ u) (k : Wk u u') : IRes P fn a σ u' :=
  fun W0 D ρ w A hs hf => let ⟨v, h1, h2⟩ := h W0 D ρ w A hs hf; ⟨v, h1, k D ρ v h2⟩
theorem OpK.wk {K : IV → List IObj → Prop} {u u' : IV} (h : OpQ P r o e σ u σ') (k : Wk u u') : OpQ P r o e σ u' σ' :=
  fun W0 D ρ w A hs ho => wpIn_weaken (fun _ _ ⟨D', ρ', v, val, σ'', h1, h2, h3, h4, h5, h6⟩ => ⟨D', ρ', u', val, σ'', h1, h2, h3, k _ _ _ (h5 ▸ h4), rfl, h6⟩) (fun _ _ _ h => h) (h W0 D ρ w A hs ho)
/-- A call whose arguments are taken for less. -/
theorem ICalls.wks {f : FuncId} {args args' : List IV} {R : IV → List IObj → Prop} (h : ICalls P f args' σ R) (k : Wks args args') : ICalls P f args σ R :=
  fun W0 D ρ w vs hs hr => h W0 D ρ w vs hs (hr.wks k)
/-- What is needed no more falls away. -/
theorem St.cut' {W0 : Base} {D : DM} {ρ : List Slot} {τ : List IObj} {w : World} (h : St W0 D ρ (σ ++ τ) w) (hl : ∀ (k : Nat) o, σ[k]? = some o → OLt σ.length o) : St W0 D (ρ.take σ.length) σ w := h.cut hl

/-! ### runes -/
/-- The characters of a text. -/
def runesL (s : ByteArray) : List Int := (Conv.runesFrom s s.size 0 #[]).toList.map fun v => match v with | .int _ n => n | _ => 0
theorem runesFrom_int (s : ByteArray) : ∀ (n i : Nat) (acc : Array Value), (∀ v ∈ acc, ∃ m, v = .int .i32 m) → ∀ v ∈ Conv.runesFrom s n i acc, ∃ m, v = .int .i32 m
  | 0, i, acc, h => h
  | n + 1, i, acc, h => by
    unfold Conv.runesFrom
    split
    · refine runesFrom_int s n _ _ fun v hv => ?_
      rcases Array.mem_push.1 hv with hv | rfl
      · exact h v hv
      · exact ⟨_, rfl⟩
    · exact h
theorem runes_vals (s : ByteArray) : (Conv.runesFrom s s.size 0 #[]).toList = (runesL s).map (Value.int .i32) := by
  unfold runesL
  rw [List.map_map]
  symm
  rw [List.map_eq_iff]
  intro i
  cases h : (Conv.runesFrom s s.size 0 #[]).toList[i]? with
  | none => rfl
  | some v =>
    obtain ⟨m, rfl⟩ := runesFrom_int s s.size 0 #[] (fun v hv => by simp at hv) v (by simpa using List.mem_of_getElem? h)
    rfl
theorem runesFrom_size (s : ByteArray) : ∀ (n i : Nat) (acc : Array Value), (Conv.runesFrom s n i acc).size ≤ acc.size + n
  | 0, i, acc => by simp [Conv.runesFrom]
  | n + 1, i, acc => by
    unfold Conv.runesFrom
    split
    · refine Nat.le_trans (runesFrom_size s n _ _) ?_
      simp
      omega
    · omega
theorem runesL_length (s : ByteArray) : (runesL s).length ≤ s.size := by
  have := runesFrom_size s s.size 0 #[]
  unfold runesL
  simp at this ⊢
  exact this
theorem flats_ints (k : IntKind) (l : List Int) : flats (l.map (IV.int k)) = l.map (IV.int k) := by
  unfold flats
  induction l with
  | nil => rfl
  | cons n l ih => rw [List.map_cons, List.flatMap_cons, ih]; rfl
theorem op_runes {S T E : TypeId} {x : Operand} {s : ByteArray} (hS : P.underlying S = some .string) (hT : P.underlying T = some (.slice E)) (hE : P.underlying E = some (.int .i32)) (ho : o.op = .convert S T x) (hx : e x = .str s) (hl : (runesL s).length ≤ 70368744177664) :
    OpQ P r o e σ (.sl false ((runesL s).map (IV.int .i32))) σ := by
  refine opk_val (by rw [ho]; rfl) fun W0 D ρ w A hs ha => ?_
  have h1 := ha x (by simp [ho, Op.operands]); rw [hx] at h1; have h1 := h1.str_inv
  have hvl : (Conv.runesFrom s s.size 0 #[]).size = (runesL s).length := by
    have := congrArg List.length (runes_vals s)
    simpa using this
  have hge := grownCap_ge w (runesL s).length 0 E
  have hle := grownCap_le_maxLen w (runesL s).length 0 E (by simp only [maxLen]; omega)
  have hrun := run_runes_of_string (P := P) w S T E s hS hT hE (by omega)
  rw [hvl] at hrun
  have hf := flats_ints .i32 (runesL s)
  have hlen : ((runesL s).map (IV.int .i32)).length = (runesL s).length := by simp
  obtain ⟨h2, h3⟩ := hs.frz (Conv.runesFrom s s.size 0 #[] ++ Array.replicate (grownCap w (runesL s).length 0 E - (runesL s).length) (.int .i32 0)) E
    (w.drew.alloc (.cells (Conv.runesFrom s s.size 0 #[] ++ Array.replicate (grownCap w (runesL s).length 0 E - (runesL s).length) (.int .i32 0)) E)) rfl rfl rfl rfl
  have hv := St.vr_new (σ := σ) (W0 := W0) (sz := 1) (full := false) (c := grownCap w (runesL s).length 0 E) (xs := (runesL s).map (IV.int .i32)) h3 (by
    rw [hf, hlen, Array.toList_append, List.take_append_of_le_length (by simp; omega), List.take_of_length_le (by simp; omega), runes_vals]
    refine ⟨by simp, fun i u v e e' => ?_⟩
    simp only [List.getElem?_map, Option.map_eq_some_iff] at e e'
    obtain ⟨m, hm, rfl⟩ := e
    obtain ⟨m', hm', rfl⟩ := e'
    rw [hm] at hm'
    cases hm'
    exact .int _ _) (by rw [hlen]; exact hge) hle (by simp)
  rw [hlen] at hv
  refine ⟨_, ρ, _, _, σ, _, ?_, h3, h2, hv, rfl, rfl⟩
  simp only [execOp, ho, h1, Sem.run_bind, hrun, Result.andThen_ok, Sem.run_pure]
/-- string(runes). -/
abbrev strOf (l : List Int) : ByteArray := runesBytes l
theorem op_strOf {S T E : TypeId} {x : Operand} {l : List Int} {full : Bool} (hS : P.underlying S = some (.slice E)) (hT : P.underlying T = some .string) (hE : P.underlying E = some (.int .i32)) (ho : o.op = .convert S T x) (hx : e x = .sl full (l.map (IV.int .i32))) :
    OpQ P r o e σ (.str (strOf l)) σ := by
  refine opq_pure (by rw [ho]; rfl) fun W0 D ρ w A hs ha => ⟨.string (strOf l), ?_, .str _⟩
  have h1 := ha x (by simp [ho, Op.operands]); rw [hx] at h1
  obtain ⟨B, c, b, of, g, h2, hc, hm, hf, hA, hd, hv⟩ := h1.sl_inv
  rw [flats_ints] at hd hv
  have hrun : (convert S T (A.eval x)).run P w = .ok (.string (strOf l)) w := by
    rw [h2, List.length_map]
    cases B with
    | none =>
      have : l = [] := by
        cases l with
        | nil => rfl
        | cons n l => have := hA (by simp); cases this
      subst this
      exact run_convert_runes_nil w S T E _ _ hS hE hT
    | some a0 =>
      have := run_convert_runes (P := P) w S T E a0 l.length c l (Nat.le_refl _) hS hE hT (fun j hj => by
        have hB := hA (by intro e; rw [List.map_eq_nil_iff] at e; subst e; simp at hj)
        cases hB
        have hu : (l.map (IV.int .i32))[j]? = some (.int .i32 (l.getD j 0)) := by
          simp [List.getD, List.getElem?_eq_getElem hj]
        have h5 := (hv j _ hu).int_inv
        rw [Addr_add, ← h5]
        exact hs.dc _ _ _ (hd j _ hu))
      rwa [List.take_length] at this
  simp only [execOp, ho, Sem.run_bind, hrun, Result.andThen_ok, Sem.run_pure]

/-! ### a range over a text -/
theorem op_rangeStr {S : TypeId} {x : Operand} {s : ByteArray} (hS : P.underlying S = some .string) (ho : o.op = .range S x) (hx : e x = .str s) : OpQ P r o e σ (.ptr σ.length 0) (σ ++ [.obj (.stringIter s 0)]) := by
  refine opk_val (by rw [ho]; rfl) fun W0 D ρ w A hs ha => ?_
  have h1 := ha x (by simp [ho, Op.operands]); rw [hx] at h1; have h1 := h1.str_inv
  have hp := hs.push (.stringIter s 0) (.fix w.heap.size) rfl (.obj (.stringIter s 0)) (by show (w.alloc _).heap[w.heap.size]? = _; exact heap_alloc_new w _)
  refine ⟨D, _, _, .pointer (some ⟨w.heap.size, 0, none⟩), _, _, ?_, hp.2, hp.1, vr_fix (b := w.heap.size) ?_, rfl, rfl⟩
  · simp only [execOp, ho, h1, Instr.range, Sem.run_bind, run_underlying hS, Result.andThen_ok, Sem.run_pure, run_newObj_alloc]
  · rw [← hs.len]; simp
/-- What one step over a text gives, and where it then is. -/
def nextStr (s : ByteArray) (pos : Nat) : IV := if pos < s.size then .tup [.bool true, .int .i64 pos, .int .i32 ((Utf8.decode s pos).1 : Int)] else .tup [.bool false]
def nextPos (s : ByteArray) (pos : Nat) : Nat := if pos < s.size then pos + (Utf8.decode s pos).2 else pos
theorem op_nextStr {x : Operand} {k pos : Nat} {s : ByteArray} (ho : o.op = .next x true) (hx : e x = .ptr k 0) (hk : σ[k]? = some (.obj (.stringIter s pos))) :
    OpQ P r o e σ (nextStr s pos) (σ.set k (.obj (.stringIter s (nextPos s pos)))) := by
  refine opk_val (by rw [ho]; rfl) fun W0 D ρ w A hs ha => ?_
  have h1 := ha x (by simp [ho, Op.operands]); rw [hx] at h1
  obtain ⟨b, hb, h1⟩ := hs.fix_at hk h1
  have hok : w.heap[b]? = some (.stringIter s pos) := hs.ok k _ _ hb hk
  have hbs : b < w.heap.size := (Array.getElem?_eq_some_iff.1 hok).1
  by_cases hp : pos < s.size
  · have h2 := hs.set (w' := { w with heap := w.heap.setIfInBounds b (.stringIter s (pos + (Utf8.decode s pos).2)) }) hb rfl (.obj (.stringIter s (pos + (Utf8.decode s pos).2))) (by
      show (w.heap.setIfInBounds b _)[b]? = _
      simp [hbs]) rfl rfl rfl (by simp) (fun i hi => by simp [Array.getElem?_setIfInBounds_ne (Ne.symm hi)])
    refine ⟨D, ρ, nextStr s pos, .tuple #[.bool true, goInt pos, .int .i32 ((Utf8.decode s pos).1 : Int)], _, _, ?_, .refl _ _, h2, ?_, rfl, by rw [nextPos, if_pos hp]⟩
    · simp [execOp, ho, h1, Instr.next, Sem.run_bind, Sem.run, getObj, setObj, hok, hp, Result.andThen]
    · rw [nextStr, if_pos hp]
      refine .tup _ _ rfl fun i u v e e' => ?_
      rcases i with _ | _ | _ | i <;> simp at e e'
      · subst e; subst e'; exact .bool _
      · subst e; subst e'; exact .int _ _
      · subst e; subst e'; exact .int _ _
  · refine ⟨D, ρ, nextStr s pos, .tuple #[.bool false], _, w, ?_, .refl _ _, hs, ?_, rfl, ?_⟩
    · simp [execOp, ho, h1, Instr.next, Sem.run_bind, Sem.run, getObj, hok, hp, Result.andThen]
    · rw [nextStr, if_neg hp]
      refine .tup _ _ rfl fun i u v e e' => ?_
      rcases i with _ | i <;> simp at e e'
      subst e; subst e'; exact .bool _
    · rw [nextPos, if_neg hp]
      apply List.ext_getElem?
      intro i
      by_cases hi : k = i
      · subst hi
        rw [List.getElem?_set_self (List.getElem?_eq_some_iff.1 hk).1, hk]
      · rw [List.getElem?_set_ne hi]

/-! ### what is needed no more -/
/-- The frame is taken for less; the last blocks fall away. -/
theorem ic_trim {c : Code} {t t' : List IV} {ds : List IDef} {τ : List IObj} (h : Wks t t') (hn : r.n ≤ σ.length) (ht : ∀ x ∈ t', Lt σ.length x) (hds : ∀ k, IDef.mark k ∈ ds → k < σ.length) (hO : ∀ (k : Nat) o, σ[k]? = some o → OLt σ.length o) (k : IC P r c Q ⟨t', ds⟩ σ) : IC P r c Q ⟨t, ds⟩ (σ ++ τ) := by
  intro W0 D ρ w A hs hf
  have hdr : ∀ (ds : List IDef) (es : List Deferred), (∀ k, IDef.mark k ∈ ds → k < σ.length) → DR ρ ds es → DR (ρ.take σ.length) ds es := by
    intro ds
    induction ds with
    | nil => intro es _ h; cases es <;> simp_all [DR]
    | cons d ds ih =>
      intro es hds h
      cases d with
      | mark k =>
        cases es with
        | nil => exact h.elim
        | cons e es =>
          obtain ⟨⟨b, h1, h2⟩, h3⟩ := h
          exact ⟨⟨b, by rw [List.getElem?_take, if_pos (hds k (List.mem_cons_self ..))]; exact h1, h2⟩, ih es (fun k hk => hds k (List.mem_cons_of_mem _ hk)) h3⟩
  have hk := k W0 D (ρ.take σ.length) w A (hs.cut hO) ⟨(hf.t.wks h).cut _ ht, hdr _ _ hds hf.d⟩
  have hx : ((ρ.take σ.length).take r.n) = ρ.take r.n := by rw [List.take_take, Nat.min_eq_left hn]
  refine wpIn_mono hk ?_
  rintro e A' w' ⟨D', ρ', a', σ', x', rest⟩
  exact ⟨D', ρ', a', σ', by rw [← hx]; exact x', rest⟩
end
end Go.QL
end

section
/- QL, part o: a range over a function: rounds, yield, the statement, marks. Plain; no program in sight. -/
set_option linter.unusedVariables false
set_option linter.unusedSimpArgs false
namespace Go.QL
open Go Go.RowKit

/-- A call of yield (the loop's record is block k). -/
def IYield (P : Program) (k : Nat) (args : List IV) (σ : List IObj) (R : Bool → List IObj → Prop) : Prop :=
  ∀ W0 D ρ w (vs : Array Value) b, St W0 D ρ σ w → ρ[k]? = some (.fix b) → Rel2 D ρ args vs.toList →
    ∃ fn tmps assign body, (Instr.yield b vs).run P w = .ok (.round b fn tmps assign body) w ∧
      RoundIn Fence.wide 0 P b fn tmps assign body w fun e w' => ∃ D' ρ' t σ', e = .returned (.bool t) ∧ Ext D ρ D' ρ' ∧ St W0 D' ρ' σ' w' ∧ R t σ'
theorem IYield.mono {P : Program} {k : Nat} {args : List IV} {σ : List IObj} {R R' : Bool → List IObj → Prop} (h : IYield P k args σ R) (hr : ∀ t σ, R t σ → R' t σ) : IYield P k args σ R' := by
  intro W0 D ρ w vs b hs hb ha
  obtain ⟨fn, tmps, asx, bd, h1, h2⟩ := h W0 D ρ w vs b hs hb ha
  exact ⟨fn, tmps, asx, bd, h1, h2.mono fun e w' ⟨D', ρ', t, σ', a1, a2, a3, a4⟩ => ⟨D', ρ', t, σ', a1, a2, a3, hr _ _ a4⟩⟩
/-- What a round leaves of its own falls away. -/
theorem IYield.cut {P : Program} {k : Nat} {args : List IV} {σ : List IObj} {R : Bool → List IObj → Prop}
    (h : IYield P k args σ (fun t σ' => ∃ σ1 τ, σ' = σ1 ++ τ ∧ σ1.length = σ.length ∧ (∀ (k : Nat) o, σ1[k]? = some o → σ[k]? = some o ∨ OLt σ.length o) ∧ R t σ1)) : IYield P k args σ R := by
  intro W0 D ρ w vs b hs hb ha
  obtain ⟨fn, tmps, asx, bd, h1, h2⟩ := h W0 D ρ w vs b hs hb ha
  refine ⟨fn, tmps, asx, bd, h1, h2.mono ?_⟩
  rintro e w' ⟨D', ρ', t, σ', rfl, x, s', σ1, τ, rfl, hl, hO, hR⟩
  have hc := s'.cut fun k o e => by
    rw [hl]
    rcases hO k o e with h | h
    · exact hs.olt h
    · exact h
  rw [hl] at hc
  refine ⟨D', ρ'.take σ.length, t, σ1, rfl, ⟨x.d, fun k s e => ?_⟩, hc, hR⟩
  obtain ⟨s2, e2, l2⟩ := x.s k s e
  have hk := (List.getElem?_eq_some_iff.1 e).1
  rw [hs.len] at hk
  exact ⟨s2, by rw [List.getElem?_take, if_pos hk]; exact e2, l2⟩
section
variable {P : Program} {r : RN} {Q : IPost} {a a' : IA} {σ σ' : List IObj} {ops : Array Oper} {rest : List Oper} {o : Oper} {e : Val2}
theorem op_yield {k : Nat} {g : Operand} {args : Array Operand} {tys : Array TypeId} {R : Bool → List IObj → Prop} (ho : o.op = .call { callee := .value g, args := args, argTypes := tys }) (hg : e g = .yf k)
    (hc : IYield P k (args.toList.map e) σ R) : OpK P r o e σ (fun v σ' => ∃ t, v = .bool t ∧ R t σ') := by
  intro W0 D ρ w A hs ha
  refine ⟨fun _ _ => trivial, ?_⟩
  have h1 := ha g (by simp [ho, Op.operands, Call.operands])
  rw [hg] at h1
  generalize hgv : A.eval g = gval at h1
  cases h1 with
  | yf _ b hb =>
    have hrel : Rel2 D ρ (args.toList.map e) (args.map A.eval).toList := by
      simp only [Array.toList_map]
      refine ⟨by simp, fun i u v e1 e2 => ?_⟩
      simp only [List.getElem?_map, Option.map_eq_some_iff] at e1 e2
      obtain ⟨p, hp, rfl⟩ := e1
      obtain ⟨q, hq, rfl⟩ := e2
      rw [hp] at hq
      cases hq
      refine ha p ?_
      have hm : p ∈ args := by simpa using List.mem_of_getElem? hp
      simp only [ho, Op.operands, Call.operands, Array.mem_append]
      exact .inr hm
    obtain ⟨fn, tmps, asx, bd, h1, h2⟩ := hc W0 D ρ w _ b hs hb hrel
    have hrun : (execOp A.eval o).run P w = .ok (.round b fn tmps asx bd) w := by
      simp only [execOp, ho, resolve, Deferred.ofValue, hgv, invoke, Sem.run_bind, Sem.run_pure, Result.andThen_ok]
      simpa using h1
    rw [Oper.semAt_eq _ _ _ (fun c hc => by rw [ho] at hc; cases hc), hrun]
    refine ⟨fun h => (by cases h), ?_⟩
    refine RoundIn.mono (F := Wd r) (n := 0) (R := fun e w' => ∃ D' ρ' t σ', e = .returned (.bool t) ∧ Ext D ρ D' ρ' ∧ St W0 D' ρ' σ' w' ∧ R t σ') h2 ?_
    rintro e w' ⟨D', ρ', t, σ', rfl, x, s', hR⟩
    exact ⟨D', ρ', .bool t, .bool t, σ', rfl, x, s', .bool t, t, rfl, hR⟩

/-- The record of a loop is written. -/
theorem St.loop {W0 : Base} {D : DM} {ρ : List Slot} {w : World} (hs : St W0 D ρ σ w) {k b kd bd : Nat} {fn : FuncId} {st st' : LoopState} {pend pend' : Option Code} {tmps : List IV} {vs : Array Value} {ps : Array Tmp} {asx bo : Code} (hb : ρ[k]? = some (.fix b))
    (hk : σ[k]? = some (.loop st pend fn tmps ps asx bo kd)) (hbd : ρ[kd]? = some (.fix bd)) (hw : w.heap[b]? = some (.loop { state := st, pending := pend, fn, tmps := vs, params := ps, assign := asx, body := bo, defers := bd })) (hr : Rel2 D ρ tmps vs.toList) :
    St W0 D ρ (σ.set k (.loop st' pend' fn tmps ps asx bo kd)) (w.putObj b (.loop { state := st', pending := pend', fn, tmps := vs, params := ps, assign := asx, body := bo, defers := bd })) := by
  have hlt := (Array.getElem?_eq_some_iff.1 hw).1
  exact hs.set hb rfl _ ⟨vs, bd, hbd, World.putObj_heap_same hlt, hr⟩ rfl rfl rfl World.putObj_size fun i hi => World.putObj_heap_other hi
def IRound (k : Nat) (fn : FuncId) (tmps : List IV) (ps : Array Tmp) (asx bo : Code) (kd : Nat) (R : Bool → List IObj → Prop) : IPost
  | .normal, _, σ => σ[k]? = some (.loop .busy none fn tmps ps asx bo kd) ∧ R true (σ.set k (.loop .ready none fn tmps ps asx bo kd))
  | .ret, _, σ => σ[k]? = some (.loop .busy none fn tmps ps asx bo kd) ∧ R false (σ.set k (.loop .done (some .ret) fn tmps ps asx bo kd))
  | .exit id, _, σ => σ[k]? = some (.loop .busy none fn tmps ps asx bo kd) ∧ R false (σ.set k (.loop .done (some (.exit id)) fn tmps ps asx bo kd))
  | _, _, _ => False
/-- A round, out of its walk. -/
theorem iyield_of {k kd : Nat} {fn : FuncId} {tmps args : List IV} {ps : Array Tmp} {asx bo : Code} {R : Bool → List IObj → Prop} (hk : σ[k]? = some (.loop .ready none fn tmps ps asx bo kd)) (hl : args.length = ps.size)
    (h : ∀ b, IC P ⟨some b, σ.length⟩ asx (IThen (fun a1 σ1 => σ1[k]? = some (.loop .ready none fn tmps ps asx bo kd) ∧ IC P ⟨some b, σ.length⟩ bo (IRound k fn tmps ps asx bo kd R) a1 (σ1.set k (.loop .busy none fn tmps ps asx bo kd))) (fun _ _ _ => False))
      ⟨(ps.toList.zip args).foldl (fun t p => t.set p.1 p.2) tmps, []⟩ σ) : IYield P k args σ R := by
  intro W0 D ρ w vs b hs hb ha
  have hkl : k < ρ.length := (List.getElem?_eq_some_iff.1 hb).1
  have hkσ : k < σ.length := by rw [← hs.len]; exact hkl
  obtain ⟨vt, bd, h0, h1, h2⟩ := hs.ok k _ _ hb hk
  have hvs : vs.size = ps.size := by rw [← hl]; simpa using ha.1.symm
  have hy := run_yield (P := P) (args := vs) h1 (by exact hvs)
  refine ⟨fn, _, asx, bo, hy, roundIn_of_wpIn trivial ?_⟩
  have hfold : ∀ (qs : List Tmp) (us : List IV) (ws : List Value) (t : List IV) (T : Array Value), Rel2 D ρ us ws → Rel2 D ρ t T.toList → Rel2 D ρ ((qs.zip us).foldl (fun t p => t.set p.1 p.2) t) ((qs.zip ws).foldl (fun T (p : Tmp × Value) => T.setIfInBounds p.1 p.2) T).toList := by
    intro qs
    induction qs with
    | nil => intro us ws t T _ h; exact h
    | cons q qs ih =>
      intro us ws t T hu ht
      cases us with
      | nil => have := hu.1; cases ws with
        | nil => exact ht
        | cons => simp at this
      | cons u us =>
        cases ws with
        | nil => have := hu.1; simp at this
        | cons v ws =>
          refine ih us ws _ _ ⟨by have := hu.1; simpa using this, fun i x y e1 e2 => hu.2 (i + 1) x y e1 e2⟩ ?_
          simp only [Array.toList_setIfInBounds]
          exact ht.set (hu.2 0 u v rfl rfl) q
  have hfr : FR D ρ ⟨(ps.toList.zip args).foldl (fun t p => t.set p.1 p.2) tmps, []⟩ { tmps := (ps.zip vs).foldl (fun tmps (t, a) => tmps.setIfInBounds t a) vt, defers := [] } := by
    refine ⟨?_, trivial⟩
    have := hfold ps.toList args vs.toList tmps vt ha h2
    rw [← Array.foldl_toList, Array.toList_zip]
    exact this
  refine wpIn_mono (h b W0 D ρ w _ hs hfr) ?_
  rintro e A1 w1 ⟨D1, ρ1, a1, σ1, x1, s1, f1, q1⟩
  cases e with
  | normal =>
    obtain ⟨hk1, hbody⟩ := q1
    rw [← hs.len, List.take_length] at x1
    obtain ⟨s', e', l'⟩ := x1.s k _ hb
    simp only [Slot.le] at l'
    subst l'
    obtain ⟨vt1, bd1, g0, g1, g2⟩ := s1.ok k _ _ e' hk1
    have hbr := run_beginRound (P := P) g1 rfl
    refine ⟨_, hbr, ?_⟩
    have s2 := s1.loop (st' := .busy) (pend' := none) e' hk1 g0 g1 g2
    refine wpIn_mono (hbody W0 D1 ρ1 _ A1 s2 f1) ?_
    rintro e2 A2 w2 ⟨D2, ρ2, a2, σ2, x2, s3, f2, q2⟩
    have x12 : Ext D ρ D2 ρ2 := by
      have hle : ρ.length ≤ σ.length := by rw [hs.len]; exact Nat.le_refl _
      refine ⟨fun b o v e => x2.d _ _ _ (x1.d _ _ _ e), fun j s e => ?_⟩
      obtain ⟨s', e1, l1⟩ := x1.s j s e
      obtain ⟨s'', e2, l2⟩ := x2.s j s' (by
        rw [List.getElem?_take, if_pos (Nat.lt_of_lt_of_le (List.getElem?_eq_some_iff.1 e).1 hle)]
        exact e1)
      exact ⟨s'', e2, Slot.le_trans l1 l2⟩
    have fin : ∀ (jump : Option Code) , σ2[k]? = some (.loop .busy none fn tmps ps asx bo kd) → R jump.isNone (σ2.set k (.loop (if jump.isNone then .ready else .done) jump fn tmps ps asx bo kd)) →
        ∃ v w', (Instr.endRound b jump).run P w2 = .ok v w' ∧ ∃ D' ρ' t σ', Ending.returned v = .returned (.bool t) ∧ Ext D ρ D' ρ' ∧ St W0 D' ρ' σ' w' ∧ R t σ' := by
      intro jump hk2 hR
      obtain ⟨s', e2, l2⟩ := x12.s k _ hb
      simp only [Slot.le] at l2
      subst l2
      obtain ⟨vt2, bd2, c0, c1, c2⟩ := s3.ok k _ _ e2 hk2
      exact ⟨_, _, run_endRound jump c1, D2, ρ2, jump.isNone, _, rfl, x12, s3.loop e2 hk2 c0 c1 c2, hR⟩
    cases e2 with
    | normal => exact fin none q2.1 q2.2
    | ret => exact fin (some .ret) q2.1 q2.2
    | exit id => exact fin (some (.exit id)) q2.1 q2.2
    | goto l => exact q2.elim
    | panic ch => exact q2.elim
    | outgrown => exact q2.elim
  | _ => exact q1.elim
theorem iyield_in {k kd : Nat} {fn : FuncId} {tmps args t0 : List IV} {ps : Array Tmp} {asx bo : Code} {R : Bool → List IObj → Prop} (hk : σ[k]? = some (.loop .ready none fn tmps ps asx bo kd)) (hl : args.length = ps.size) (ht : (ps.toList.zip args).foldl (fun t p => t.set p.1 p.2) tmps = t0)
    (h : ∀ b, IC P ⟨some b, σ.length⟩ asx (IThen (fun a1 σ1 => σ1[k]? = some (.loop .ready none fn tmps ps asx bo kd) ∧ IC P ⟨some b, σ.length⟩ bo (IRound k fn tmps ps asx bo kd R) a1 (σ1.set k (.loop .busy none fn tmps ps asx bo kd))) (fun _ _ _ => False))
      ⟨t0, []⟩ σ) : IYield P k args σ R := by
  subst ht
  exact iyield_of hk hl h
def IJump (P : Program) (r : RN) (Q : IPost) : Option Code → IA → List IObj → Prop
  | none, a, σ => Q .normal a σ
  | some c, a, σ => IC P r c Q a σ
/-- The statement. -/
theorem ic_rangeFunc {g : Operand} {ps : Array Tmp} {asx bo : Code} {f : FuncId} {fs cs : List IV} [hF : FunC P f] (hr : r.round = none) (hg : ev a g = .fn (.func f) fs cs)
    (hc : ∀ fn, ICalls P f (fs ++ [.yf (σ.length + 1)] ++ cs) (σ ++ [.obj (.deferred (some [])), .loop .ready none fn a.tmps ps asx bo σ.length])
      (fun _ σ' => ∃ st pend, σ'[σ.length + 1]? = some (.loop st pend fn a.tmps ps asx bo σ.length) ∧ st ≠ .busy ∧ IJump P r Q pend ⟨a.tmps, .mark σ.length :: a.defers⟩ (σ'.set (σ.length + 1) .gone))) :
    IC P r (.rangeFunc g ps asx bo) Q a σ := by
  intro W0 D ρ w A hs hf
  refine wpIn_rangeFunc ?_
  intro fn _
  have h1 := hf.ev g
  rw [hg] at h1
  generalize hgv : A.eval g = gval at h1
  cases h1 with
  | fn _ _ _ vs us hl hl2 hv hv2 =>
    obtain ⟨p1, x1⟩ := hs.push (.deferred (some [])) (.fix w.heap.size) rfl (.obj (.deferred (some []))) (by show (w.alloc _).heap[w.heap.size]? = _; exact heap_alloc_new w _)
    have hb0 : (ρ ++ [Slot.fix w.heap.size])[σ.length]? = some (.fix w.heap.size) := by rw [← hs.len]; simp
    obtain ⟨p2, x2⟩ := p1.push (.loop { state := .ready, pending := none, fn, tmps := A.tmps, params := ps, assign := asx, body := bo, defers := w.heap.size }) (.fix (w.alloc (.deferred (some []))).heap.size) rfl (.loop .ready none fn a.tmps ps asx bo σ.length)
      ⟨A.tmps, w.heap.size, by
        rw [List.getElem?_append_left (by simp [hs.len])]
        exact hb0, heap_alloc_new _ _, (hf.t.ext x1).ext ⟨fun _ _ _ h => h, fun k s e => ⟨s, by rw [List.getElem?_append_left (List.getElem?_eq_some_iff.1 e).1]; exact e, Slot.le_refl s⟩⟩⟩
    have x12 := x1.trans x2
    rw [World.size_alloc] at p2 x2 x12
    rw [List.append_assoc, List.append_assoc] at p2
    rw [List.append_assoc] at x12
    have hb1 : (ρ ++ ([Slot.fix w.heap.size] ++ [Slot.fix (w.heap.size + 1)]))[σ.length + 1]? = some (.fix (w.heap.size + 1)) := by rw [← hs.len]; simp
    have hen : (Instr.enterLoop fn A.tmps ps asx bo (Wd r).round).run P w = .ok (w.heap.size + 1, [{ target := .collected w.heap.size, args := #[] }])
        ((w.alloc (.deferred (some []))).alloc (.loop { state := .ready, pending := none, fn, tmps := A.tmps, params := ps, assign := asx, body := bo, defers := w.heap.size })) := by
      show (Instr.enterLoop fn A.tmps ps asx bo r.round).run P w = _
      rw [hr]
      exact run_enterLoop_outer ..
    generalize hW1 : (w.alloc (.deferred (some []))).alloc (.loop { state := .ready, pending := none, fn, tmps := A.tmps, params := ps, assign := asx, body := bo, defers := w.heap.size }) = W1 at p2 hen
    refine ⟨_, _, W1, { target := .fn (.func f) us, args := vs ++ #[.func (.yield (w.heap.size + 1)) #[] #[]] }, W1, f, vs ++ #[.func (.yield (w.heap.size + 1)) #[] #[]] ++ us, W1, hen, ?_, fun _ _ => trivial, ?_, fun h => (by cases h), ?_⟩
    · simp only [resolve, hgv, Deferred.ofValue, Sem.run_pure]
      simp [Act.eval]
    · simp only [invoke, hF.h.run]
    · have hrel : Rel2 D (ρ ++ ([Slot.fix w.heap.size] ++ [Slot.fix (w.heap.size + 1)])) (fs ++ [IV.yf (σ.length + 1)] ++ cs) (vs ++ #[Value.func (.yield (w.heap.size + 1)) #[] #[]] ++ us).toList := by
        simp only [Array.toList_append]
        refine Rel2.append (Rel2.append (Rel2.ext ⟨by simpa using hl, fun i u v e1 e2 => hv i u v e1 (by simpa using e2)⟩ x12) ⟨by simp, fun i u v e1 e2 => ?_⟩) (Rel2.ext ⟨by simpa using hl2, fun i u v e1 e2 => hv2 i u v e1 (by simpa using e2)⟩ x12)
        rcases i with _ | i
        · simp at e1 e2
          subst e1; subst e2
          exact .yf _ _ hb1
        · simp at e1
      refine callsIn_wide (n := 0 - 1).2 ((hc fn W0 D _ _ _ p2 hrel).mono ?_)
      rintro e w3 ⟨D3, ρ3, u, v, σ3, rfl, x3, s3, hv3, st, pend, hk3, hst, hJ⟩
      obtain ⟨s', e', l'⟩ := x3.s _ _ hb1
      simp only [Slot.le] at l'
      subst l'
      obtain ⟨vt, bd, g0, g1, g2⟩ := s3.ok _ _ _ e' hk3
      have hend := run_endLoop (P := P) g1 hst
      refine ⟨_, _, hend, ?_⟩
      have hlt := (Array.getElem?_eq_some_iff.1 g1).1
      have s4 := s3.set (w' := w3.putObj (w.heap.size + 1) (.loop { state := .exhausted, pending := pend, fn, tmps := vt, params := ps, assign := asx, body := bo, defers := bd })) e' rfl .gone trivial rfl rfl rfl World.putObj_size fun i hi => World.putObj_heap_other hi
      have x4 := x12.trans x3
      obtain ⟨s'', e'', l''⟩ := x3.s σ.length (.fix w.heap.size) (by rw [← hs.len]; simp)
      simp only [Slot.le] at l''
      subst l''
      have f4 : FR D3 ρ3 ⟨a.tmps, .mark σ.length :: a.defers⟩ { A with defers := [{ target := .collected w.heap.size, args := #[] }] ++ A.defers } := ⟨hf.t.ext x4, ⟨w.heap.size, e'', rfl⟩, hf.d.ext x4⟩
      cases pend with
      | none => exact ⟨D3, ρ3, _, _, (Ext.take0 _ _ _).trans x4, s4, f4, hJ⟩
      | some c => exact wpIn_mono (hJ W0 D3 ρ3 _ _ s4 f4) fun _ _ _ q => lift_ext x4 q

/-! ### a function that leaves with marks -/
def IMarks : List IDef → List IObj → (List IObj → Prop) → Prop
  | [], σ, K => K σ
  | .mark k :: ds, σ, K => σ[k]? = some (.obj (.deferred (some []))) ∧ IMarks ds (σ.set k .gone) K
def IRetM (P : Program) (fn : Func) (R : IV → List IObj → Prop) : IPost
  | .normal, a, σ | .ret, a, σ => IMarks a.defers σ fun σ' => ∃ u, IRes P fn ⟨a.tmps, []⟩ σ' u ∧ R u σ'
  | _, _, _ => False
theorem leaves_marks {fn : Func} {K : List IObj → Prop} {W0 : Base} {D : DM} {ρ : List Slot} {T : Array Value} {R : Ending → World → Prop}
    (hk : ∀ σ w, St W0 D ρ σ w → K σ → ∃ v, (results fn T).run P w = .ok v w ∧ R (.returned v) w) :
    ∀ (ds : List IDef) (es : List Deferred) (σ : List IObj) (w : World), DR ρ ds es → St W0 D ρ σ w → IMarks ds σ K → LeavesInM Fence.wide 0 P fn T R es .returning w
  | [], es, σ, w, hd, hs, h => by
    cases hd.nil
    exact hk σ w hs h
  | .mark k :: ds, es, σ, w, hd, hs, h => by
    cases es with
    | nil => exact hd.elim
    | cons e es =>
      obtain ⟨⟨b, h1, h2⟩, h3⟩ := hd
      obtain ⟨h4, h5⟩ := h
      subst h2
      have hok : w.heap[b]? = some (.deferred (some [])) := hs.ok k _ _ h1 h4
      refine ⟨by simp, .inl ⟨b, _, rfl, run_takeDeferred hok, leaves_marks hk ds es _ _ h3 (hs.set h1 rfl .gone trivial rfl rfl rfl World.putObj_size fun i hi => World.putObj_heap_other hi) h5⟩⟩
theorem icalls_marks {f : FuncId} {fn : Func} {c : Code} {args l : List IV} {σ : List IObj} {R : IV → List IObj → Prop} (hf : P.funcs[f]? = some fn) (hb : fn.body = some c) (hl : args ++ List.replicate (fn.ntmps - args.length) .und = l)
    (h : IC P ⟨none, σ.length⟩ c (IRetM P fn R) ⟨l, []⟩ σ) : ICalls P f args σ R := by
  subst hl
  intro W0 D ρ w vs hs ha
  refine callsIn_wide.1 (callsIn_of_wp_marks (n := 0) hf hb trivial ?_)
  have hl : args.length = vs.size := by simpa using ha.1
  refine wpIn_mono (h W0 D ρ w { tmps := vs ++ Array.replicate (fn.ntmps - vs.size) undef, defers := [] } hs ⟨?_, trivial⟩) ?_
  · rw [hl]
    refine ⟨by simp [hl], fun i u v e e' => ?_⟩
    simp only [Array.toList_append, Array.toList_replicate] at e'
    rcases Nat.lt_or_ge i args.length with hi | hi
    · rw [List.getElem?_append_left hi] at e
      rw [List.getElem?_append_left (by simp; omega)] at e'
      exact ha.2 i u v e e'
    · rw [List.getElem?_append_right hi] at e
      rw [List.getElem?_append_right (by simp; omega)] at e'
      have h1 := List.eq_of_mem_replicate (List.mem_of_getElem? e)
      have h2 := List.eq_of_mem_replicate (List.mem_of_getElem? e')
      subst h1; subst h2
      exact .und
  · rintro e A' w' ⟨D', ρ', a', σ', x, s', f', q⟩
    simp only [← hs.len, List.take_length] at x
    have fin : IMarks a'.defers σ' (fun σ' => ∃ u, IRes P fn ⟨a'.tmps, []⟩ σ' u ∧ R u σ') → LeavesInM Fence.wide 0 P fn A'.tmps (fun e w' => ∃ D' ρ' u v σ', e = .returned v ∧ Ext D ρ D' ρ' ∧ St W0 D' ρ' σ' w' ∧ VR D' ρ' u v ∧ R u σ') A'.defers .returning w' := by
      refine leaves_marks (D := D') (ρ := ρ') (W0 := W0) (fun σ2 w2 s2 hk => ?_) _ _ _ _ f'.d s'
      obtain ⟨u, hres, hR⟩ := hk
      obtain ⟨v, hv, hvr⟩ := hres W0 D' ρ' w2 { A' with defers := [] } s2 ⟨f'.t, trivial⟩
      exact ⟨v, hv, D', ρ', u, v, σ2, rfl, x, s2, hvr, hR⟩
    cases e with
    | normal => exact fin q
    | ret => exact fin q
    | exit id => exact q.elim
    | goto l => exact q.elim
    | panic ch => exact q.elim
    | outgrown => exact q.elim
end
end Go.QL
end

section
/- QL, part p: loops whose rounds leave nothing behind; an empty slice of the frame that is to be a row. Plain; no program in sight. -/
set_option linter.unusedVariables false
set_option linter.unusedSimpArgs false
namespace Go.QL
open Go Go.RowKit

theorem good_nil {sz : Nat} : Good sz [] := fun _ h => by cases h
theorem good_cons {sz : Nat} {x : IV} {xs : List IV} (h1 : x.solid = true) (h2 : (flat x).length = sz) (h : Good sz xs) : Good sz (x :: xs) := fun y hy => by
  rcases List.mem_cons.1 hy with rfl | h'
  · exact ⟨h1, h2⟩
  · exact h y h'
theorem lts_nil {n : Nat} : ∀ x ∈ ([] : List IV), Lt n x := fun _ h => by cases h
theorem lts_cons {n : Nat} {x : IV} {xs : List IV} (h : Lt n x) (k : ∀ y ∈ xs, Lt n y) : ∀ y ∈ x :: xs, Lt n y := fun y hy => by
  rcases List.mem_cons.1 hy with rfl | h'
  · exact h
  · exact k y h'
def OLts (n : Nat) (σ : List IObj) : Prop := ∀ (k : Nat) o, σ[k]? = some o → OLt n o
theorem olts_nil {n : Nat} : OLts n [] := fun k o e => by simp at e
theorem olts_cons {n : Nat} {x : IObj} {xs : List IObj} (h : OLt n x) (k : OLts n xs) : OLts n (x :: xs) := fun j o e => by
  rcases j with _ | j
  · simp at e; subst e; exact h
  · exact k j o (by simpa using e)
theorem olt_box {n : Nat} {T : TypeId} {cs : List IV} (h : ∀ x ∈ cs, Lt n x) : OLt n (.box T cs) := h
theorem olt_row {n E sz : Nat} {xs : List IV} (h : ∀ x ∈ xs, Dat x) : OLt n (.row E sz xs) := fun x hx => by
  obtain ⟨y, hy, hxy⟩ := List.mem_flatMap.1 hx
  exact (h y hy).flat x hxy n
theorem olt_row' {n E sz : Nat} {xs : List IV} (h : ∀ x ∈ xs, ∀ y ∈ flat x, Lt n y) : OLt n (.row E sz xs) := fun x hx => by
  obtain ⟨y, hy, hxy⟩ := List.mem_flatMap.1 hx
  exact h y hy x hxy
theorem olt_obj {n : Nat} {o : Obj} : OLt n (.obj o) := trivial
theorem olt_gone {n : Nat} : OLt n .gone := trivial
theorem olt_loop {n : Nat} {st : LoopState} {pend : Option Code} {fn : FuncId} {tmps : List IV} {ps : Array Tmp} {asx bo : Code} {k : Nat} (h : ∀ x ∈ tmps, Lt n x) (hk : k < n) : OLt n (.loop st pend fn tmps ps asx bo k) := ⟨h, hk⟩
def Marks (n : Nat) (ds : List IDef) : Prop := ∀ k, IDef.mark k ∈ ds → k < n
theorem marks_nil {n : Nat} : Marks n [] := fun k h => by cases h
theorem marks_cons {n k : Nat} {ds : List IDef} (h : k < n) (hs : Marks n ds) : Marks n (.mark k :: ds) := fun j hj => by
  rcases List.mem_cons.1 hj with e | e
  · cases e; exact h
  · exact hs j e
/-- As I says, once what is needed no more is set aside. -/
def Loose (r : RN) (I : List IV → List IObj → Prop) (ds : List IDef) (a : IA) (σ : List IObj) : Prop :=
  a.defers = ds ∧ ∃ t' σ' τ, Wks a.tmps t' ∧ σ = σ' ++ τ ∧ r.n ≤ σ'.length ∧ (∀ x ∈ t', Lt σ'.length x) ∧ Marks σ'.length ds ∧ OLts σ'.length σ' ∧ I t' σ'
section
variable {P : Program} {r : RN} {Q : IPost} {a : IA} {σ : List IObj}
theorem loose_mk {I : List IV → List IObj → Prop} {ds : List IDef} {t t' : List IV} {σ' τ : List IObj} (hw : Wks t t') (hs : σ = σ' ++ τ) (hn : r.n ≤ σ'.length) (ht : ∀ x ∈ t', Lt σ'.length x) (hm : Marks σ'.length ds) (ho : OLts σ'.length σ') (h : I t' σ') :
    Loose r I ds ⟨t, ds⟩ σ := ⟨rfl, t', σ', τ, hw, hs, hn, ht, hm, ho, h⟩
theorem Loose.ic {I : List IV → List IObj → Prop} {ds : List IDef} {c : Code} (h : Loose r I ds a σ) (k : ∀ t σ, I t σ → IC P r c Q ⟨t, ds⟩ σ) : IC P r c Q a σ := by
  obtain ⟨hd, t', σ', τ, h1, h2, h3, h4, h5, h6, h7⟩ := h
  obtain ⟨t, d⟩ := a
  simp only at hd h1
  subst hd; subst h2
  exact ic_trim h1 h3 h4 h5 h6 (k t' σ' h7)
/-- A loop. -/
theorem ic_loopT {c : Code} (I : Nat → List IV → List IObj → Prop) (ds : List IDef) {m : Nat} (h0 : Loose r (I m) ds a σ)
    (round : ∀ m t σ, I m t σ → IC P r c (IThen (fun a' σ' => ∃ m', m' < m ∧ Loose r (I m') ds a' σ') Q) ⟨t, ds⟩ σ) : IC P r (.loop c) Q a σ :=
  ic_loop (fun m a σ => Loose r (I m) ds a σ) h0 fun m a σ h => h.ic fun t σ ht => round m t σ ht
/-- .. nothing falls away but what the frame holds. -/
def LooseW (I : List IV → List IObj → Prop) (ds : List IDef) (a : IA) (σ : List IObj) : Prop := a.defers = ds ∧ ∃ t', Wks a.tmps t' ∧ I t' σ
theorem loosew_mk {I : List IV → List IObj → Prop} {ds : List IDef} {t t' : List IV} (hw : Wks t t') (h : I t' σ) : LooseW I ds ⟨t, ds⟩ σ := ⟨rfl, t', hw, h⟩
theorem ic_loopW {c : Code} (I : Nat → List IV → List IObj → Prop) (ds : List IDef) {m : Nat} (h0 : LooseW (I m) ds a σ)
    (round : ∀ m t σ, I m t σ → IC P r c (IThen (fun a' σ' => ∃ m', m' < m ∧ LooseW (I m') ds a' σ') Q) ⟨t, ds⟩ σ) : IC P r (.loop c) Q a σ :=
  ic_loop (fun m a σ => LooseW (I m) ds a σ) h0 fun m a σ h => by
    obtain ⟨hd, t', hw, ht⟩ := h
    obtain ⟨t, d⟩ := a
    simp only at hd hw
    subst hd
    exact ic_wks hw (round m t' σ ht)
theorem Wks.set : ∀ {t : List IV} {d : Nat} {u u' : IV}, t[d]? = some u → Wk u u' → Wks t (t.set d u')
  | [], d, u, u', h, _ => by simp at h
  | x :: t, 0, u, u', h, hw => by
    simp only [List.getElem?_cons_zero, Option.some.injEq] at h
    subst h
    exact .cons hw (.refl t)
  | x :: t, d + 1, u, u', h, hw => .cons (.refl x) (Wks.set (by simpa using h) hw)
/-- One value of the frame taken for less. -/
theorem il_wk1 {ops : Array Oper} {rest : List Oper} {t t' : List IV} {ds : List IDef} (d : Nat) {u : IV} (u' : IV) (hd : t[d]? = some u) (hw : Wk u u') (ht : t.set d u' = t') (k : IL P r ops Q rest ⟨t', ds⟩ σ) : IL P r ops Q rest ⟨t, ds⟩ σ := by
  subst ht
  exact il_wks (Wks.set hd hw) k
theorem ic_wk1 {c : Code} {t t' : List IV} {ds : List IDef} (d : Nat) {u : IV} (u' : IV) (hd : t[d]? = some u) (hw : Wk u u') (ht : t.set d u' = t') (k : IC P r c Q ⟨t', ds⟩ σ) : IC P r c Q ⟨t, ds⟩ σ := by
  subst ht
  exact ic_wks (Wks.set hd hw) k
/-- Something is said between two codes. -/
theorem ic_seqM {x y : Code} (M : IA → List IObj → Prop) (h : IC P r x (IThen M (fun _ _ _ => False)) a σ) (k : ∀ a σ, M a σ → IC P r y Q a σ) : IC P r (.seq x y) Q a σ :=
  ic_seq (h.mono fun e a σ q => by
    cases e with
    | normal => exact k a σ q
    | _ => exact q.elim)
theorem ic_mid {c : Code} (M : IA → List IObj → Prop) (h : IC P r c (IThen M (fun _ _ _ => False)) a σ) (k : ∀ a σ, M a σ → Q .normal a σ) : IC P r c Q a σ :=
  h.mono fun e a σ q => by
    cases e with
    | normal => exact k a σ q
    | _ => exact q.elim
theorem LooseW.ic {I : List IV → List IObj → Prop} {ds : List IDef} {c : Code} (h : LooseW I ds a σ) (k : ∀ t, I t σ → IC P r c Q ⟨t, ds⟩ σ) : IC P r c Q a σ := by
  obtain ⟨hd, t', h1, h7⟩ := h
  obtain ⟨t, d⟩ := a
  simp only at hd h1
  subst hd
  exact ic_wks h1 (k t' h7)
/-- An empty slice of the frame is to be a row. -/
theorem ic_row0t {c : Code} {t : List IV} {ds : List IDef} (d : Nat) (E sz : Nat) {t' : List IV} {σ' : List IObj} (hsz : decide (0 < sz) = true) (hd : t[d]? = some .nils) (ht : t.set d (.row σ.length 0) = t') (hσ : σ ++ [.row E sz []] = σ')
    (h : IC P r c Q ⟨t', ds⟩ σ') : IC P r c Q ⟨t, ds⟩ σ := by
  subst ht; subst hσ
  intro W0 D ρ w A hs hf
  obtain ⟨p1, x1⟩ := hs.pushRow (w' := w) (n := 0) (v := .slice none 0 0) (World.grownBy.refl w none) (.inl rfl) (.row E sz []) (fun x => ⟨rfl, (fun _ h => by cases h), of_decide_eq_true hsz, [], ⟨by simp, .inl ⟨rfl, none, rfl⟩⟩, ⟨rfl, fun i u v e => by simp [flats] at e⟩⟩)
  have hl := hf.t.1
  have hdl : d < A.tmps.toList.length := by rw [← hl]; exact (List.getElem?_eq_some_iff.1 hd).1
  have hv0 : A.tmps.toList[d]? = some (.slice none 0 0) := by
    rw [List.getElem?_eq_getElem hdl]
    have := hf.t.2 d _ _ hd (List.getElem?_eq_getElem hdl)
    generalize A.tmps.toList[d] = v at this
    cases this
    rfl
  have hset : A.tmps.toList.set d (.slice none 0 0) = A.tmps.toList := by
    apply List.ext_getElem?
    intro i
    by_cases hi : d = i
    · subst hi; rw [List.getElem?_set_self hdl, hv0]
    · rw [List.getElem?_set_ne hi]
  have hrel := (hf.t.ext x1).set (u := .row σ.length 0) (v := .slice none 0 0) (.row _ _ _ _ (by unfold RowAt; rw [← hs.len]; simp)) d
  rw [hset] at hrel
  exact wpIn_mono (h W0 D _ w A p1 ⟨hrel, hf.d.ext x1⟩) fun e A w q => lift_ext x1 q
/-! ### regions that draw: steps by name -/
variable {l : List Oper} {o : Oper} {rest : List Oper} {a' : IA} {σ' σ1 : List IObj} {K : IA → Prop} {v : IV} {ops : Array Oper} {n : Nat} {L : Array Bool}
theorem ic_drawq {id : Nat} (p : Nat) (hm : P.follows .mixedOrders = true) (hp : p.ble l.length = true) (hchk : qchk l p = true)
    (h : IQ P r l σ (fun a' => IGm P r l.toArray Q (l.length - p) ((List.replicate p true ++ List.replicate (l.length - p) false).toArray) a' σ) (l.take p) a) : IC P r (.region id l.toArray true) Q a σ :=
  ic_draw hm (ig_quiet (Nat.le_of_ble_eq_true hp) hchk h fun _ h => h)
theorem iq_dn (hg : o.guard = none) (h : OpQ P r o (ev a) σ v σ) (ha : a.put o.dst v = a') (k : IQ P r l σ K rest a') : IQ P r l σ K (o :: rest) a := by
  subst ha
  unfold IQ
  rw [hg]
  exact ⟨v, h, k⟩
theorem iq_yn {j : Nat} {b : Bool} (hg : o.guard = some (j, b)) (hb : gv l.toArray a j = .bool b) (h : OpQ P r o (ev a) σ v σ) (ha : a.put o.dst v = a') (k : IQ P r l σ K rest a') : IQ P r l σ K (o :: rest) a := by
  subst ha
  unfold IQ
  rw [hg]
  exact .inl ⟨hb, v, h, k⟩
theorem iq_nn {j : Nat} {b : Bool} (hg : o.guard = some (j, b)) (hb : gv l.toArray a j = .bool (!b) ∨ gv l.toArray a j = .und) (ha : a.put o.dst .und = a') (k : IQ P r l σ K rest a') : IQ P r l σ K (o :: rest) a := by
  subst ha
  unfold IQ
  rw [hg]
  exact .inr ⟨hb, k⟩
theorem iq_nil (h : K a) : IQ P r l σ K [] a := h
theorem iq_callv {f : FuncId} {g : Operand} {args : Array Operand} {tys : Array TypeId} {fs cs asx : List IV} {u : IV} [hF : FunC P f] (hg : o.guard = none) (ho : o.op = .call { callee := .value g, args := args, argTypes := tys })
    (he : ev a g = .fn (.func f) fs cs) (has : fs ++ args.toList.map (ev a) ++ cs = asx) (hc : ICalls P f asx σ (fun u' σ' => u' = u ∧ σ' = σ)) (ha : a.put o.dst u = a') (k : IQ P r l σ K rest a') : IQ P r l σ K (o :: rest) a := by
  subst has
  exact iq_dn hg (op_call ho he hF.h hc) ha k
theorem iq_ycallv {j : Nat} {b : Bool} {f : FuncId} {g : Operand} {args : Array Operand} {tys : Array TypeId} {fs cs asx : List IV} {u : IV} [hF : FunC P f] (hg : o.guard = some (j, b)) (hb : gv l.toArray a j = .bool b) (ho : o.op = .call { callee := .value g, args := args, argTypes := tys })
    (he : ev a g = .fn (.func f) fs cs) (has : fs ++ args.toList.map (ev a) ++ cs = asx) (hc : ICalls P f asx σ (fun u' σ' => u' = u ∧ σ' = σ)) (ha : a.put o.dst u = a') (k : IQ P r l σ K rest a') : IQ P r l σ K (o :: rest) a := by
  subst has
  exact iq_yn hg hb (op_call ho he hF.h hc) ha k
/-- The one operation that may be next. -/
theorem ig_one (i : Nat) (hr : Region.ready .any ops L = [i]) (ho : ops[i]? = some o) (hg : o.guard = none) (h : OpQ P r o (ev a) σ v σ1) (ha : a.put o.dst v = a') (hs : σ1 = σ') (k : IGm P r ops Q n (L.setIfInBounds i true) a' σ') : IGm P r ops Q (n + 1) L a σ := by
  subst ha; subst hs
  exact ig_ready hr (by simp) fun j hj => by
    rw [List.mem_singleton] at hj
    subst hj
    exact igi_op ho hg h k
theorem ig_two (i j : Nat) (hr : Region.ready .any ops L = [i, j]) (h1 : IGi P r ops Q n L a σ i) (h2 : IGi P r ops Q n L a σ j) : IGm P r ops Q (n + 1) L a σ :=
  ig_ready hr (by simp) fun k hk => by
    rcases List.mem_cons.1 hk with rfl | hk
    · exact h1
    · rw [List.mem_singleton] at hk
      subst hk
      exact h2
theorem igi_dn {i : Nat} (ho : ops[i]? = some o) (hg : o.guard = none) (h : OpQ P r o (ev a) σ v σ1) (ha : a.put o.dst v = a') (hs : σ1 = σ') (k : IGm P r ops Q n (L.setIfInBounds i true) a' σ') : IGi P r ops Q n L a σ i := by
  subst ha; subst hs
  exact igi_op ho hg h k
end
end Go.QL
end

section
/- QL, part r: the elements of a row of the call's own. Plain; no program in sight. -/
set_option linter.unusedVariables false
set_option linter.unusedSimpArgs false
namespace Go.QL
open Go Go.RowKit

theorem get3 {α : Type} (X Y Z : List α) (p q i : Nat) (hX : X.length = p) (hY : Y.length = q) : (X ++ (Y ++ Z))[i]? = if i < p then X[i]? else if i < p + q then Y[i - p]? else Z[i - p - q]? := by
  subst hX; subst hY
  split
  · rw [List.getElem?_append_left (by assumption)]
  · rw [List.getElem?_append_right (by omega)]
    split
    · rw [List.getElem?_append_left (by omega)]
    · rw [List.getElem?_append_right (by omega)]
theorem flats_set {sz : Nat} : ∀ (xs : List IV) (m : Nat) (u : IV), (∀ x ∈ xs, (flat x).length = sz) → (flat u).length = sz → m < xs.length → flats (xs.set m u) = wr (flats xs) (m * sz) (flat u)
  | [], m, u, _, _, h => by simp at h
  | x :: xs, 0, u, hx, hu, _ => by
    have h1 := hx x (by simp)
    simp [flats, wr, hu]
    rw [List.drop_append, ← h1]
    simp
  | x :: xs, m + 1, u, hx, hu, h => by
    have h1 := hx x (by simp)
    have ih := flats_set xs m u (fun y hy => hx y (by simp [hy])) hu (by simpa using h)
    simp only [flats, wr, List.set_cons_succ, List.flatMap_cons] at ih ⊢
    rw [ih, show (m + 1) * sz = (flat x).length + m * sz by rw [h1, Nat.add_mul]; omega, List.take_length_add_append, Nat.add_assoc, List.drop_length_add_append]
    simp only [List.append_assoc]
section
variable {P : Program} {r : RN} {o : Oper} {e : Val2} {σ : List IObj}
theorem St.row_at {W0 : Base} {D : DM} {ρ : List Slot} {w : World} (hs : St W0 D ρ σ w) {k E sz : Nat} {xs : List IV} (hk : σ[k]? = some (.row E sz xs)) :
    ∃ v, ρ[k]? = some (.row v xs.length) ∧ (∀ x ∈ xs, (flat x).length = sz) ∧ 0 < sz ∧ ∃ vs, RowOk w 0 E sz v xs.length vs ∧ Rel2 D ρ (flats xs) vs := by
  have hkl := (List.getElem?_eq_some_iff.1 hk).1
  obtain ⟨sl, hsl⟩ : ∃ sl, ρ[k]? = some sl := ⟨_, List.getElem?_eq_getElem (by rw [hs.len]; exact hkl)⟩
  have hok := hs.ok k sl _ hsl hk
  cases sl with
  | row v n =>
    obtain ⟨rfl, h1, h2, vs, h3, h4⟩ := hok
    exact ⟨v, hsl, h1, h2, vs, h3, h4⟩
  | box b => exact hok.elim
  | fix b => exact hok.elim
  | gone => exact hok.elim
theorem VR.row_eq {D : DM} {ρ : List Slot} {k n : Nat} {v v' : Value} (h : VR D ρ (.row k n) v') (hk : ρ[k]? = some (.row v n)) : v' = v := by
  obtain ⟨A, c, rfl, hr⟩ := h.row_inv
  unfold RowAt at hr
  rw [hk] at hr
  exact hr.2 rfl
theorem VR.eptr_eq {D : DM} {ρ : List Slot} {k n off : Nat} {v v' : Value} (h : VR D ρ (.eptr k n off) v') (hk : ρ[k]? = some (.row v n)) : ∃ b, hblk v = some b ∧ v' = .pointer (some ⟨b, off, none⟩) := by
  cases h with
  | eptr _ _ _ a ha =>
    unfold EltAt at ha
    rw [hk] at ha
    obtain ⟨b, h1, h2⟩ := ha.2 rfl
    exact ⟨b, h1, by rw [h2]⟩
theorem op_indexAddrR {T E0 E : TypeId} {x i : Operand} {z : Value} {sz bytes k n : Nat} {agg : Bool} {xs : List IV} {kk : IntKind} {m : Int} (hT : P.underlying T = some (.slice E0)) (hE : Ty P E0 agg z sz bytes) (ho : o.op = .indexAddr T x i)
    (hx : e x = .row k n) (hi : e i = .int kk m) (h0 : 0 ≤ m) (hk : σ[k]? = some (.row E sz xs)) (hn : n = xs.length) (hm : m.toNat < n) : OpQ P r o e σ (.eptr k n (m.toNat * sz)) σ := by
  refine opq_pure (by rw [ho]; rfl) fun W0 D ρ w A hs ha => ?_
  have h1 := ha x (by simp [ho, Op.operands]); rw [hx] at h1
  have h2 := ha i (by simp [ho, Op.operands]); rw [hi] at h2; have h2 := h2.int_inv
  subst hn
  obtain ⟨v, hρ, hfl, hsz, vs, hro, hrel⟩ := hs.row_at hk
  have hv := h1.row_eq hρ
  rcases hro.2 with ⟨h, _⟩ | ⟨g, cap, cur, hc, rfl, hg0, hh, hnc, hcm, hcs, htake⟩
  · omega
  · refine ⟨.pointer (some ⟨g, m.toNat * sz, none⟩), ?_, .eptr _ _ _ _ ?_⟩
    · have hn : m < (xs.length : Int) := by omega
      simp [execOp, ho, hv, h2, Instr.indexAt, asIntOf, Sem.run_bind, run_underlying hT, Result.andThen, h0, hn, hE.sizeOf, Addr_add]
    · unfold EltAt
      rw [hρ]
      exact ⟨Nat.le_refl _, fun _ => ⟨g, by simp [hblk]; omega, rfl⟩⟩
theorem op_fieldAddrE {T f off k n of : Nat} {x : Operand} {E sz : Nat} {xs : List IV} (hF : Fld P T f off) (ho : o.op = .fieldAddr T x f) (hx : e x = .eptr k n of) (hk : σ[k]? = some (.row E sz xs)) (hn : n = xs.length) : OpQ P r o e σ (.eptr k n (of + off)) σ := by
  refine opq_pure (by rw [ho]; rfl) fun W0 D ρ w A hs ha => ?_
  have h1 := ha x (by simp [ho, Op.operands])
  rw [hx] at h1
  subst hn
  obtain ⟨v, hρ, hfl, hsz, vs, hro, hrel⟩ := hs.row_at hk
  obtain ⟨b, hb, hv⟩ := h1.eptr_eq hρ
  refine ⟨.pointer (some ⟨b, of + off, none⟩), ?_, .eptr _ _ _ _ ?_⟩
  · simp [execOp, ho, hv, hF.run, Result.andThen, Sem.run_bind]
  · unfold EltAt
    rw [hρ]
    exact ⟨Nat.le_refl _, fun _ => ⟨b, hb, rfl⟩⟩
/-- What stands at an own row's cells. -/
theorem St.row_cell {D : DM} {ρ : List Slot} {w : World} {v : Value} {n E sz b : Nat} {vs : List Value} (hro : RowOk w 0 E sz v n vs) (hb : hblk v = some b) : ∀ (j : Nat) u, vs[j]? = some u → w.cell? ⟨b, j, none⟩ = some u := by
  intro j u ej
  rcases hro.2 with ⟨h, A, rfl⟩ | ⟨g, cap, cur, hc, rfl, hg0, hh, hnc, hcm, hcs, htake⟩
  · cases A <;> simp [hblk] at hb
  · have : g = b := by
      simp only [hblk] at hb
      split at hb
      · cases hb
      · exact Option.some.inj hb
    subst this
    rw [cells_at hh]
    rw [← htake, List.getElem?_take] at ej
    split at ej
    · simpa using ej
    · cases ej
theorem op_loadE1 {T E : TypeId} {x : Operand} {z : Value} {sz0 sz bytes k n m f : Nat} {xs : List IV} {u c : IV} (hT : Ty P T false z sz0 bytes) (ho : o.op = .load T x) (hx : e x = .eptr k n (m * sz + f)) (hk : σ[k]? = some (.row E sz xs)) (hn : n = xs.length) (hu : xs[m]? = some u) (hc : (flat u)[f]? = some c) (hf : f < sz) : OpQ P r o e σ c σ := by
  refine opq_pure (by rw [ho]; rfl) fun W0 D ρ w A hs ha => ?_
  have h1 := ha x (by simp [ho, Op.operands])
  rw [hx] at h1
  subst hn
  obtain ⟨v, hρ, hfl, hsz, vs, hro, hrel⟩ := hs.row_at hk
  obtain ⟨b, hb, hv⟩ := h1.eptr_eq hρ
  have hat : (flats xs)[m * sz + f]? = some c := by rw [← hc]; exact flats_at hfl hu hf
  have hlt : m * sz + f < vs.length := by rw [← hrel.1]; exact (List.getElem?_eq_some_iff.1 hat).1
  have hcell := St.row_cell (D := D) (ρ := ρ) hro hb _ _ (List.getElem?_eq_getElem hlt)
  refine ⟨_, ?_, hrel.2 _ _ _ hat (List.getElem?_eq_getElem hlt)⟩
  have h4 := run_loadOne hT (w := w) hcell
  simp [execOp, ho, hv, Instr.loadAt, Instr.sureAddr, Sem.run_bind, h4, Result.andThen]
theorem op_loadEN {T E : TypeId} {x : Operand} {z : Value} {sz bytes k n m : Nat} {xs : List IV} {u : IV} (hT : Ty P T true z sz bytes) (ho : o.op = .load T x) (hx : e x = .eptr k n (m * sz)) (hk : σ[k]? = some (.row E sz xs)) (hn : n = xs.length) (hu : xs[m]? = some u) : OpQ P r o e σ (.agg (flat u)) σ := by
  refine opq_pure (by rw [ho]; rfl) fun W0 D ρ w A hs ha => ?_
  have h1 := ha x (by simp [ho, Op.operands])
  rw [hx] at h1
  subst hn
  obtain ⟨v, hρ, hfl, hsz, vs, hro, hrel⟩ := hs.row_at hk
  obtain ⟨b, hb, hv⟩ := h1.eptr_eq hρ
  have hul := hfl u (List.mem_of_getElem? hu)
  have hm := (List.getElem?_eq_some_iff.1 hu).1
  have hvl : vs.length = xs.length * sz := by rw [← hrel.1]; exact flats_length hfl
  have hle : m * sz + sz ≤ xs.length * sz := by
    have := Nat.mul_le_mul_right sz (show m + 1 ≤ xs.length from hm)
    rw [Nat.add_mul] at this
    omega
  have hrel2 := hrel.sub (m * sz) sz
  have hfe : ((flats xs).drop (m * sz)).take sz = flat u := by
    apply List.ext_getElem?
    intro j
    rw [List.getElem?_take]
    split
    · rename_i hj
      rw [List.getElem?_drop]
      exact flats_at hfl hu hj
    · rw [List.getElem?_eq_none (by omega)]
  rw [hfe] at hrel2
  refine ⟨_, ?_, hrel2.agg⟩
  have h4 := run_loadAgg hT (w := w) (b := b) (off := m * sz) ((vs.drop (m * sz)).take sz) (by simp; omega) (fun j v ej => by
    rw [List.getElem?_take] at ej
    split at ej
    · rw [List.getElem?_drop] at ej
      exact St.row_cell (D := D) (ρ := ρ) hro hb _ _ ej
    · cases ej)
  simp [execOp, ho, hv, Instr.loadAt, Instr.sureAddr, Sem.run_bind, h4, Result.andThen]
theorem op_storeE {T E : TypeId} {x y : Operand} {z : Value} {sz bytes k n m : Nat} {agg : Bool} {xs : List IV} {u : IV} (hT : Ty P T agg z sz bytes) (ho : o.op = .store T x y) (hx : e x = .eptr k n (m * sz)) (hy : e y = u) (hk : σ[k]? = some (.row E sz xs)) (hn : n = xs.length)
    (hm : m < xs.length) (hu : u.solid = true) (hl : (flat u).length = sz) : OpQ P r o e σ .und (σ.set k (.row E sz (xs.set m u))) := by
  subst hy; subst hn
  intro W0 D ρ w A hs ha
  have h1 := ha x (by simp [ho, Op.operands])
  have h2 := ha y (by simp [ho, Op.operands])
  rw [hx] at h1
  obtain ⟨v, hρ, hfl, hsz, vs, hro, hrel⟩ := hs.row_at hk
  obtain ⟨b, hb, hv⟩ := h1.eptr_eq hρ
  have hf := h2.flat hu
  have hszv := flat_length_cells h2 hu
  have hcl : (A.eval y).cells.toList.length = sz := by rw [← hl]; exact hf.1.symm
  rcases hro.2 with ⟨h, _⟩ | ⟨g, cap, cur, hc, rfl, hg0, hh, hnc, hcm, hcs, htake⟩
  · omega
  · have hgb : g = b := by
      simp only [hblk] at hb
      split at hb
      · cases hb
      · exact Option.some.inj hb
    subst hgb
    have hle : m * sz + sz ≤ xs.length * sz := by
      have := Nat.mul_le_mul_right sz (show m + 1 ≤ xs.length from hm)
      rw [Nat.add_mul] at this
      omega
    have hle2 : xs.length * sz ≤ cap * sz := Nat.mul_le_mul_right _ hnc
    have hst := run_storeCells_at (P := P) g (m * sz) E (A.eval y).cells.toList 0 cur w hh (by rw [hcl, hcs]; omega) (by
      intro v hv
      exact h2.solid hu v (by simpa using hv))
    have hrun : (execOp A.eval o).run P w = .ok .skip (w.setRow g (cur.toList.take (m * sz + 0) ++ (A.eval y).cells.toList ++ cur.toList.drop (m * sz + 0 + (A.eval y).cells.toList.length)).toArray) := by
      simp only [execOp, ho, hv, Instr.storeAt, Instr.sureAddr, storeVar, Sem.run_bind, Sem.run_pure, Result.andThen_ok, hT.sizeOf]
      rw [if_neg (by rw [hszv, hl]; simp)]
      simp only [Sem.run_bind, Sem.run_pure, Result.andThen_ok, hst]
    refine ⟨fun _ _ => trivial, ?_⟩
    rw [Oper.semAt_eq _ _ _ (fun c hc => by rw [ho] at hc; cases hc), hrun]
    refine ⟨D, ρ, .und, undef, _, rfl, .refl _ _, hs.set hρ hb (.row E sz (xs.set m (e y))) ⟨by simp, ?_, hsz, vs.take (m * sz) ++ (A.eval y).cells.toList ++ vs.drop (m * sz + (A.eval y).cells.toList.length), ⟨?_, .inr ⟨g, cap, _, hc, by simp, hg0, setRow_heap w g cur _ E _ hh, by simpa using hnc, hcm, ?_, ?_⟩⟩, ?_⟩ rfl rfl rfl (by simp) (fun i hi => setRow_other w g i _ hi), .und, rfl, rfl⟩
    · intro x hx
      rcases List.mem_or_eq_of_mem_set hx with h | h
      · exact hfl x h
      · rw [h]; exact hl
    · have hvl := hro.1
      simp only [List.length_append, List.length_take, List.length_drop, hcl, hvl]
      omega
    · have hcsl : cur.toList.length = cap * sz := by simpa using hcs
      simp only [List.size_toArray, List.length_append, List.length_take, List.length_drop, hcl, hcsl]
      omega
    · have hcsl : cur.toList.length = cap * sz := by simpa using hcs
      simp only [Nat.add_zero]
      rw [← htake]
      apply List.ext_getElem?
      intro i
      rw [List.getElem?_take, List.append_assoc, List.append_assoc]
      rw [get3 _ _ _ (m * sz) sz i (by rw [List.length_take]; omega) hcl, get3 _ _ _ (m * sz) sz i (by rw [List.length_take, List.length_take]; omega) hcl, hcl, List.getElem?_take, List.getElem?_take, List.getElem?_take, List.getElem?_drop, List.getElem?_drop, List.getElem?_take]
      rcases Nat.lt_or_ge i (m * sz) with hi | hi
      · simp [hi, show i < xs.length * sz by omega]
      · rcases Nat.lt_or_ge i (m * sz + sz) with hj | hj
        · simp [show ¬ i < m * sz by omega, hj, show i < xs.length * sz by omega]
        · rw [show m * sz + sz + (i - m * sz - sz) = i by omega]
          simp [show ¬ i < m * sz by omega, show ¬ i < m * sz + sz by omega]
    · rw [flats_set xs m (e y) hfl hl hm]
      exact hrel.wr hf (by rw [hl, flats_length hfl]; exact hle)
end
end Go.QL
end

section
/- The data of this program: how many nodes and attributes; what is done with them. Plain; no program in sight. -/
set_option linter.unusedVariables false
set_option linter.unusedSimpArgs false
namespace Go.QL
open Go

mutual
/-- Nodes and attributes. -/
def Nd.sz : Nd → Nat
  | .mk _ a _ k => 1 + a.length + szl k
def szl : List Nd → Nat
  | [] => 0
  | n :: l => n.sz + szl l
end
theorem Nd.sz_eq (n : Nd) : n.sz = 1 + n.attrs.length + szl n.kids := by cases n; simp [Nd.sz, Nd.attrs, Nd.kids]
theorem szl_mem {n : Nd} : ∀ {l : List Nd}, n ∈ l → n.sz ≤ szl l
  | [], h => by cases h
  | m :: l, h => by
    simp only [szl]
    rcases List.mem_cons.1 h with rfl | h
    · omega
    · have := szl_mem h; omega
theorem szl_len : ∀ l : List Nd, l.length ≤ szl l
  | [] => Nat.le_refl _
  | n :: l => by
    have := szl_len l
    have h1 := n.sz_eq
    simp only [szl, List.length_cons]
    omega
theorem szl_append : ∀ a b : List Nd, szl (a ++ b) = szl a + szl b
  | [], b => by simp [szl]
  | n :: a, b => by simp only [List.cons_append, szl, szl_append a b]; omega
theorem Nd.ext {a b : Nd} (h1 : a.tag = b.tag) (h2 : a.attrs = b.attrs) (h3 : a.text = b.text) (h4 : a.kids = b.kids) : a = b := by
  cases a; cases b; simp only [Nd.tag, Nd.attrs, Nd.text, Nd.kids] at *; subst h1; subst h2; subst h3; subst h4; rfl
theorem Nd.eta (n : Nd) : Nd.mk n.tag n.attrs n.text n.kids = n := by cases n; rfl
mutual
def Nd.decEq : (a b : Nd) → Decidable (a = b)
  | .mk t a x k, .mk t' a' x' k' =>
    if h : t = t' ∧ a = a' ∧ x = x' then
      match ndlDec k k' with
      | .isTrue h2 => .isTrue (by obtain ⟨rfl, rfl, rfl⟩ := h; subst h2; rfl)
      | .isFalse h2 => .isFalse (fun e => h2 (by injection e))
    else .isFalse (fun e => h (by injection e with e1 e2 e3 e4; exact ⟨e1, e2, e3⟩))
def ndlDec : (a b : List Nd) → Decidable (a = b)
  | [], [] => .isTrue rfl
  | [], _ :: _ => .isFalse (fun e => by cases e)
  | _ :: _, [] => .isFalse (fun e => by cases e)
  | a :: l, b :: m =>
    match Nd.decEq a b, ndlDec l m with
    | .isTrue h1, .isTrue h2 => .isTrue (by subst h1; subst h2; rfl)
    | .isFalse h1, _ => .isFalse (fun e => h1 (by injection e))
    | _, .isFalse h2 => .isFalse (fun e => h2 (by injection e))
end
instance instNd : DecidableEq Nd := Nd.decEq
/-- An encoding that tells its values apart. -/
theorem eN_mk (t : Int) (a : List At) (x : Str) (k : List Nd) : IV.agg [.int .i64 t, eAs a, .str x, eNs k] = eN (.mk t a x k) := (eN_eq (.mk t a x k)).symm

/-! ### package value -/
def hrefAt (h : Str) : At := ⟨⟨#[104, 114, 101, 102]⟩, h⟩
theorem Wk.nd {t : Int} {A K : IV} {x : Str} {a : List At} {k : List Nd} (h1 : Wk A (eAs a)) (h2 : Wk K (eNs k)) : Wk (.agg [.int .i64 t, A, .str x, K]) (eN (.mk t a x k)) := by
  rw [← eN_mk]
  exact Wk.agg (.cons (.refl _) (.cons h1 (.cons (.refl _) (.cons h2 .nil))))
theorem Wk.nd1 {f : Bool} {t : Int} {A K : IV} {x : Str} {a : List At} {k : List Nd} (h1 : Wk A (eAs a)) (h2 : Wk K (eNs k)) : Wk (.sl f [.agg [.int .i64 t, A, .str x, K]]) (eNs [.mk t a x k]) := by
  show Wk _ (.sl false [eN (.mk t a x k)])
  rw [← eN_mk]
  exact Wk.slw rfl (.cons (.refl _) (.cons h1 (.cons (.refl _) (.cons h2 .nil))))
/-- One bit's element. -/
def wrap1 (bits : Int) (t : Int) (l : List Nd) : List Nd := if bitI .and .i64 bits (IntKind.i64.wrap (1 * 2 ^ min (t - 11).toNat IntKind.i64.bits)) = 0 then l else [.mk t [] ⟨#[]⟩ l]
def wrapN (bits : Int) (l : List Nd) : Nat → List Nd
  | 0 => l
  | i + 1 => wrap1 bits (14 - i) (wrapN bits l i)
def wrapV (bits : Int) (href : Str) (l : List Nd) : List Nd :=
  if href = ⟨#[]⟩ then wrapN bits l 4 else [.mk 10 [hrefAt href] ⟨#[]⟩ (wrapN bits l 4)]
/-! ### parts of a row -/
theorem takeWhile_split {α : Type} (p : α → Bool) : ∀ (l : List α) (c : Nat), (∀ x ∈ l.take c, p x = true) → c ≤ l.length → (∀ y, l[c]? = some y → p y = false) → l.takeWhile p = l.take c ∧ l.dropWhile p = l.drop c
  | [], c, _, hc, _ => by simp
  | x :: l, 0, _, _, h => by
    have := h x rfl
    simp [List.takeWhile, List.dropWhile, this]
  | x :: l, c + 1, ha, hc, h => by
    have hx := ha x (by simp)
    obtain ⟨h1, h2⟩ := takeWhile_split p l c (fun y hy => ha y (by simp [hy])) (by simpa using hc) (fun y hy => h y (by simpa using hy))
    simp [List.takeWhile, List.dropWhile, hx, h1, h2]
theorem dropWhile_le {α : Type} (p : α → Bool) : ∀ l : List α, (l.dropWhile p).length ≤ l.length
  | [] => by simp
  | x :: l => by
    rw [List.dropWhile_cons]
    split
    · have := dropWhile_le p l; simp only [List.length_cons]; omega
    · exact Nat.le_refl _
/-- As long parts as can be whose items are like the first. -/
def grp {α : Type} (al : α → α → Bool) : List α → List (List α)
  | [] => []
  | x :: l => (x :: l.takeWhile (al x)) :: grp al (l.dropWhile (al x))
termination_by l => l.length
decreasing_by have := dropWhile_le (al x) l; simp only [List.length_cons]; omega
/-! ### package render -/
def alLeaf (a b : Cel) : Bool := !decide (a.r = 10) && !decide (b.r = 10)
def leafV : List Cel → Nd
  | [] => .mk 0 [] ⟨#[]⟩ []
  | c :: l => if c.r = 10 then .mk 16 [] ⟨#[]⟩ [] else .mk 0 [] (strOf ((c :: l).map (·.r))) []
def leavesV (l : List Cel) : List Nd := (grp alLeaf l).map leafV
def alBit (bit : Int) (a b : Cel) : Bool := decide (bitI .and .i64 a.bits bit = bitI .and .i64 b.bits bit)
def hdBits : List Cel → Int
  | [] => 0
  | c :: _ => c.bits
def hdHref : List Cel → Str
  | [] => ⟨#[]⟩
  | c :: _ => c.href
/-- The nodes of cells, from a bit on: so many bits are left. -/
def styledV : Nat → Int → List Cel → List Nd
  | 0, _, l => leavesV l
  | n + 1, bit, l => (grp (alBit bit) l).flatMap fun p => wrapV (bitI .and .i64 (hdBits p) bit) ⟨#[]⟩ (styledV n (IntKind.i64.wrap (bit * 2 ^ min (1 : Int).toNat IntKind.i64.bits)) p)
def alHref (a b : Cel) : Bool := decide (a.href = b.href)
def rowV (l : List Cel) : List Nd := (grp alHref l).flatMap fun p => wrapV 0 (hdHref p) (styledV 4 1 p)
theorem wrap1_sz (bits t : Int) (l : List Nd) : szl (wrap1 bits t l) ≤ szl l + 1 := by
  unfold wrap1
  split
  · omega
  · simp [szl, Nd.sz]; omega
theorem wrapN_sz (bits : Int) (l : List Nd) : ∀ i, szl (wrapN bits l i) ≤ szl l + i
  | 0 => Nat.le_refl _
  | i + 1 => by
    have h1 := wrap1_sz bits (14 - i) (wrapN bits l i)
    have h2 := wrapN_sz bits l i
    simp only [wrapN]
    omega
theorem wrapV_sz (bits : Int) (href : Str) (l : List Nd) : szl (wrapV bits href l) ≤ szl l + 6 := by
  have := wrapN_sz bits l 4
  unfold wrapV
  split
  · omega
  · simp [szl, Nd.sz, hrefAt]; omega
theorem grp_bound {α : Type} (al : α → α → Bool) (f : List α → List Nd) (c : Nat) (hf : ∀ p, p ≠ [] → szl (f p) ≤ c * p.length) : ∀ l : List α, szl ((grp al l).flatMap f) ≤ c * l.length := by
  intro l
  induction l using grp.induct al with
  | case1 => simp [grp, szl]
  | case2 x l ih =>
    have h1 := hf (x :: l.takeWhile (al x)) (by simp)
    have h2 : (l.takeWhile (al x)).length + (l.dropWhile (al x)).length = l.length := by rw [← List.length_append, List.takeWhile_append_dropWhile]
    rw [grp, List.flatMap_cons, szl_append]
    simp only [List.length_cons] at h1 ⊢
    have : c * (l.length + 1) = c * ((l.takeWhile (al x)).length + 1) + c * (l.dropWhile (al x)).length := by rw [← Nat.mul_add]; congr 1; omega
    omega
theorem leafV_sz (p : List Cel) : (leafV p).sz = 1 := by
  cases p with
  | nil => rfl
  | cons c l => unfold leafV; simp only; split <;> rfl
theorem leavesV_sz (l : List Cel) : szl (leavesV l) ≤ l.length := by
  have := grp_bound alLeaf (fun p => [leafV p]) 1 (fun p hp => by
    show szl [leafV p] ≤ _
    simp only [szl, leafV_sz]
    have := List.length_pos_iff.2 hp
    omega) l
  have h2 : (grp alLeaf l).flatMap (fun p => [leafV p]) = leavesV l := by
    unfold leavesV
    induction grp alLeaf l with
    | nil => rfl
    | cons p ps ih => rw [List.flatMap_cons, ih]; rfl
  rw [h2] at this
  omega
theorem styledV_sz : ∀ (n : Nat) (bit : Int) (l : List Cel), szl (styledV n bit l) ≤ (1 + 6 * n) * l.length
  | 0, bit, l => by
    have := leavesV_sz l
    simp only [styledV]
    omega
  | n + 1, bit, l => by
    simp only [styledV]
    refine grp_bound _ _ _ (fun p hp => ?_) l
    have h1 := wrapV_sz (bitI .and .i64 (hdBits p) bit) ⟨#[]⟩ (styledV n (IntKind.i64.wrap (bit * 2 ^ min (1 : Int).toNat IntKind.i64.bits)) p)
    have h2 := styledV_sz n (IntKind.i64.wrap (bit * 2 ^ min (1 : Int).toNat IntKind.i64.bits)) p
    have h3 := List.length_pos_iff.2 hp
    have h4 : (1 + 6 * (n + 1)) * p.length = (1 + 6 * n) * p.length + 6 * p.length := by rw [← Nat.add_mul, Nat.mul_add, Nat.add_assoc]
    omega
theorem rowV_sz (l : List Cel) : szl (rowV l) ≤ 31 * l.length := by
  unfold rowV
  refine grp_bound _ _ _ (fun p hp => ?_) l
  have h1 := wrapV_sz 0 (hdHref p) (styledV 4 1 p)
  have h2 := styledV_sz 4 1 p
  have h3 := List.length_pos_iff.2 hp
  omega
/-! ### the document's answer (ref19) -/
def sharedR : List Nd → List Nd → Nat
  | a :: l, b :: m => if a = b then sharedR l m + 1 else 0
  | _, _ => 0
theorem sharedR_at (a b : List Nd) (i : Nat) (h1 : i < a.length) (h2 : i < b.length) (h : a[i] = b[i]) : sharedR (a.drop i) (b.drop i) = sharedR (a.drop (i + 1)) (b.drop (i + 1)) + 1 := by
  rw [List.drop_eq_getElem_cons h1, List.drop_eq_getElem_cons h2, sharedR, if_pos h]
theorem sharedR_ne (a b : List Nd) (i : Nat) (h : ∀ (h1 : i < a.length) (h2 : i < b.length), ¬ a[i] = b[i]) : sharedR (a.drop i) (b.drop i) = 0 := by
  rcases Nat.lt_or_ge i a.length with h1 | h1
  · rcases Nat.lt_or_ge i b.length with h2 | h2
    · rw [List.drop_eq_getElem_cons h1, List.drop_eq_getElem_cons h2, sharedR, if_neg (h h1 h2)]
    · rw [List.drop_of_length_le h2]
      cases a.drop i <;> rfl
  · rw [List.drop_of_length_le h1]
    rfl
def bitOn (bits i : Int) : Bool := decide (bitI .and .i64 (bits.fdiv (2 ^ min i.toNat IntKind.i64.bits)) 1 = 1)
def wrapsN (c : Cel) : Nat → List Nd
  | 0 => if c.href = ⟨#[]⟩ then [] else [.mk 10 [hrefAt c.href] ⟨#[]⟩ []]
  | n + 1 => wrapsN c n ++ (if bitOn c.bits n then [.mk (11 + n) [] ⟨#[]⟩ []] else [])
def wrapsR (c : Cel) : List Nd := wrapsN c 4
theorem wrapsN_len (c : Cel) : ∀ n, (wrapsN c n).length ≤ n + 1
  | 0 => by unfold wrapsN; split <;> simp
  | n + 1 => by
    have := wrapsN_len c n
    simp only [wrapsN, List.length_append]
    split <;> simp <;> omega
mutual
/-- Bytes of texts. -/
def Nd.tb : Nd → Nat
  | .mk _ _ x k => x.size + tbl k
def tbl : List Nd → Nat
  | [] => 0
  | n :: l => n.tb + tbl l
end
theorem Nd.tb_eq (n : Nd) : n.tb = n.text.size + tbl n.kids := by cases n; simp [Nd.tb, Nd.text, Nd.kids]
theorem tbl_append : ∀ a b : List Nd, tbl (a ++ b) = tbl a + tbl b
  | [], b => by simp [tbl]
  | n :: a, b => by simp only [List.cons_append, tbl, tbl_append a b]; omega
/-- The right spine is so deep, at least. -/
def Deep : Nat → List Nd → Prop
  | 0, l => l ≠ []
  | d + 1, l => ∃ init last, l = init ++ [last] ∧ Deep d last.kids
theorem Deep.snoc : ∀ {d : Nat} {l : List Nd}, Deep d l → ∃ init last, l = init ++ [last]
  | 0, l, h => ⟨l.dropLast, l.getLast h, (List.dropLast_concat_getLast h).symm⟩
  | d + 1, l, h => let ⟨i, x, e, _⟩ := h; ⟨i, x, e⟩
def growR : Nat → List Nd → Int → List Nd
  | d, l, c => match l.getLast? with
    | none => []
    | some x => l.dropLast ++ [match d with
      | 0 => .mk x.tag x.attrs (x.text ++ strOf [c]) x.kids
      | d + 1 => .mk x.tag x.attrs x.text (growR d x.kids c)]
theorem growR_0 (i : List Nd) (x : Nd) (c : Int) : growR 0 (i ++ [x]) c = i ++ [.mk x.tag x.attrs (x.text ++ strOf [c]) x.kids] := by simp [growR]
theorem growR_S (d : Nat) (i : List Nd) (x : Nd) (c : Int) : growR (d + 1) (i ++ [x]) c = i ++ [.mk x.tag x.attrs x.text (growR d x.kids c)] := by rw [growR]; simp
end Go.QL
end

section
/- QL, part s: short steps: what is closed by one and the same run of rules is a default here. Plain; no program in sight. -/
set_option linter.unusedVariables false
set_option linter.unusedSimpArgs false
namespace Go.QL
open Go Go.RowKit

theorem x_nf.{u} {α : Sort u} {x y : α} (h : x = y := by (try simp only [nf, Nat.reduceAdd, List.length_map, reduceIte, Bool.false_eq_true]) <;> rfl) : x = y := h
theorem x_fz.{u} {α : Sort u} {x y : α} (h : x = y := by simp only [List.map_cons, List.map_nil, fz, fz1, reduceIte, Nat.reduceEqDiff, Nat.succ_ne_zero, nf] <;> rfl) : x = y := h
theorem x_om {p : Prop} (h : p := by (try simp only [List.length_map, List.length_cons, List.length_nil, List.length_append, List.length_take, List.length_drop, List.length_replicate]) <;> omega) : p := h
theorem x_wks {xs ys : List IV} (h : Wks xs ys := by repeat (first | exact Wks.nil | refine Wks.cons (by with_reducible exact Wk.refl _) ?_ | refine Wks.cons (by with_reducible exact Wk.junk _) ?_ | refine Wks.cons (by with_reducible exact Wk.nils _) ?_ | refine Wks.cons (Wk.nils _) ?_ | refine Wks.cons (Wk.sl _ _) ?_ | refine Wks.cons (Wk.refl _) ?_ | refine Wks.cons (by assumption) ?_)) : Wks xs ys := h
theorem x_dat2 {xs : List IV} (h : ∀ x ∈ xs, Dat x := by repeat (first | exact dat_nil | refine dat_cons (by first | exact Dat.int _ _ | exact Dat.bool _ | exact Dat.str _ | exact Dat.sl (dat_map dat_eC _) | exact Dat.sl (dat_map dat_eL _) | exact Dat.sl (dat_map dat_eI _) | exact Dat.sl (dat_map dat_eN _) | exact dat_eI _ | exact dat_eR _ | exact Dat.fn dat_nil dat_nil | exact Dat.fn dat_nil (dat_cons (Dat.dptr (dat_cons (Dat.int _ _) dat_nil)) dat_nil) | assumption) ?_)) : ∀ x ∈ xs, Dat x := h
theorem x_dats {xs : List IV} (h : ∀ x ∈ xs, Dat x := by repeat (first | exact dat_nil | refine dat_cons (by first | exact dat_eN _ | exact dat_eNs _ | exact dat_eC _ | exact dat_eCs _ | exact dat_eL _ | exact dat_eLs _ | exact dat_eIs _ | exact dat_eAs _ | exact dat_eRs _ | exact dat_ePt _ | exact dat_eP _ | exact dat_eA _ | exact Dat.int _ _ | exact Dat.bool _ | exact Dat.str _ | exact Dat.nils | exact Dat.sl (dat_map dat_eN _) | exact Dat.sl (dat_map dat_eC _) | exact Dat.sl (dat_map dat_eI _) | exact Dat.sl (dat_map dat_eA _) | exact Dat.sl (dat_map dat_eL _) | exact Dat.sl (dat_map dat_eR _) | exact Dat.sl (dat_map dat_eIs _) | exact Dat.sl (dat_map dat_ePt _) | assumption | exact Dat.sl x_dat2 | exact Dat.fn x_dat2 x_dat2 | exact Dat.dptr x_dat2) ?_)) : ∀ x ∈ xs, Dat x := h
theorem x_dat {x : IV} (h : Dat x := by first | exact dat_eN _ | exact dat_eNs _ | exact dat_eC _ | exact dat_eCs _ | exact dat_eL _ | exact dat_eLs _ | exact dat_eIs _ | exact dat_eAs _ | exact dat_eA _ | exact dat_eRs _ | exact dat_eP _ | exact dat_ePt _ | exact Dat.int _ _ | exact Dat.bool _ | exact Dat.str _ | exact Dat.nils | exact Dat.nilp | exact Dat.sl x_dats | exact Dat.sl (dat_map dat_eC _) | exact Dat.sl (dat_map dat_eN _) | exact Dat.sl (dat_map dat_eIs _) | exact Dat.sl (dat_map dat_ePt _) | exact Dat.tup x_dats | assumption) : Dat x := h
theorem x_lts {n : Nat} {xs : List IV} (h : ∀ x ∈ xs, Lt n x := by repeat (first | exact lts_nil | refine lts_cons (by first | exact Lt.junk | exact Lt.und | exact Lt.nils | exact Lt.nilp | exact Lt.nilf | exact Lt.int _ _ | exact Lt.bool _ | exact Lt.str _ | exact Lt.row _ _ (Nat.le_of_ble_eq_true rfl) | exact Lt.ptr _ _ (Nat.le_of_ble_eq_true rfl) | exact Lt.yf _ (Nat.le_of_ble_eq_true rfl) | exact Dat.sl (dat_map dat_eN _) _ | exact Dat.sl (dat_map dat_eC _) _ | exact Dat.sl (dat_map dat_eI _) _ | exact Dat.sl (dat_map dat_eA _) _ | exact Dat.sl (dat_map dat_eL _) _ | exact Dat.sl (dat_map dat_eR _) _ | exact Dat.sl (dat_map dat_eIs _) _ | exact Dat.sl (dat_map dat_ePt _) _ | exact Dat.dptr x_dats _ | exact Lt.eptr _ _ _ x_le | exact Lt.rsub _ _ _ _ x_le | exact Dat.agg x_dats _ | exact Dat.tup x_dats _ | exact dat_ePt _ _ | exact dat_eP _ _ | exact dat_eA _ _ | exact dat_eN _ _ | exact dat_eC _ _ | exact dat_eL _ _ | exact dat_eNs _ _ | exact dat_eCs _ _ | exact dat_eIs _ _ | exact dat_eLs _ _ | exact dat_eAs _ _ | assumption | exact Dat.sl x_dats _ | exact (by assumption : Dat _) _) ?_)) : ∀ x ∈ xs, Lt n x := h
theorem x_olts {n : Nat} {σ : List IObj} (h : OLts n σ := by repeat (first | exact olts_nil | refine olts_cons (by first | with_reducible exact olt_gone | with_reducible exact olt_obj | ((with_reducible apply olt_row); first | exact dat_nil | exact dat_map dat_eN _ | exact dat_map dat_eC _ | exact dat_map dat_eI _ | exact dat_map dat_eA _ | exact dat_map dat_eL _ | exact dat_map dat_eR _ | exact dat_map dat_ePt _ | exact dat_map dat_eP _ | exact dat_map dat_eIs _ | assumption | exact x_dats) | ((with_reducible apply olt_box); exact x_lts) | ((with_reducible apply olt_loop); exact x_lts; exact x_le) | assumption) ?_)) : OLts n σ := h
theorem x_goods {sz : Nat} {xs : List IV} (h : Good sz xs := by first | exact good_eN _ | exact good_eA _ | exact good_eC _ | exact good_eL _ | exact good_eI _ | exact good_eR _ | exact good_eIs _ | exact good_ePt _ | exact good_eP _ | (repeat (first | exact good_nil | refine good_cons (by first | rfl | exact eN_solid _) (by first | rfl | exact eN_flen _) ?_))) : Good sz xs := h
theorem x_le {m n : Nat} (h : m ≤ n := by exact Nat.le_of_ble_eq_true rfl) : m ≤ n := h
section
variable {P : Program} {r : RN} {Q : IPost} {a a' : IA} {σ σ' σ1 : List IObj} {ops : Array Oper} {o : Oper} {rest l : List Oper} {v : IV} {e : Val2} {n : Nat} {L : Array Bool} {K : IA → Prop}
theorem kd_load {T : TypeId} {x : Operand} (ho : o.op = .load T x) (h : OpQ P r o e σ v σ') : OpQ P r o e σ v σ' := h
theorem kd_fieldAddr {T f : Nat} {x : Operand} (ho : o.op = .fieldAddr T x f) (h : OpQ P r o e σ v σ') : OpQ P r o e σ v σ' := h
theorem kd_store {T : TypeId} {x y : Operand} (ho : o.op = .store T x y) (h : OpQ P r o e σ v σ') : OpQ P r o e σ v σ' := h
theorem kd_indexAddr {T : TypeId} {x i : Operand} (ho : o.op = .indexAddr T x i) (h : OpQ P r o e σ v σ') : OpQ P r o e σ v σ' := h
theorem kd_append {s : Array Operand} {T : Array TypeId} (ho : o.op = .call { callee := .builtin .append, args := s, argTypes := T }) (h : OpQ P r o e σ v σ') : OpQ P r o e σ v σ' := h
theorem kd_lit {T : TypeId} {n : Nat} {p : Array (Nat × Operand)} (ho : o.op = .buildSlice T n p) (h : OpQ P r o e σ v σ') : OpQ P r o e σ v σ' := h
theorem kd_build {T : TypeId} {p : Array (Nat × Operand)} (ho : o.op = .build T p) (h : OpQ P r o e σ v σ') : OpQ P r o e σ v σ' := h
theorem kd_alloc {T : TypeId} (ho : o.op = .alloc T) (h : OpQ P r o e σ v σ') : OpQ P r o e σ v σ' := h
theorem kd_box {T : TypeId} {x : Operand} (ho : o.op = .box T x) (h : OpQ P r o e σ v σ') : OpQ P r o e σ v σ' := h
theorem kd_len {s : Array Operand} {T : Array TypeId} (ho : o.op = .call { callee := .builtin .len, args := s, argTypes := T }) (h : OpQ P r o e σ v σ') : OpQ P r o e σ v σ' := h
theorem kd_lss {T S : TypeId} {x y : Operand} (ho : o.op = .binOp .lss T x y S) (h : OpQ P r o e σ v σ') : OpQ P r o e σ v σ' := h
theorem kd_eql {T S : TypeId} {x y : Operand} (ho : o.op = .binOp .eql T x y S) (h : OpQ P r o e σ v σ') : OpQ P r o e σ v σ' := h
theorem kd_neq {T S : TypeId} {x y : Operand} (ho : o.op = .binOp .neq T x y S) (h : OpQ P r o e σ v σ') : OpQ P r o e σ v σ' := h
theorem kd_add {T S : TypeId} {x y : Operand} (ho : o.op = .binOp .add T x y S) (h : OpQ P r o e σ v σ') : OpQ P r o e σ v σ' := h
theorem kd_sub {T S : TypeId} {x y : Operand} (ho : o.op = .binOp .sub T x y S) (h : OpQ P r o e σ v σ') : OpQ P r o e σ v σ' := h
theorem kd_gtr {T S : TypeId} {x y : Operand} (ho : o.op = .binOp .gtr T x y S) (h : OpQ P r o e σ v σ') : OpQ P r o e σ v σ' := h
theorem kd_leq {T S : TypeId} {x y : Operand} (ho : o.op = .binOp .leq T x y S) (h : OpQ P r o e σ v σ') : OpQ P r o e σ v σ' := h
theorem kd_geq {T S : TypeId} {x y : Operand} (ho : o.op = .binOp .geq T x y S) (h : OpQ P r o e σ v σ') : OpQ P r o e σ v σ' := h
theorem kd_not {T : TypeId} {x : Operand} (ho : o.op = .unOp .not T x) (h : OpQ P r o e σ v σ') : OpQ P r o e σ v σ' := h
theorem kd_pick {c x y : Operand} (ho : o.op = .pick c x y) (h : OpQ P r o e σ v σ') : OpQ P r o e σ v σ' := h
theorem kd_and {T S : TypeId} {x y : Operand} (ho : o.op = .binOp .and T x y S) (h : OpQ P r o e σ v σ') : OpQ P r o e σ v σ' := h
theorem kd_or {T S : TypeId} {x y : Operand} (ho : o.op = .binOp .or T x y S) (h : OpQ P r o e σ v σ') : OpQ P r o e σ v σ' := h
theorem kd_andNot {T S : TypeId} {x y : Operand} (ho : o.op = .binOp .andNot T x y S) (h : OpQ P r o e σ v σ') : OpQ P r o e σ v σ' := h
theorem kd_shl {T S : TypeId} {x y : Operand} (ho : o.op = .binOp .shl T x y S) (h : OpQ P r o e σ v σ') : OpQ P r o e σ v σ' := h
theorem kd_shr {T S : TypeId} {x y : Operand} (ho : o.op = .binOp .shr T x y S) (h : OpQ P r o e σ v σ') : OpQ P r o e σ v σ' := h
theorem kd_mul {T S : TypeId} {x y : Operand} (ho : o.op = .binOp .mul T x y S) (h : OpQ P r o e σ v σ') : OpQ P r o e σ v σ' := h
theorem kd_quo {T S : TypeId} {x y : Operand} (ho : o.op = .binOp .quo T x y S) (h : OpQ P r o e σ v σ') : OpQ P r o e σ v σ' := h
theorem kd_rem {T S : TypeId} {x y : Operand} (ho : o.op = .binOp .rem T x y S) (h : OpQ P r o e σ v σ') : OpQ P r o e σ v σ' := h
theorem kd_extract {x : Operand} {i : Nat} (ho : o.op = .extract x i) (h : OpQ P r o e σ v σ') : OpQ P r o e σ v σ' := h
theorem kd_makeFunc {f : Fn} {a b : Array Operand} (ho : o.op = .makeFunc f a b) (h : OpQ P r o e σ v σ') : OpQ P r o e σ v σ' := h
theorem kd_field {T f : Nat} {x : Operand} (ho : o.op = .field T x f) (h : OpQ P r o e σ v σ') : OpQ P r o e σ v σ' := h
theorem kd_convert {S T : TypeId} {x : Operand} (ho : o.op = .convert S T x) (h : OpQ P r o e σ v σ') : OpQ P r o e σ v σ' := h
theorem kd_nilCheck {x : Operand} (ho : o.op = .nilCheck x) (h : OpQ P r o e σ v σ') : OpQ P r o e σ v σ' := h
theorem kd_index {T : TypeId} {x i : Operand} (ho : o.op = .index T x i) (h : OpQ P r o e σ v σ') : OpQ P r o e σ v σ' := h
theorem kd_slice {T : TypeId} {x : Operand} {l h m : Option Operand} (ho : o.op = .slice T x l h m) (h : OpQ P r o e σ v σ') : OpQ P r o e σ v σ' := h
theorem kd_range {T : TypeId} {x : Operand} (ho : o.op = .range T x) (h : OpQ P r o e σ v σ') : OpQ P r o e σ v σ' := h
theorem kd_next {x : Operand} {b : Bool} (ho : o.op = .next x b) (h : OpQ P r o e σ v σ') : OpQ P r o e σ v σ' := h
theorem op_addu {T yt : TypeId} {x y : Operand} {k : IntKind} {a b : Int} (hk : (k == IntKind.i64) = false) (ho : o.op = .binOp .add T x y yt) (hx : e x = .int k a) (hy : e y = .int k b) : OpQ P r o e σ (.int k (k.wrap (a + b))) σ := op_add ho hx hy
theorem op_subu {T yt : TypeId} {x y : Operand} {k : IntKind} {a b : Int} (hk : (k == IntKind.i64) = false) (ho : o.op = .binOp .sub T x y yt) (hx : e x = .int k a) (hy : e y = .int k b) : OpQ P r o e σ (.int k (k.wrap (a - b))) σ := op_sub ho hx hy
theorem op_mulu {T yt : TypeId} {x y : Operand} {k : IntKind} {a b : Int} (hk : (k == IntKind.i64) = false) (ho : o.op = .binOp .mul T x y yt) (hx : e x = .int k a) (hy : e y = .int k b) : OpQ P r o e σ (.int k (k.wrap (a * b))) σ := op_mul ho hx hy
theorem x_ops (h : OpQ P r o e σ v σ' := by first | exact op_move rfl | exact op_assign rfl | (apply kd_load; exact rfl; first | exact op_load1 TyC.h rfl rfl rfl rfl | exact op_loadN TyC.h rfl rfl rfl x_le | exact op_loadd1 TyC.h rfl rfl rfl | exact op_loaddN TyC.h rfl rfl x_le | exact op_loadEN TyC.h rfl rfl rfl x_om (by first | assumption | rfl) | exact op_loadE1 TyC.h rfl rfl rfl x_om (by first | assumption | rfl) rfl x_le) | (apply kd_fieldAddr; exact rfl; first | exact op_fieldAddr FldC.h rfl rfl rfl | exact op_fieldAddrd FldC.h rfl rfl | exact op_fieldAddrE FldC.h rfl rfl rfl x_om) | (apply kd_store; exact rfl; first | exact op_store TyC.h rfl rfl rfl rfl (by first | rfl | exact eN_solid _) (by first | rfl | exact eN_flen _) x_le | exact op_storeE TyC.h rfl rfl rfl rfl x_om x_om (by first | rfl | exact eN_solid _) (by first | rfl | exact eN_flen _)) | (apply kd_indexAddr; exact rfl; first | exact oi_indexAddr rfl rfl rfl (by omega) (by first | assumption | rfl) x_goods | exact op_indexAddrR SlC.h TyC.h rfl rfl rfl (by omega) rfl x_om x_om) | (apply kd_append; exact rfl; first | exact oi_append rfl rfl rfl rfl rfl x_om x_goods x_om x_om | exact oi_append0 rfl rfl (.inl rfl) rfl x_goods x_om x_om | exact oi_append0 rfl rfl (.inr rfl) rfl x_goods x_om x_om) | (apply kd_lit; exact rfl; exact oi_lit rfl rfl x_nf rfl rfl x_goods) | (apply kd_build; exact rfl; exact oi_build rfl rfl) | (apply kd_alloc; exact rfl; exact oi_alloc rfl) | (apply kd_box; exact rfl; exact op_box rfl (by first | rfl | exact eN_solid _)) | (apply kd_len; exact rfl; first | exact op_len SlC.h rfl rfl | exact op_lenstr StrC.h rfl rfl) | (apply kd_lss; exact rfl; exact op_lss rfl rfl rfl) | (apply kd_eql; exact rfl; first | exact op_eql rfl rfl rfl | exact op_eqls rfl rfl rfl | exact op_eqlb BoolC.h rfl rfl rfl) | (apply kd_neq; exact rfl; first | exact op_neq rfl rfl rfl | exact op_neqs rfl rfl rfl | exact op_neqb BoolC.h rfl rfl rfl) | (apply kd_add; exact rfl; first | exact op_add' rfl rfl rfl (by omega) (by omega) | exact op_addu rfl rfl rfl rfl | exact op_cat rfl rfl rfl (by omega)) | (apply kd_sub; exact rfl; first | exact op_sub' rfl rfl rfl (by omega) (by omega) | exact op_subu rfl rfl rfl rfl) | (apply kd_gtr; exact rfl; exact op_gtr rfl rfl rfl) | (apply kd_leq; exact rfl; exact op_leq rfl rfl rfl) | (apply kd_geq; exact rfl; exact op_geq rfl rfl rfl) | (apply kd_not; exact rfl; exact op_not rfl rfl) | (apply kd_pick; exact rfl; exact op_pick rfl rfl) | (apply kd_and; exact rfl; exact op_and rfl rfl rfl) | (apply kd_or; exact rfl; exact op_or rfl rfl rfl) | (apply kd_andNot; exact rfl; exact op_andNot rfl rfl rfl) | (apply kd_shl; exact rfl; exact op_shl rfl rfl rfl (by omega)) | (apply kd_shr; exact rfl; exact op_shr rfl rfl rfl (by omega)) | (apply kd_mul; exact rfl; first | exact op_mul' rfl rfl rfl (by omega) (by omega) | exact op_mulu rfl rfl rfl rfl) | (apply kd_quo; exact rfl; exact op_quo rfl rfl rfl (by omega)) | (apply kd_rem; exact rfl; exact op_rem rfl rfl rfl (by omega)) | (apply kd_extract; exact rfl; exact op_extract rfl rfl rfl) | (apply kd_makeFunc; exact rfl; exact op_makeFunc rfl) | (apply kd_field; exact rfl; first | exact op_field1 FldVC.h rfl rfl rfl | exact op_fieldN FldVC.h rfl rfl) | (apply kd_convert; exact rfl; first | exact op_convint IntC.h IntC.h rfl rfl | exact op_convstr StrC.h StrC.h rfl rfl | exact op_strOf SlC.h StrC.h IntC.h rfl rfl | exact op_runes StrC.h SlC.h IntC.h rfl rfl (by assumption)) | (apply kd_nilCheck; exact rfl; first | exact op_nilCheckp rfl rfl rfl | exact op_nilCheckd rfl rfl) | (apply kd_index; exact rfl; exact op_index StrC.h rfl rfl rfl (by omega) (by omega)) | (apply kd_slice; exact rfl; first | exact op_slice SlC.h TyC.h rfl rfl rfl rfl (by omega) (by omega) x_om x_goods | exact op_slicel SlC.h TyC.h rfl rfl rfl (by omega) x_om x_goods | exact op_sliceh SlC.h TyC.h rfl rfl rfl (by omega) x_om x_goods) | (apply kd_range; exact rfl; exact op_rangeStr StrC.h rfl rfl) | (apply kd_next; exact rfl; exact op_nextStr rfl rfl rfl)) : OpQ P r o e σ v σ' := h
theorem x_opsq (h : OpQ P r o e σ v σ := by first | exact op_move rfl | exact op_assign rfl | (apply kd_load; exact rfl; first | exact op_load1 TyC.h rfl rfl rfl rfl | exact op_loadN TyC.h rfl rfl rfl x_le | exact op_loadd1 TyC.h rfl rfl rfl | exact op_loaddN TyC.h rfl rfl x_le | exact op_loadEN TyC.h rfl rfl rfl x_om (by first | assumption | rfl) | exact op_loadE1 TyC.h rfl rfl rfl x_om (by first | assumption | rfl) rfl x_le) | (apply kd_fieldAddr; exact rfl; first | exact op_fieldAddr FldC.h rfl rfl rfl | exact op_fieldAddrd FldC.h rfl rfl | exact op_fieldAddrE FldC.h rfl rfl rfl x_om) | (apply kd_indexAddr; exact rfl; first | exact oi_indexAddr rfl rfl rfl (by omega) (by first | assumption | rfl) x_goods | exact op_indexAddrR SlC.h TyC.h rfl rfl rfl (by omega) rfl x_om x_om) | (apply kd_lit; exact rfl; exact oi_lit rfl rfl x_nf rfl rfl x_goods) | (apply kd_build; exact rfl; exact oi_build rfl rfl) | (apply kd_len; exact rfl; first | exact op_len SlC.h rfl rfl | exact op_lenstr StrC.h rfl rfl) | (apply kd_lss; exact rfl; exact op_lss rfl rfl rfl) | (apply kd_eql; exact rfl; first | exact op_eql rfl rfl rfl | exact op_eqls rfl rfl rfl | exact op_eqlb BoolC.h rfl rfl rfl) | (apply kd_neq; exact rfl; first | exact op_neq rfl rfl rfl | exact op_neqs rfl rfl rfl | exact op_neqb BoolC.h rfl rfl rfl) | (apply kd_add; exact rfl; first | exact op_add' rfl rfl rfl (by omega) (by omega) | exact op_addu rfl rfl rfl rfl | exact op_cat rfl rfl rfl (by omega)) | (apply kd_sub; exact rfl; first | exact op_sub' rfl rfl rfl (by omega) (by omega) | exact op_subu rfl rfl rfl rfl) | (apply kd_gtr; exact rfl; exact op_gtr rfl rfl rfl) | (apply kd_leq; exact rfl; exact op_leq rfl rfl rfl) | (apply kd_geq; exact rfl; exact op_geq rfl rfl rfl) | (apply kd_not; exact rfl; exact op_not rfl rfl) | (apply kd_pick; exact rfl; exact op_pick rfl rfl) | (apply kd_and; exact rfl; exact op_and rfl rfl rfl) | (apply kd_or; exact rfl; exact op_or rfl rfl rfl) | (apply kd_andNot; exact rfl; exact op_andNot rfl rfl rfl) | (apply kd_shl; exact rfl; exact op_shl rfl rfl rfl (by omega)) | (apply kd_shr; exact rfl; exact op_shr rfl rfl rfl (by omega)) | (apply kd_mul; exact rfl; first | exact op_mul' rfl rfl rfl (by omega) (by omega) | exact op_mulu rfl rfl rfl rfl) | (apply kd_quo; exact rfl; exact op_quo rfl rfl rfl (by omega)) | (apply kd_rem; exact rfl; exact op_rem rfl rfl rfl (by omega)) | (apply kd_extract; exact rfl; exact op_extract rfl rfl rfl) | (apply kd_makeFunc; exact rfl; exact op_makeFunc rfl) | (apply kd_field; exact rfl; first | exact op_field1 FldVC.h rfl rfl rfl | exact op_fieldN FldVC.h rfl rfl) | (apply kd_convert; exact rfl; first | exact op_convint IntC.h IntC.h rfl rfl | exact op_convstr StrC.h StrC.h rfl rfl | exact op_strOf SlC.h StrC.h IntC.h rfl rfl | exact op_runes StrC.h SlC.h IntC.h rfl rfl (by assumption)) | (apply kd_nilCheck; exact rfl; first | exact op_nilCheckp rfl rfl rfl | exact op_nilCheckd rfl rfl) | (apply kd_index; exact rfl; exact op_index StrC.h rfl rfl rfl (by omega) (by omega)) | (apply kd_slice; exact rfl; first | exact op_slice SlC.h TyC.h rfl rfl rfl rfl (by omega) (by omega) x_om x_goods | exact op_slicel SlC.h TyC.h rfl rfl rfl (by omega) x_om x_goods | exact op_sliceh SlC.h TyC.h rfl rfl rfl (by omega) x_om x_goods)) : OpQ P r o e σ v σ := h
/-- One operation. -/
theorem x_op (k : IL P r ops Q rest a' σ') (hg : o.guard = none := by rfl) (h : OpQ P r o (ev a) σ v σ1 := by exact x_ops) (ha : a.put o.dst v = a' := by exact x_nf) (hs : σ1 = σ' := by exact x_nf) : IL P r ops Q (o :: rest) a σ := il_dn hg h ha hs k
theorem y_op {j : Nat} {b : Bool} (k : IL P r ops Q rest a' σ') (hg : o.guard = some (j, b) := by rfl) (hb : gv ops a j = .bool b := by rfl) (h : OpQ P r o (ev a) σ v σ1 := by exact x_ops) (ha : a.put o.dst v = a' := by exact x_nf) (hs : σ1 = σ' := by exact x_nf) : IL P r ops Q (o :: rest) a σ := il_yn hg hb h ha hs k
theorem n_op {j : Nat} {b : Bool} (k : IL P r ops Q rest a' σ) (hg : o.guard = some (j, b) := by rfl) (hb : gv ops a j = .bool (!b) ∨ gv ops a j = .und := by first | exact .inl rfl | exact .inr rfl) (ha : a.put o.dst .und = a' := by exact x_nf) : IL P r ops Q (o :: rest) a σ := il_nn hg hb ha k
/-- One operation of the quiet beginning of a region that draws. -/
theorem q_op (k : IQ P r l σ K rest a') (hg : o.guard = none := by rfl) (h : OpQ P r o (ev a) σ v σ := by exact x_opsq) (ha : a.put o.dst v = a' := by exact x_nf) : IQ P r l σ K (o :: rest) a := iq_dn hg h ha k
theorem qy_op {j : Nat} {b : Bool} (k : IQ P r l σ K rest a') (hg : o.guard = some (j, b) := by rfl) (hb : gv l.toArray a j = .bool b := by rfl) (h : OpQ P r o (ev a) σ v σ := by exact x_opsq) (ha : a.put o.dst v = a' := by exact x_nf) : IQ P r l σ K (o :: rest) a := iq_yn hg hb h ha k
theorem qn_op {j : Nat} {b : Bool} (k : IQ P r l σ K rest a') (hg : o.guard = some (j, b) := by rfl) (hb : gv l.toArray a j = .bool (!b) ∨ gv l.toArray a j = .und := by first | exact .inl rfl | exact .inr rfl) (ha : a.put o.dst .und = a' := by exact x_nf) : IQ P r l σ K (o :: rest) a := iq_nn hg hb ha k
theorem x_at {i : Nat} {o : Oper} {l : List Oper} (h : l.toArray[i]? = some o := by simp only [List.getElem?_toArray, List.getElem?_cons_succ, List.getElem?_cons_zero] <;> rfl) : l.toArray[i]? = some o := h
/-- One operation of the rest. -/
theorem d_op (i : Nat) (k : IGm P r l.toArray Q n (L.setIfInBounds i true) a' σ') (hr : Region.ready .any l.toArray L = [i] := by kernel_rfl) (ho : l.toArray[i]? = some o := by exact x_at) (hg : o.guard = none := by rfl) (h : OpQ P r o (ev a) σ v σ1 := by exact x_ops) (ha : a.put o.dst v = a' := by exact x_nf) (hs : σ1 = σ' := by exact x_nf) : IGm P r l.toArray Q (n + 1) L a σ := ig_one i hr ho hg h ha hs k
theorem g_op {i : Nat} (k : IGm P r l.toArray Q n (L.setIfInBounds i true) a' σ') (ho : l.toArray[i]? = some o := by exact x_at) (hg : o.guard = none := by rfl) (h : OpQ P r o (ev a) σ v σ1 := by exact x_ops) (ha : a.put o.dst v = a' := by exact x_nf) (hs : σ1 = σ' := by exact x_nf) : IGi P r l.toArray Q n L a σ i := igi_dn ho hg h ha hs k
theorem d_done (h : Q .normal a σ) (hr : Region.ready .any ops L = [] := by kernel_rfl) : IGm P r ops Q n L a σ := ig_done hr h
/-- A call that answers one value. -/
theorem x_cv {f : FuncId} {g : Operand} {args : Array Operand} {tys : Array TypeId} {fs cs asx asx' : List IV} {u : IV} (hc : ICalls P f asx [] (fun u' _ => u' = u)) (k : IL P r ops Q rest a' σ) [hF : FunC P f] (hg : o.guard = none := by rfl) (ho : o.op = .call { callee := .value g, args := args, argTypes := tys } := by rfl)
    (he : ev a g = .fn (.func f) fs cs := by rfl) (has : fs ++ args.toList.map (ev a) ++ cs = asx' := by exact x_nf) (hw : Wks asx' asx := by exact x_wks) (hd : ∀ x ∈ asx, Dat x := by exact x_dats) (hu : Dat u := by exact x_dat) (ha : a.put o.dst u = a' := by exact x_nf) : IL P r ops Q (o :: rest) a σ := il_callv hg ho he has ((hc.frame1 hd hu σ).wks hw) ha k
theorem y_cv {j : Nat} {b : Bool} {f : FuncId} {g : Operand} {args : Array Operand} {tys : Array TypeId} {fs cs asx asx' : List IV} {u : IV} (hc : ICalls P f asx [] (fun u' _ => u' = u)) (k : IL P r ops Q rest a' σ) [hF : FunC P f] (hg : o.guard = some (j, b) := by rfl) (hb : gv ops a j = .bool b := by rfl) (ho : o.op = .call { callee := .value g, args := args, argTypes := tys } := by rfl)
    (he : ev a g = .fn (.func f) fs cs := by rfl) (has : fs ++ args.toList.map (ev a) ++ cs = asx' := by exact x_nf) (hw : Wks asx' asx := by exact x_wks) (hd : ∀ x ∈ asx, Dat x := by exact x_dats) (hu : Dat u := by exact x_dat) (ha : a.put o.dst u = a' := by exact x_nf) : IL P r ops Q (o :: rest) a σ := il_ycallv hg hb ho he has ((hc.frame1 hd hu σ).wks hw) ha k
theorem q_cv {f : FuncId} {g : Operand} {args : Array Operand} {tys : Array TypeId} {fs cs asx asx' : List IV} {u : IV} (hc : ICalls P f asx [] (fun u' _ => u' = u)) (k : IQ P r l σ K rest a') [hF : FunC P f] (hg : o.guard = none := by rfl) (ho : o.op = .call { callee := .value g, args := args, argTypes := tys } := by rfl)
    (he : ev a g = .fn (.func f) fs cs := by rfl) (has : fs ++ args.toList.map (ev a) ++ cs = asx' := by exact x_nf) (hw : Wks asx' asx := by exact x_wks) (hd : ∀ x ∈ asx, Dat x := by exact x_dats) (hu : Dat u := by exact x_dat) (ha : a.put o.dst u = a' := by exact x_nf) : IQ P r l σ K (o :: rest) a := iq_callv hg ho he has ((hc.frame1 hd hu σ).wks hw) ha k
theorem qy_cv {j : Nat} {b : Bool} {f : FuncId} {g : Operand} {args : Array Operand} {tys : Array TypeId} {fs cs asx asx' : List IV} {u : IV} (hc : ICalls P f asx [] (fun u' _ => u' = u)) (k : IQ P r l σ K rest a') [hF : FunC P f] (hg : o.guard = some (j, b) := by rfl) (hb : gv l.toArray a j = .bool b := by rfl) (ho : o.op = .call { callee := .value g, args := args, argTypes := tys } := by rfl)
    (he : ev a g = .fn (.func f) fs cs := by rfl) (has : fs ++ args.toList.map (ev a) ++ cs = asx' := by exact x_nf) (hw : Wks asx' asx := by exact x_wks) (hd : ∀ x ∈ asx, Dat x := by exact x_dats) (hu : Dat u := by exact x_dat) (ha : a.put o.dst u = a' := by exact x_nf) : IQ P r l σ K (o :: rest) a := iq_ycallv hg hb ho he has ((hc.frame1 hd hu σ).wks hw) ha k
/-- The older form, with the frame told. -/
theorem x_callv {f : FuncId} {g : Operand} {args : Array Operand} {tys : Array TypeId} {fs cs asx : List IV} {u : IV} (hc : ICalls P f asx σ (fun u' σ' => u' = u ∧ σ' = σ)) (k : IL P r ops Q rest a' σ) [hF : FunC P f] (hg : o.guard = none := by rfl) (ho : o.op = .call { callee := .value g, args := args, argTypes := tys } := by rfl)
    (he : ev a g = .fn (.func f) fs cs := by rfl) (has : fs ++ args.toList.map (ev a) ++ cs = asx := by exact x_nf) (ha : a.put o.dst u = a' := by exact x_nf) : IL P r ops Q (o :: rest) a σ := il_callv hg ho he has hc ha k
theorem y_callv {j : Nat} {b : Bool} {f : FuncId} {g : Operand} {args : Array Operand} {tys : Array TypeId} {fs cs asx : List IV} {u : IV} (hc : ICalls P f asx σ (fun u' σ' => u' = u ∧ σ' = σ)) (k : IL P r ops Q rest a' σ) [hF : FunC P f] (hg : o.guard = some (j, b) := by rfl) (hb : gv ops a j = .bool b := by rfl) (ho : o.op = .call { callee := .value g, args := args, argTypes := tys } := by rfl)
    (he : ev a g = .fn (.func f) fs cs := by rfl) (has : fs ++ args.toList.map (ev a) ++ cs = asx := by exact x_nf) (ha : a.put o.dst u = a' := by exact x_nf) : IL P r ops Q (o :: rest) a σ := il_ycallv hg hb ho he has hc ha k
theorem q_callv {f : FuncId} {g : Operand} {args : Array Operand} {tys : Array TypeId} {fs cs asx : List IV} {u : IV} (hc : ICalls P f asx σ (fun u' σ' => u' = u ∧ σ' = σ)) (k : IQ P r l σ K rest a') [hF : FunC P f] (hg : o.guard = none := by rfl) (ho : o.op = .call { callee := .value g, args := args, argTypes := tys } := by rfl)
    (he : ev a g = .fn (.func f) fs cs := by rfl) (has : fs ++ args.toList.map (ev a) ++ cs = asx := by exact x_nf) (ha : a.put o.dst u = a' := by exact x_nf) : IQ P r l σ K (o :: rest) a := iq_callv hg ho he has hc ha k
theorem qy_callv {j : Nat} {b : Bool} {f : FuncId} {g : Operand} {args : Array Operand} {tys : Array TypeId} {fs cs asx : List IV} {u : IV} (hc : ICalls P f asx σ (fun u' σ' => u' = u ∧ σ' = σ)) (k : IQ P r l σ K rest a') [hF : FunC P f] (hg : o.guard = some (j, b) := by rfl) (hb : gv l.toArray a j = .bool b := by rfl) (ho : o.op = .call { callee := .value g, args := args, argTypes := tys } := by rfl)
    (he : ev a g = .fn (.func f) fs cs := by rfl) (has : fs ++ args.toList.map (ev a) ++ cs = asx := by exact x_nf) (ha : a.put o.dst u = a' := by exact x_nf) : IQ P r l σ K (o :: rest) a := iq_ycallv hg hb ho he has hc ha k
/-- A loop's frame, taken for less. -/
theorem x_loose {I : List IV → List IObj → Prop} {ds : List IDef} {t t' : List IV} {σ' τ : List IObj} (h : I t' σ') (hw : Wks t t' := by exact x_wks) (hs : σ = σ' ++ τ := by exact x_nf) (hn : r.n ≤ σ'.length := by exact Nat.zero_le _) (ht : ∀ x ∈ t', Lt σ'.length x := by exact x_lts) (hm : Marks σ'.length ds := by exact marks_nil) (ho : OLts σ'.length σ' := by exact x_olts) : Loose r I ds ⟨t, ds⟩ σ := loose_mk hw hs hn ht hm ho h
theorem x_loosew {I : List IV → List IObj → Prop} {ds : List IDef} {t t' : List IV} (h : I t' σ) (hw : Wks t t' := by exact x_wks) : LooseW I ds ⟨t, ds⟩ σ := loosew_mk hw h
theorem x_enter {P : Program} {f : FuncId} {fn : Func} {c : Code} {N : Nat} {args l : List IV} {σ : List IObj} {R : IV → List IObj → Prop} (hf : P.funcs[f]? = some fn) (hn : fn.ntmps = N)
    (h : IC P ⟨none, σ.length⟩ c (IRet P fn R) ⟨l, []⟩ σ) (hb : fn.body = some c := by rfl) (hl : args ++ List.replicate (N - args.length) .und = l := by simp only [List.length_cons, List.length_nil, Nat.reduceAdd, Nat.reduceSub, List.replicate_succ, List.replicate_zero, List.cons_append, List.nil_append] <;> rfl) : ICalls P f args σ R := icalls_of hf hb (by rw [hn, hl]; exact h)
theorem x_rett {fn : Func} {R : IV → List IObj → Prop} {t : Nat} (hr : fn.results = #[.tmp t]) (h : R (a.tmps.getD t .junk) σ) (hd : a.defers = [] := by rfl) (ht : t < a.tmps.length := by exact Nat.le_of_ble_eq_true rfl) : IRet P fn R .ret a σ := ⟨hd, _, ires_tmp hr ht, h⟩
theorem x_rett2 {fn : Func} {R : IV → List IObj → Prop} {t s : Nat} (hr : fn.results = #[.tmp t, .tmp s]) (h : R (.tup [a.tmps.getD t .junk, a.tmps.getD s .junk]) σ) (hd : a.defers = [] := by rfl) : IRet P fn R .ret a σ := ⟨hd, _, ires_tmp2 hr, h⟩
end
end Go.QL
end

section
/- QL, part t: loops and joins told by the slots that they turn; results. Plain; no program in sight. -/
set_option linter.unusedVariables false
set_option linter.unusedSimpArgs false
namespace Go.QL
open Go Go.RowKit

def sets : List IV → List Nat → List IV → List IV
  | t, k :: ks, v :: vs => sets (t.set k v) ks vs
  | t, _, _ => t
def junks : List IV → List Nat → List IV
  | t, [] => t
  | t, k :: ks => junks (t.set k .junk) ks
theorem sets_cons (t : List IV) (k : Nat) (ks : List Nat) (v : IV) (vs : List IV) : sets t (k :: ks) (v :: vs) = sets (t.set k v) ks vs := rfl
theorem sets_nil (t : List IV) (vs : List IV) : sets t [] vs = t := by cases vs <;> rfl
theorem junks_cons (t : List IV) (k : Nat) (ks : List Nat) : junks t (k :: ks) = junks (t.set k .junk) ks := rfl
theorem junks_nil (t : List IV) : junks t [] = t := rfl
theorem x_sets {t u : List IV} {ks : List Nat} {vs : List IV} (h : sets t ks vs = u := by (try simp only [sets_cons, sets_nil, nf]) <;> rfl) : sets t ks vs = u := h
theorem x_junks {t u : List IV} {ks : List Nat} (h : junks t ks = u := by (try simp only [junks_cons, junks_nil, nf]) <;> rfl) : junks t ks = u := h
theorem marks_x {n : Nat} {ds : List IDef} (h : Marks n ds := by first | exact marks_nil | exact marks_cons x_le marks_nil) : Marks n ds := h
/-- The cells of a node, of a cell, of a line. -/
abbrev ndc (n : Nd) : List IV := [.int .i64 n.tag, eAs n.attrs, .str n.text, eNs n.kids]
abbrev clc (c : Cel) : List IV := [.int .i32 c.r, .int .i64 c.bits, .str c.href]
abbrev lnc (l : Lin) : List IV := [.int .i64 l.quote, eIs l.lists, .int .i64 l.kind, eCs l.cells]
abbrev ptc (p : Pnt) : List IV := [eIs p.path, .int .i64 p.at_]
abbrev psc (p : Pos) : List IV := [.int .i64 p.line, .int .i64 p.at_]
/-- What stands in memory, told for less. -/
inductive OWk : IObj → IObj → Prop
  | refl (o : IObj) : OWk o o
  | box {T : TypeId} {cs cs' : List IV} (h : Wks cs cs') : OWk (.box T cs) (.box T cs')
  | row {E sz : Nat} {xs xs' : List IV} (hl : xs.length = xs'.length) (hf : ∀ x ∈ xs', (flat x).length = sz) (h : Wks (flats xs) (flats xs')) : OWk (.row E sz xs) (.row E sz xs')
inductive OWks : List IObj → List IObj → Prop
  | nil : OWks [] []
  | cons {x y : IObj} {xs ys : List IObj} (h : OWk x y) (k : OWks xs ys) : OWks (x :: xs) (y :: ys)
theorem OWks.refl : ∀ xs : List IObj, OWks xs xs
  | [] => .nil
  | _ :: xs => .cons (.refl _) (.refl xs)
theorem OWks.len {xs ys : List IObj} (h : OWks xs ys) : xs.length = ys.length := by induction h <;> simp_all
theorem OWks.get {xs ys : List IObj} (h : OWks xs ys) : ∀ (i : Nat) y, ys[i]? = some y → ∃ x, xs[i]? = some x ∧ OWk x y := by
  induction h with
  | nil => intro i y e; simp at e
  | cons h k ih =>
    intro i y e
    rcases i with _ | i
    · simp at e; subst e; exact ⟨_, rfl, h⟩
    · simp at e; simpa using ih i y e
theorem ObjOk.owk {n0 : Nat} {D : DM} {ρ : List Slot} {w : World} {s : Slot} {o o' : IObj} (h : ObjOk n0 D ρ w s o) (k : OWk o o') : ObjOk n0 D ρ w s o' := by
  cases k with
  | refl => exact h
  | box hw =>
    cases s with
    | box b => obtain ⟨vs, h1, h2⟩ := h; exact ⟨vs, h1, h2.wks hw⟩
    | row => exact h.elim
    | fix => exact h.elim
    | gone => exact h.elim
  | row hl hf hw =>
    cases s with
    | row v n => obtain ⟨h1, h2, h3, vs, h4, h5⟩ := h; exact ⟨h1.trans hl, hf, h3, vs, h4, h5.wks hw⟩
    | box => exact h.elim
    | fix => exact h.elim
    | gone => exact h.elim
theorem St.ows {W0 : Base} {D : DM} {ρ : List Slot} {σ σ' : List IObj} {w : World} (h : St W0 D ρ σ w) (k : OWks σ σ') : St W0 D ρ σ' w where
  below := h.below
  dc := h.dc
  dn := h.dn
  len := h.len.trans k.len
  ok i s o e e' := by
    obtain ⟨x, hx, hk⟩ := k.get i o e'
    exact (h.ok i s x e hx).owk hk
  own := h.own
  inj := h.inj
theorem x_ows {σ σ' : List IObj} (h : OWks σ σ' := by repeat (first | exact OWks.refl _ | refine OWks.cons (OWk.refl _) ?_ | refine OWks.cons (OWk.box x_wks) ?_ | refine OWks.cons (by first | (rw [List.map_append]; exact OWk.refl _) | assumption) ?_)) : OWks σ σ' := h
section
variable {P : Program} {r : RN} {Q : IPost} {a a' : IA} {σ σ' τ : List IObj}
/-- What is said of a frame: those slots hold these values; the others are as in t1. -/
abbrev Slots (t1 : List IV) (ks : List Nat) (I : List IV → List IObj → Prop) : List IV → List IObj → Prop := fun t σ => ∃ vs, t = sets t1 ks vs ∧ I vs σ
def Loose2 (r : RN) (I : List IV → List IObj → Prop) (ds : List IDef) (a : IA) (σ : List IObj) : Prop := ∃ σ2, OWks σ σ2 ∧ Loose r I ds a σ2
theorem Loose2.ic {I : List IV → List IObj → Prop} {ds : List IDef} {c : Code} (h : Loose2 r I ds a σ) (k : ∀ t σ, I t σ → IC P r c Q ⟨t, ds⟩ σ) : IC P r c Q a σ := by
  obtain ⟨σ2, h1, h2⟩ := h
  exact fun W0 D ρ w A hs hf => h2.ic k W0 D ρ w A (hs.ows h1) hf
theorem ic_loopX {c : Code} (I : Nat → List IV → List IObj → Prop) (ds : List IDef) {m : Nat} (h0 : Loose2 r (I m) ds a σ)
    (round : ∀ m t σ, I m t σ → IC P r c (IThen (fun a' σ' => ∃ m', m' < m ∧ Loose2 r (I m') ds a' σ') Q) ⟨t, ds⟩ σ) : IC P r (.loop c) Q a σ :=
  ic_loop (fun m a σ => Loose2 r (I m) ds a σ) h0 fun m a σ h => h.ic fun t σ ht => round m t σ ht
theorem x_here {t1 : List IV} {ks : List Nat} {I : List IV → List IObj → Prop} {ds : List IDef} {t t2 vs : List IV} (h : I vs σ') (h2 : sets t1 ks vs = t2 := by exact x_sets) (hw : Wks t t2 := by exact x_wks) (hs : OWks σ (σ' ++ τ) := by exact x_ows) (hn : r.n ≤ σ'.length := by first | exact Nat.zero_le _ | exact x_le)
    (ht : ∀ x ∈ t2, Lt σ'.length x := by exact x_lts) (hm : Marks σ'.length ds := by exact marks_x) (ho : OLts σ'.length σ' := by exact x_olts) : Loose2 r (Slots t1 ks I) ds ⟨t, ds⟩ σ := by
  subst h2
  exact ⟨_, hs, loose_mk hw rfl hn ht hm ho ⟨vs, rfl, h⟩⟩
theorem x_loop {c : Code} (ks js : List Nat) (I : Nat → List IV → List IObj → Prop) {m : Nat} {t t1 t2 vs : List IV} {ds : List IDef} (h0 : I m vs σ')
    (hr : ∀ m vs σ, I m vs σ → IC P r c (IThen (fun a' σ' => ∃ m', m' < m ∧ Loose2 r (Slots t1 ks (I m')) ds a' σ') Q) ⟨sets t1 ks vs, ds⟩ σ)
    (hj : junks t js = t1 := by exact x_junks) (h2 : sets t1 ks vs = t2 := by exact x_sets) (hw : Wks t t2 := by exact x_wks) (hs : OWks σ (σ' ++ τ) := by exact x_ows) (hn : r.n ≤ σ'.length := by first | exact Nat.zero_le _ | exact x_le)
    (ht : ∀ x ∈ t2, Lt σ'.length x := by exact x_lts) (hm : Marks σ'.length ds := by exact marks_x) (ho : OLts σ'.length σ' := by exact x_olts) : IC P r (.loop c) Q ⟨t, ds⟩ σ :=
  ic_loopX (fun m => Slots t1 ks (I m)) ds (m := m) (x_here h0 h2 hw hs hn ht hm ho) fun m t σ ⟨vs, e, h⟩ => by
    subst e
    exact hr m vs σ h
theorem x_next {t1 : List IV} {ks : List Nat} {I : Nat → List IV → List IObj → Prop} {ds : List IDef} {t t2 vs : List IV} {m : Nat} (m' : Nat) (h : I m' vs σ') (hlt : m' < m) (h2 : sets t1 ks vs = t2 := by exact x_sets) (hw : Wks t t2 := by exact x_wks) (hs : OWks σ (σ' ++ τ) := by exact x_ows) (hn : r.n ≤ σ'.length := by first | exact Nat.zero_le _ | exact x_le)
    (ht : ∀ x ∈ t2, Lt σ'.length x := by exact x_lts) (hm : Marks σ'.length ds := by exact marks_x) (ho : OLts σ'.length σ' := by exact x_olts) : ∃ m', m' < m ∧ Loose2 r (Slots t1 ks (I m')) ds ⟨t, ds⟩ σ := ⟨m', hlt, x_here h h2 hw hs hn ht hm ho⟩
/-- Where ways meet. -/
theorem x_mid {x y : Code} (ks js : List Nat) (I : List IV → List IObj → Prop) {t t1 : List IV} {ds : List IDef} (h : IC P r x (IThen (fun a' σ' => Loose2 r (Slots t1 ks I) ds a' σ') Q) ⟨t, ds⟩ σ)
    (k : ∀ vs σ, I vs σ → IC P r y Q ⟨sets t1 ks vs, ds⟩ σ) (hj : junks t js = t1 := by exact x_junks) : IC P r (.seq x y) Q ⟨t, ds⟩ σ :=
  ic_seq (h.mono fun e a σ q => by
    cases e with
    | normal => exact Loose2.ic q fun t σ ⟨vs, e, h⟩ => by subst e; exact k vs σ h
    | _ => exact q)

theorem it_ret {K : IA → List IObj → Prop} (h : Q .ret a σ) : IThen K Q .ret a σ := h
theorem ib_ret {id : Nat} (h : Q .ret a σ) : IBlock id Q .ret a σ := h
inductive RV (P : Program) (a : IA) (σ : List IObj) : ResultVar → IV → Prop
  | tmp (t : Tmp) : RV P a σ (.tmp t) (a.tmps.getD t .junk)
  | celln {d T k off sz bytes : Nat} {z : Value} {T0 : TypeId} {cs : List IV} (hT : Ty P T true z sz bytes) (ht : a.tmps.getD d .junk = .ptr k off) (hk : σ[k]? = some (.box T0 cs)) (hl : off + sz ≤ cs.length) : RV P a σ (.cell d T) (.agg ((cs.drop off).take sz))
  | cell1 {d T k off sz bytes : Nat} {z : Value} {T0 : TypeId} {cs : List IV} {u : IV} (hT : Ty P T false z sz bytes) (ht : a.tmps.getD d .junk = .ptr k off) (hk : σ[k]? = some (.box T0 cs)) (hu : cs[off]? = some u) : RV P a σ (.cell d T) u
theorem RV.run {x : ResultVar} {u : IV} (h : RV P a σ x u) {W0 : Base} {D : DM} {ρ : List Slot} {w : World} {A : Act} (hs : St W0 D ρ σ w) (hf : FR D ρ a A) :
    ∃ v, (match x with | .tmp t => A.tmps[t]?.getD undef = v | .cell b t => ∃ ad, A.tmps[b]?.getD undef = .pointer (some ad) ∧ (loadVar t ad).run P w = .ok v w) ∧ VR D ρ u v := by
  cases h with
  | tmp t => exact ⟨_, by simp [Act.eval], hf.ev (.tmp t)⟩
  | @celln d T k off sz bytes z T0 cs hT ht hk hl =>
    have h1 := hf.ev (.tmp d)
    simp only [ev, ht] at h1
    obtain ⟨b, hb, h1⟩ := hs.ptr_at hk h1
    obtain ⟨vs, h2, h3⟩ := hs.box hb hk
    have hlen := h3.1
    have h4 := run_loadAgg hT (w := w) (b := b) (off := off) ((vs.toList.drop off).take sz) (by simp at hlen ⊢; omega) (fun j v ej => by
      rw [cells_at h2]
      rw [List.getElem?_take] at ej
      split at ej
      · rw [List.getElem?_drop] at ej; simpa using ej
      · cases ej)
    simp only [Act.eval] at h1
    exact ⟨_, ⟨_, by simpa using h1, h4⟩, (h3.sub off sz).agg⟩
  | @cell1 d T k off sz bytes z T0 cs u hT ht hk hu =>
    have h1 := hf.ev (.tmp d)
    simp only [ev, ht] at h1
    obtain ⟨b, hb, h1⟩ := hs.ptr_at hk h1
    obtain ⟨vs, h2, h3⟩ := hs.box hb hk
    have hoff : off < vs.size := by have := h3.1; have := (List.getElem?_eq_some_iff.1 hu).1; simp at *; omega
    have h4 := run_loadOne hT (w := w) (a := ⟨b, off, none⟩) (v := vs[off]) (by rw [cells_at h2]; simp [hoff])
    simp only [Act.eval] at h1
    exact ⟨vs[off], ⟨_, by simpa using h1, h4⟩, h3.2 off u _ hu (by simp [hoff])⟩
theorem ires1 {fn : Func} {x : ResultVar} {u : IV} (h : fn.results = #[x]) (h1 : RV P a σ x u) : IRes P fn a σ u := by
  intro W0 D ρ w A hs hf
  obtain ⟨v, hv, hr⟩ := h1.run hs hf
  refine ⟨v, ?_, hr⟩
  cases x with
  | tmp t => simp only at hv; simp [results, h, ← hv]
  | cell b t => obtain ⟨ad, e1, e2⟩ := hv; simp [results, h, e1, e2, asAddr, Result.andThen]
theorem tup2 {D : DM} {ρ : List Slot} {u1 u2 : IV} {v1 v2 : Value} (h1 : VR D ρ u1 v1) (h2 : VR D ρ u2 v2) : VR D ρ (.tup [u1, u2]) (.tuple #[v1, v2]) := .tup _ _ rfl fun i u v e e' => by
  rcases i with _ | _ | i
  · simp at e e'; subst e; subst e'; exact h1
  · simp at e e'; subst e; subst e'; exact h2
  · simp at e
theorem tup3 {D : DM} {ρ : List Slot} {u1 u2 u3 : IV} {v1 v2 v3 : Value} (h1 : VR D ρ u1 v1) (h2 : VR D ρ u2 v2) (h3 : VR D ρ u3 v3) : VR D ρ (.tup [u1, u2, u3]) (.tuple #[v1, v2, v3]) := .tup _ _ rfl fun i u v e e' => by
  rcases i with _ | _ | _ | i
  · simp at e e'; subst e; subst e'; exact h1
  · simp at e e'; subst e; subst e'; exact h2
  · simp at e e'; subst e; subst e'; exact h3
  · simp at e
theorem ires2 {fn : Func} {x y : ResultVar} {u1 u2 : IV} (h : fn.results = #[x, y]) (h1 : RV P a σ x u1) (h2 : RV P a σ y u2) : IRes P fn a σ (.tup [u1, u2]) := by
  intro W0 D ρ w A hs hf
  obtain ⟨v1, hv1, hr1⟩ := h1.run hs hf
  obtain ⟨v2, hv2, hr2⟩ := h2.run hs hf
  refine ⟨_, ?_, tup2 hr1 hr2⟩
  cases x <;> cases y <;> simp only at hv1 hv2 <;> (try obtain ⟨ad1, e1, e2⟩ := hv1) <;> (try obtain ⟨ad2, e3, e4⟩ := hv2) <;> simp [results, h, asAddr, Result.andThen, *]
theorem ires3 {fn : Func} {x y z : ResultVar} {u1 u2 u3 : IV} (h : fn.results = #[x, y, z]) (h1 : RV P a σ x u1) (h2 : RV P a σ y u2) (h3 : RV P a σ z u3) : IRes P fn a σ (.tup [u1, u2, u3]) := by
  intro W0 D ρ w A hs hf
  obtain ⟨v1, hv1, hr1⟩ := h1.run hs hf
  obtain ⟨v2, hv2, hr2⟩ := h2.run hs hf
  obtain ⟨v3, hv3, hr3⟩ := h3.run hs hf
  refine ⟨_, ?_, tup3 hr1 hr2 hr3⟩
  cases x <;> cases y <;> cases z <;> simp only at hv1 hv2 hv3 <;> (try obtain ⟨ad1, e1, e2⟩ := hv1) <;> (try obtain ⟨ad2, e3, e4⟩ := hv2) <;> (try obtain ⟨ad3, e5, e6⟩ := hv3) <;> simp [results, h, asAddr, Result.andThen, *]
theorem x_rv {x : ResultVar} {u : IV} (h : RV P a σ x u := by first | exact RV.tmp _ | exact RV.celln TyC.h rfl rfl x_le | exact RV.cell1 TyC.h rfl rfl rfl) : RV P a σ x u := h
theorem x_wk {u v : IV} (h : Wk u v := by first | exact Wk.refl _ | exact Wk.nils _ | exact Wk.sl _ _ | exact Wk.agg x_wks | (rw [← eN_mk]; exact Wk.agg x_wks)) : Wk u v := h
theorem x_res1 {fn : Func} {R : IV → List IObj → Prop} {x : ResultVar} {u u1 u' : IV} (hr : fn.results = #[x]) (h : R u' σ) (hv : RV P a σ x u1 := by exact x_rv) (hu : u1 = u := by exact x_nf) (hw : Wk u u' := by exact x_wk) (hd : a.defers = [] := by rfl) : IRet P fn R .ret a σ := by
  subst hu
  exact ⟨hd, u', ires_wk (ires1 hr hv) hw, h⟩
theorem x_res2 {fn : Func} {R : IV → List IObj → Prop} {x y : ResultVar} {u1 u2 w1 w2 v1 v2 : IV} (hr : fn.results = #[x, y]) (h : R (.tup [v1, v2]) σ) (hv : RV P a σ x u1 := by exact x_rv) (hv2 : RV P a σ y u2 := by exact x_rv) (hu : u1 = w1 := by exact x_nf) (hu2 : u2 = w2 := by exact x_nf) (hw : Wk w1 v1 := by exact x_wk) (hw2 : Wk w2 v2 := by exact x_wk) (hd : a.defers = [] := by rfl) : IRet P fn R .ret a σ := by
  subst hu; subst hu2
  exact ⟨hd, _, ires_wk (ires2 hr hv hv2) (Wk.tup (.cons hw (.cons hw2 .nil))), h⟩
theorem x_res3 {fn : Func} {R : IV → List IObj → Prop} {x y z : ResultVar} {u1 u2 u3 w1 w2 w3 v1 v2 v3 : IV} (hr : fn.results = #[x, y, z]) (h : R (.tup [v1, v2, v3]) σ) (hv : RV P a σ x u1 := by exact x_rv) (hv2 : RV P a σ y u2 := by exact x_rv) (hv3 : RV P a σ z u3 := by exact x_rv) (hu : u1 = w1 := by exact x_nf) (hu2 : u2 = w2 := by exact x_nf) (hu3 : u3 = w3 := by exact x_nf) (hw : Wk w1 v1 := by exact x_wk) (hw2 : Wk w2 v2 := by exact x_wk) (hw3 : Wk w3 v3 := by exact x_wk) (hd : a.defers = [] := by rfl) : IRet P fn R .ret a σ := by
  subst hu; subst hu2; subst hu3
  exact ⟨hd, _, ires_wk (ires3 hr hv hv2 hv3) (Wk.tup (.cons hw (.cons hw2 (.cons hw3 .nil)))), h⟩
theorem x_res0 {fn : Func} {R : IV → List IObj → Prop} (hr : fn.results = #[]) (h : R (.tup []) σ) (hd : a.defers = [] := by rfl) : IRet P fn R .ret a σ := ⟨hd, _, ires_none hr, h⟩
end
end Go.QL
end

section
/- QL, part u: the document's answer for rows and hosts (ref19) as plain functions. No program in sight. -/
set_option linter.unusedVariables false
set_option linter.unusedSimpArgs false
namespace Go.QL
open Go Go.RowKit

theorem snoc_of {α : Type} {l : List α} (h : l ≠ []) : ∃ i x, l = i ++ [x] := ⟨l.dropLast, l.getLast h, (List.dropLast_concat_getLast h).symm⟩
theorem Deep.le : ∀ {d e : Nat} {l : List Nd}, Deep d l → e ≤ d → Deep e l
  | 0, 0, l, h, _ => h
  | d + 1, 0, l, h, _ => by obtain ⟨i, x, rfl, _⟩ := h; simp [Deep]
  | d + 1, e + 1, l, h, he => by obtain ⟨i, x, hl, h2⟩ := h; exact ⟨i, x, hl, h2.le (by omega)⟩
theorem Deep.kids {d : Nat} {i : List Nd} {x : Nd} (h : Deep (d + 1) (i ++ [x])) : Deep d x.kids := by
  obtain ⟨i2, x2, e2, h2⟩ := h
  obtain ⟨_, e3⟩ := List.append_inj' e2 rfl
  cases e3
  exact h2
theorem Deep.mk_succ {d : Nat} {i : List Nd} {x : Nd} (h : Deep d x.kids) : Deep (d + 1) (i ++ [x]) := ⟨i, x, rfl, h⟩
theorem Deep.mk_zero {i : List Nd} {x : Nd} : Deep 0 (i ++ [x]) := by simp [Deep]
theorem growR_deep : ∀ {d e : Nat} {l : List Nd} {c : Int}, Deep d l → Deep d (growR d l c)
  | 0, _, l, c, h => by
    obtain ⟨i, x, rfl⟩ := Deep.snoc h
    rw [growR_0]; exact .mk_zero
  | d + 1, e, l, c, h => by
    obtain ⟨i, x, rfl, h2⟩ := h
    rw [growR_S]; exact .mk_succ (growR_deep (e := e) h2)
theorem growR_szl : ∀ (d : Nat) (l : List Nd) (c : Int), Deep d l → szl (growR d l c) = szl l
  | 0, l, c, h => by
    obtain ⟨i, x, rfl⟩ := Deep.snoc h
    rw [growR_0, szl_append, szl_append]; simp [szl, Nd.sz_eq, Nd.attrs, Nd.kids]
  | d + 1, l, c, h => by
    obtain ⟨i, x, rfl, h2⟩ := h
    have := growR_szl d x.kids c h2
    rw [growR_S, szl_append, szl_append]; simp only [szl, Nd.sz_eq x, Nd.sz]; omega
theorem growR_tbl : ∀ (d : Nat) (l : List Nd) (c : Int), Deep d l → tbl (growR d l c) ≤ tbl l + 4
  | 0, l, c, h => by
    obtain ⟨i, x, rfl⟩ := Deep.snoc h
    have : (strOf [c]).size ≤ 4 := runesBytes_size_le [c]
    have e : (x.text ++ strOf [c]).size = x.text.size + (strOf [c]).size := by simp
    rw [growR_0, tbl_append, tbl_append]
    simp only [tbl, Nd.tb_eq x, Nd.tb, e]
    omega
  | d + 1, l, c, h => by
    obtain ⟨i, x, rfl, h2⟩ := h
    have := growR_tbl d x.kids c h2
    rw [growR_S, tbl_append, tbl_append]
    simp only [tbl, Nd.tb_eq x, Nd.tb]
    omega

def nest : List Nd → Nd → Nd
  | [], leaf => leaf
  | x :: r, leaf => .mk x.tag x.attrs x.text [nest r leaf]
def putR : Nat → List Nd → List Nd → Nd → List Nd
  | 0, nodes, around, leaf => nodes ++ [nest around leaf]
  | s + 1, nodes, around, leaf => match nodes.getLast? with
    | none => []
    | some x => nodes.dropLast ++ [.mk x.tag x.attrs x.text (putR s x.kids around.tail leaf)]
theorem putR_S (s : Nat) (i : List Nd) (x : Nd) (a : List Nd) (leaf : Nd) : putR (s + 1) (i ++ [x]) a leaf = i ++ [.mk x.tag x.attrs x.text (putR s x.kids a.tail leaf)] := by rw [putR]; simp
/-- So many elements may be shared. -/
def Shares (s : Nat) (nodes : List Nd) : Prop := s = 0 ∨ Deep (s - 1) nodes
theorem Shares.kids {s : Nat} {i : List Nd} {x : Nd} (h : Shares (s + 1) (i ++ [x])) : Shares s x.kids := by
  rcases s with _ | s
  · exact .inl rfl
  · rcases h with h | h
    · omega
    · exact .inr (Deep.kids h)
theorem Shares.snoc {s : Nat} {l : List Nd} (h : Shares (s + 1) l) : ∃ i x, l = i ++ [x] := by
  rcases h with h | h
  · omega
  · exact Deep.snoc h
theorem nest_deep (leaf : Nd) : ∀ (a : List Nd) (i : List Nd), Deep a.length (i ++ [nest a leaf])
  | [], i => .mk_zero
  | x :: r, i => .mk_succ (by simp only [nest, Nd.kids]; exact nest_deep leaf r [])
theorem putR_deep (leaf : Nd) : ∀ (s : Nat) (nodes a : List Nd), Shares s nodes → s ≤ a.length → Deep a.length (putR s nodes a leaf)
  | 0, nodes, a, _, _ => nest_deep leaf a nodes
  | s + 1, nodes, a, h, hl => by
    obtain ⟨i, x, rfl⟩ := h.snoc
    rw [putR_S]
    cases a with
    | nil => simp at hl
    | cons y a => exact .mk_succ (by simp only [Nd.kids, List.tail_cons]; exact putR_deep leaf s x.kids a h.kids (by simpa using hl))
theorem nest_sz (leaf : Nd) : ∀ a : List Nd, (nest a leaf).sz ≤ szl a + leaf.sz
  | [] => by simp [nest, szl]
  | x :: r => by have := nest_sz leaf r; simp only [nest, Nd.sz, szl, Nd.sz_eq x]; omega
theorem putR_szl (leaf : Nd) : ∀ (s : Nat) (nodes a : List Nd), Shares s nodes → szl (putR s nodes a leaf) ≤ szl nodes + szl a + leaf.sz
  | 0, nodes, a, _ => by have := nest_sz leaf a; simp only [putR, szl_append, szl]; omega
  | s + 1, nodes, a, h => by
    obtain ⟨i, x, rfl⟩ := h.snoc
    have := putR_szl leaf s x.kids a.tail h.kids
    have ht : szl a.tail ≤ szl a := by cases a <;> simp [szl]
    rw [putR_S, szl_append, szl_append]
    simp only [szl, Nd.sz_eq x, Nd.sz]
    omega
theorem nest_tb (leaf : Nd) : ∀ a : List Nd, (nest a leaf).tb ≤ tbl a + leaf.tb
  | [] => by simp [nest, tbl]
  | x :: r => by have := nest_tb leaf r; simp only [nest, Nd.tb, tbl, Nd.tb_eq x]; omega
theorem putR_tbl (leaf : Nd) : ∀ (s : Nat) (nodes a : List Nd), Shares s nodes → tbl (putR s nodes a leaf) ≤ tbl nodes + tbl a + leaf.tb
  | 0, nodes, a, _ => by have := nest_tb leaf a; simp only [putR, tbl_append, tbl]; omega
  | s + 1, nodes, a, h => by
    obtain ⟨i, x, rfl⟩ := h.snoc
    have := putR_tbl leaf s x.kids a.tail h.kids
    have ht : tbl a.tail ≤ tbl a := by cases a <;> simp [tbl]
    rw [putR_S, tbl_append, tbl_append]
    simp only [tbl, Nd.tb_eq x, Nd.tb]
    omega
def behindR : Nat → List Nd → Pnt
  | 0, nodes => match nodes.getLast? with
    | none => ⟨[], 0⟩
    | some x => if x.tag = 16 then ⟨[], nodes.length⟩ else ⟨[(nodes.length : Int) - 1], (runesL x.text).length⟩
  | d + 1, nodes => match nodes.getLast? with
    | none => ⟨[], 0⟩
    | some x => ⟨((nodes.length : Int) - 1) :: (behindR d x.kids).path, (behindR d x.kids).at_⟩
/-- The right rsp: the numbers of the last ones, so many; and the nodes behind. -/
def rsp : Nat → List Nd → List Int × List Nd
  | 0, l => ([], l)
  | d + 1, l => match l.getLast? with
    | none => ([], [])
    | some x => (((l.length : Int) - 1) :: (rsp d x.kids).1, (rsp d x.kids).2)
theorem rsp_len : ∀ (d : Nat) (l : List Nd), (rsp d l).1.length ≤ d
  | 0, l => by simp [rsp]
  | d + 1, l => by
    simp only [rsp]
    cases l.getLast? with
    | none => simp
    | some x => have := rsp_len d x.kids; simp; omega
theorem szl_snoc (i : List Nd) (x : Nd) : szl x.kids ≤ szl (i ++ [x]) := by rw [szl_append]; simp only [szl, Nd.sz_eq x]; omega
theorem rsp_szl : ∀ (d : Nat) (l : List Nd), szl (rsp d l).2 ≤ szl l
  | 0, l => Nat.le_refl _
  | d + 1, l => by
    simp only [rsp]
    cases h : l.getLast? with
    | none => simp [szl]
    | some x =>
      obtain ⟨i, rfl⟩ := List.getLast?_eq_some_iff.1 h
      exact Nat.le_trans (rsp_szl d x.kids) (szl_snoc i x)
theorem rsp_tbl : ∀ (d : Nat) (l : List Nd), tbl (rsp d l).2 ≤ tbl l
  | 0, l => Nat.le_refl _
  | d + 1, l => by
    simp only [rsp]
    cases h : l.getLast? with
    | none => simp [tbl]
    | some x =>
      obtain ⟨i, rfl⟩ := List.getLast?_eq_some_iff.1 h
      refine Nat.le_trans (rsp_tbl d x.kids) ?_
      rw [tbl_append]; simp only [tbl, Nd.tb_eq x]; omega
theorem rsp_succ : ∀ (d : Nat) (l : List Nd), Deep d l → ∃ i x, (rsp d l).2 = i ++ [x] ∧ rsp (d + 1) l = ((rsp d l).1 ++ [(((rsp d l).2.length : Nat) : Int) - 1], x.kids)
  | 0, l, h => by
    obtain ⟨i, x, rfl⟩ := Deep.snoc h
    exact ⟨i, x, rfl, by simp [rsp]⟩
  | d + 1, l, h => by
    obtain ⟨i, x, rfl, h2⟩ := h
    obtain ⟨i2, x2, e1, e2⟩ := rsp_succ d x.kids h2
    refine ⟨i2, x2, ?_, ?_⟩
    · rw [rsp]; simpa using e1
    · rw [rsp]
      simp only [List.getLast?_append, List.getLast?_singleton, Option.some_or]
      rw [e2]
      conv => rhs; rw [rsp]
      simp
theorem behindR_S (d : Nat) (i : List Nd) (x : Nd) : behindR (d + 1) (i ++ [x]) = ⟨((((i ++ [x]).length : Nat) : Int) - 1) :: (behindR d x.kids).path, (behindR d x.kids).at_⟩ := by rw [behindR]; simp
theorem rsp_S (d : Nat) (i : List Nd) (x : Nd) : rsp (d + 1) (i ++ [x]) = (((((i ++ [x]).length : Nat) : Int) - 1) :: (rsp d x.kids).1, (rsp d x.kids).2) := by rw [rsp]; simp
theorem behindR_eq : ∀ (d : Nat) (l : List Nd), Deep d l → behindR d l = ⟨(rsp d l).1 ++ (behindR 0 (rsp d l).2).path, (behindR 0 (rsp d l).2).at_⟩
  | 0, l, h => by simp [rsp]
  | d + 1, l, h => by
    obtain ⟨i, x, rfl, h2⟩ := h
    rw [behindR_S, rsp_S, behindR_eq d x.kids h2]
    rfl

def shareC (prev : Option Cel) (c : Cel) : Nat := match prev with
  | none => 0
  | some p => sharedR (wrapsR p) (wrapsR c)
def brN : Nd := .mk 16 [] ⟨#[]⟩ []
def chN (c : Int) : Nd := .mk 0 [] (strOf [c]) []
def goesOn (prev : Option Cel) (c : Cel) (s : Nat) : Bool := match prev with
  | none => false
  | some p => !decide (p.r = 10) && (decide (s = (wrapsR c).length) && decide (s = (wrapsR p).length))
def rowStepS (s : Nat) (prev : Option Cel) (c : Cel) (nodes : List Nd) : List Nd :=
  if c.r = 10 then putR s nodes (wrapsR c) brN
  else if goesOn prev c s = true then growR (wrapsR c).length nodes c.r
  else putR s nodes (wrapsR c) (chN c.r)
def rowStep (prev : Option Cel) (c : Cel) (nodes : List Nd) : List Nd := rowStepS (shareC prev c) prev c nodes
def rowN (l : List Cel) : Nat → List Nd
  | 0 => []
  | i + 1 => match l[i]? with
    | none => rowN l i
    | some c => rowStep (if i = 0 then none else l[i - 1]?) c (rowN l i)
def ptsN (l : List Cel) : Nat → List Pnt
  | 0 => []
  | i + 1 => match l[i]? with
    | none => ptsN l i
    | some c => ptsN l i ++ [behindR (wrapsR c).length (rowN l (i + 1))]
def rowR (l : List Cel) : List Nd := rowN l l.length
def ptsR (l : List Cel) : List Pnt := ptsN l l.length
theorem ptsN_len (l : List Cel) : ∀ i, (ptsN l i).length ≤ i
  | 0 => by simp [ptsN]
  | i + 1 => by have := ptsN_len l i; simp only [ptsN]; split <;> simp <;> omega
theorem sharedR_le : ∀ a b : List Nd, sharedR a b ≤ a.length ∧ sharedR a b ≤ b.length
  | [], b => by cases b <;> simp [sharedR]
  | a :: l, [] => by simp [sharedR]
  | a :: l, b :: m => by have := sharedR_le l m; simp only [sharedR]; split <;> simp <;> omega
theorem wrapsN_szl (c : Cel) : ∀ n, szl (wrapsN c n) ≤ n + 2
  | 0 => by unfold wrapsN; split <;> simp [szl, Nd.sz]
  | n + 1 => by have := wrapsN_szl c n; unfold wrapsN; rw [szl_append]; split <;> simp [szl, Nd.sz] <;> omega
theorem size_e : ByteArray.size ⟨#[]⟩ = 0 := rfl
theorem wrapsN_tbl (c : Cel) : ∀ n, tbl (wrapsN c n) = 0
  | 0 => by unfold wrapsN; split <;> simp only [tbl, Nd.tb, size_e]
  | n + 1 => by have := wrapsN_tbl c n; unfold wrapsN; rw [tbl_append]; split <;> simp only [tbl, Nd.tb, this, size_e]
theorem chN_sz (c : Int) : (chN c).sz = 1 := by simp [chN, Nd.sz, szl]
theorem brN_sz : brN.sz = 1 := by simp [brN, Nd.sz, szl]
theorem chN_tb (c : Int) : (chN c).tb ≤ 4 := by have : (strOf [c]).size ≤ 4 := runesBytes_size_le [c]; simp only [chN, Nd.tb, tbl]; omega
theorem brN_tb : brN.tb = 0 := by simp only [brN, Nd.tb, tbl, size_e]
/-- What stays true from cell to cell. -/
structure RowOkN (c : Cel) (nodes : List Nd) (i : Nat) : Prop where
  deep : Deep (wrapsR c).length nodes
  sz : szl nodes ≤ 7 * i
  tb : tbl nodes ≤ 4 * i
theorem shares_of {p : Cel} {c : Cel} {nodes : List Nd} (h : Deep (wrapsR p).length nodes) : Shares (sharedR (wrapsR p) (wrapsR c)) nodes := by
  have := (sharedR_le (wrapsR p) (wrapsR c)).1
  exact .inr (h.le (by omega))
theorem rowStepS_ok {s i : Nat} {prev : Option Cel} {c : Cel} {nodes : List Nd} (hs : Shares s nodes) (hle : s ≤ (wrapsR c).length) (h3 : szl nodes ≤ 7 * i) (h4 : tbl nodes ≤ 4 * i) (hd : goesOn prev c s = true → Deep (wrapsR c).length nodes) : RowOkN c (rowStepS s prev c nodes) (i + 1) := by
  have hw := wrapsN_szl c 4
  have hw2 := wrapsN_tbl c 4
  unfold rowStepS
  split
  · have h1 := putR_szl brN _ nodes (wrapsR c) hs
    have h2 := putR_tbl brN _ nodes (wrapsR c) hs
    rw [brN_sz] at h1; rw [brN_tb] at h2
    simp only [wrapsR] at *
    exact ⟨putR_deep _ _ nodes (wrapsN c 4) hs hle, by omega, by omega⟩
  · split
    · rename_i hg
      have hd := hd hg
      have h1 := growR_szl _ nodes c.r hd
      have h2 := growR_tbl _ nodes c.r hd
      exact ⟨growR_deep (e := 0) hd, by omega, by omega⟩
    · have h1 := putR_szl (chN c.r) _ nodes (wrapsR c) hs
      have h2 := putR_tbl (chN c.r) _ nodes (wrapsR c) hs
      have := chN_tb c.r
      rw [chN_sz] at h1
      simp only [wrapsR] at *
      exact ⟨putR_deep _ _ nodes (wrapsN c 4) hs hle, by omega, by omega⟩
theorem goesOn_some {p c : Cel} {s : Nat} (h : goesOn (some p) c s = true) : p.r ≠ 10 ∧ s = (wrapsR c).length ∧ s = (wrapsR p).length := by
  simpa [goesOn] using h
theorem rowStep_first (c : Cel) : RowOkN c (rowStep none c []) 1 := rowStepS_ok (i := 0) (.inl rfl) (Nat.zero_le _) (by simp [szl]) (by simp [tbl]) (fun h => by cases h)
theorem rowStep_next {p c : Cel} {nodes : List Nd} {i : Nat} (h : RowOkN p nodes i) : RowOkN c (rowStep (some p) c nodes) (i + 1) :=
  rowStepS_ok (shares_of h.deep) (sharedR_le (wrapsR p) (wrapsR c)).2 h.sz h.tb fun hg => by
    obtain ⟨_, e1, e2⟩ := goesOn_some hg
    rw [← e1, e2]
    exact h.deep
theorem rowN_ok (l : List Cel) : ∀ i (h : i < l.length), RowOkN l[i] (rowN l (i + 1)) (i + 1)
  | 0, h => by simp only [rowN, List.getElem?_eq_getElem h, if_pos]; exact rowStep_first _
  | i + 1, h => by
    rw [rowN]
    simp only [List.getElem?_eq_getElem h, Nat.succ_ne_zero, if_false, Nat.add_sub_cancel, List.getElem?_eq_getElem (show i < l.length by omega)]
    exact rowStep_next (rowN_ok l i (by omega))
/-- What is before a cell. -/
def prevOf (l : List Cel) (i : Nat) : Option Cel := if i = 0 then none else l[i - 1]?
structure RowRound (l : List Cel) (i : Nat) (c : Cel) : Prop where
  eq : rowN l (i + 1) = rowStepS (shareC (prevOf l i) c) (prevOf l i) c (rowN l i)
  shares : Shares (shareC (prevOf l i) c) (rowN l i)
  le : shareC (prevOf l i) c ≤ (wrapsR c).length
  sz : szl (rowN l i) ≤ 7 * i
  tb : tbl (rowN l i) ≤ 4 * i
  deep : goesOn (prevOf l i) c (shareC (prevOf l i) c) = true → Deep (wrapsR c).length (rowN l i)
  next : RowOkN c (rowN l (i + 1)) (i + 1)
  pts : ptsN l (i + 1) = ptsN l i ++ [behindR (wrapsR c).length (rowN l (i + 1))]
theorem row_round (l : List Cel) (i : Nat) (h : i < l.length) : RowRound l i l[i] := by
  have hg : l[i]? = some l[i] := List.getElem?_eq_getElem h
  have heq : rowN l (i + 1) = rowStepS (shareC (prevOf l i) l[i]) (prevOf l i) l[i] (rowN l i) := by
    rw [rowN]; simp only [hg]; rfl
  have hp : ptsN l (i + 1) = ptsN l i ++ [behindR (wrapsR l[i]).length (rowN l (i + 1))] := by
    rw [ptsN]; simp only [hg]
  have hn := rowN_ok l i h
  rcases i with _ | i
  · exact ⟨heq, .inl rfl, Nat.zero_le _, by simp [rowN, szl], by simp [rowN, tbl], fun h => by simp [prevOf, goesOn] at h, hn, hp⟩
  · have hpv : prevOf l (i + 1) = some l[i] := by simp only [prevOf, Nat.succ_ne_zero, if_false, Nat.add_sub_cancel]; exact List.getElem?_eq_getElem (by omega)
    have ho := rowN_ok l i (by omega)
    refine ⟨heq, ?_, ?_, ho.sz, ho.tb, ?_, hn, hp⟩
    · rw [hpv]; exact shares_of ho.deep
    · rw [hpv]; exact (sharedR_le _ _).2
    · rw [hpv]; intro hg
      obtain ⟨_, e1, e2⟩ := goesOn_some hg
      rw [← e1, e2]
      exact ho.deep
end Go.QL
end

section
/- QL, part v: a region that draws its order: some quiet operations, wherever they stand, are done first. Plain; no program in sight. -/
set_option linter.unusedVariables false
set_option linter.unusedSimpArgs false
namespace Go.QL
open Go Go.RowKit

def incr : List Nat → Bool
  | [] => true
  | a :: s => (s.all fun b => decide (a < b)) && incr s
def schk (l : List Oper) (S : List Nat) : Bool :=
  (S.all fun i => decide (i < l.length)) && incr S &&
  (S.all fun i => (List.range l.length).all fun j => i == j || !(match l[i]?, l[j]? with | some x, some y => x.dst.isSome && x.dst == y.dst | _, _ => false)) &&
  (S.all fun i => match l[i]? with
    | none => false
    | some o => (looks l o).all fun t => (List.range l.length).all fun j => match l[j]? with
      | none => false
      | some x => !(x.dst == some t) || (S.contains j && (decide (j < i) && (deps o).contains j)) || (!(S.contains j) && bef l l.length j i)) &&
  (S.all fun i => match l[i]? with | none => false | some o => (deps o).all fun d => S.contains d && decide (d < i)) &&
  ((List.range l.length).all fun t => match l[t]? with
    | none => false
    | some o => S.contains t || (looks l o).all fun s => S.all fun i => match l[i]? with | none => false | some x => !(x.dst == some s) || bef l l.length t i)
theorem schk_spec {l : List Oper} {S : List Nat} (h : schk l S = true) :
    (∀ i ∈ S, i < l.length) ∧ incr S = true ∧
    (∀ (i j : Nat) x y t, i ∈ S → l[i]? = some x → l[j]? = some y → x.dst = some t → y.dst = some t → i = j) ∧
    (∀ (i j : Nat) o x t, i ∈ S → l[i]? = some o → l[j]? = some x → t ∈ looks l o → x.dst = some t → (j ∈ S ∧ j < i ∧ j ∈ deps o) ∨ (¬ j ∈ S ∧ bef l l.length j i = true)) ∧
    (∀ (i : Nat) o, i ∈ S → l[i]? = some o → ∀ d ∈ deps o, d ∈ S ∧ d < i) ∧
    (∀ (t i : Nat) o x s, ¬ t ∈ S → i ∈ S → l[t]? = some o → l[i]? = some x → s ∈ looks l o → x.dst = some s → bef l l.length t i = true) := by
  simp only [schk, Bool.and_eq_true, List.all_eq_true, List.mem_range, decide_eq_true_eq] at h
  obtain ⟨⟨⟨⟨⟨h1, h2⟩, h3⟩, h4⟩, h5⟩, h6⟩ := h
  have lt : ∀ {j : Nat} {x : Oper}, l[j]? = some x → j < l.length := fun e => (List.getElem?_eq_some_iff.1 e).1
  refine ⟨h1, h2, fun i j x y t hi ex ey hx hy => ?_, fun i j o x t hi eo ex ht hx => ?_, fun i o hi eo d hd => ?_, fun t i o x s ht hi eo ex hs hx => ?_⟩
  · have := h3 i hi j (lt ey)
    rw [ex, ey] at this
    simp [hx, hy] at this
    exact this
  · have := h4 i hi
    rw [eo] at this
    simp only [List.all_eq_true, List.mem_range] at this
    have := this t ht j (lt ex)
    rw [ex] at this
    simp [hx] at this
    rcases this with q | q
    · exact .inl q
    · exact .inr q
  · have := h5 i hi
    rw [eo] at this
    simp only [List.all_eq_true, Bool.and_eq_true, decide_eq_true_eq] at this
    have := this d hd
    exact ⟨by simpa using this.1, this.2⟩
  · have := h6 t (lt eo)
    rw [eo] at this
    simp only [Bool.or_eq_true, List.all_eq_true] at this
    rcases this with h | h
    · exact absurd (by simpa using h) ht
    · have := h s hs i hi
      rw [ex] at this
      simp [hx] at this
      exact this
theorem incr_lt : ∀ {S : List Nat}, incr S = true → ∀ {a b i j : Nat}, S[i]? = some a → S[j]? = some b → a < b → i < j
  | [], _, a, b, i, j, h1, h2, _ => by simp at h1
  | c :: S, h, a, b, i, j, h1, h2, hab => by
    simp only [incr, Bool.and_eq_true, List.all_eq_true, decide_eq_true_eq] at h
    rcases i with _ | i
    · rcases j with _ | j
      · simp at h1 h2; omega
      · omega
    · rcases j with _ | j
      · simp at h1 h2
        have := h.1 a (List.mem_of_getElem? h1)
        omega
      · simp at h1 h2
        have := incr_lt h.2 h1 h2 hab
        omega
theorem incr_ne : ∀ {S : List Nat}, incr S = true → ∀ {i m m' : Nat}, S[m]? = some i → S[m']? = some i → m < m' → False
  | [], _, i, m, m', h1, _, _ => by simp at h1
  | c :: S, h, i, m, m', h1, h2, hlt => by
    simp only [incr, Bool.and_eq_true, List.all_eq_true, decide_eq_true_eq] at h
    rcases m' with _ | m'
    · omega
    · rcases m with _ | m
      · simp at h1 h2
        have := h.1 i (List.mem_of_getElem? h2)
        omega
      · simp at h1 h2
        exact incr_ne h.2 h1 h2 (by omega)
def cS (L : Array Bool) : List Nat → Nat
  | [] => 0
  | i :: s => (if L.getD i false = true then 0 else 1) + cS L s
theorem cS_other {L : Array Bool} {i : Nat} (hs : i < L.size) : ∀ {S : List Nat}, ¬ i ∈ S → cS (L.setIfInBounds i true) S = cS L S
  | [], _ => rfl
  | j :: S, h => by
    simp only [List.mem_cons, not_or] at h
    simp only [cS, getD_set_eq hs, if_neg (Ne.symm h.1), cS_other hs h.2]
theorem cS_set {L : Array Bool} {i : Nat} (hs : i < L.size) (hL : L.getD i false = false) : ∀ {S : List Nat}, incr S = true → i ∈ S → cS (L.setIfInBounds i true) S + 1 = cS L S
  | [], _, h => by cases h
  | j :: S, hi, h => by
    simp only [incr, Bool.and_eq_true, List.all_eq_true, decide_eq_true_eq] at hi
    by_cases hj : j = i
    · subst hj
      have hn : ¬ j ∈ S := fun hm => by have := hi.1 j hm; omega
      simp only [cS, cS_other hs hn, getD_set_eq hs, if_pos, hL, Bool.false_eq_true, if_false]
      omega
    · have hm : i ∈ S := by rcases List.mem_cons.1 h with e | e; exact absurd e.symm hj; exact e
      have := cS_set hs hL hi.2 hm
      simp only [cS, getD_set_eq hs, if_neg hj]
      omega
theorem cS_zero {L : Array Bool} : ∀ {S : List Nat}, cS L S = 0 → ∀ i ∈ S, L.getD i false = true
  | [], _, i, h => by cases h
  | j :: S, h, i, hi => by
    simp only [cS] at h
    rcases List.mem_cons.1 hi with rfl | hi
    · split at h
      · assumption
      · omega
    · exact cS_zero (by omega) i hi
theorem cS_pos {L : Array Bool} : ∀ {S : List Nat}, cS L S ≠ 0 → ∃ i ∈ S, L.getD i false = false
  | [], h => absurd rfl h
  | j :: S, h => by
    by_cases hj : L.getD j false = true
    · simp only [cS, if_pos hj] at h
      obtain ⟨i, hi, e⟩ := cS_pos (L := L) (S := S) (by omega)
      exact ⟨i, List.mem_cons_of_mem _ hi, e⟩
    · exact ⟨j, List.mem_cons_self .., by simpa using hj⟩
theorem least_in {L : Array Bool} {S : List Nat} : ∀ {i : Nat}, i ∈ S → L.getD i false = false → ∃ i0, i0 ∈ S ∧ L.getD i0 false = false ∧ ∀ j ∈ S, j < i0 → L.getD j false = true := by
  intro i
  induction i using Nat.strongRecOn with
  | _ i ih =>
    intro hi hL
    by_cases h : ∃ j, j < i ∧ j ∈ S ∧ L.getD j false = false
    · obtain ⟨j, hj, hjS, hLj⟩ := h
      exact ih j hj hjS hLj
    · refine ⟨i, hi, hL, fun j hjS hj => ?_⟩
      cases hb : L.getD j false with
      | true => rfl
      | false => exact absurd ⟨j, hj, hjS, hb⟩ h
theorem mem_at {S : List Nat} {i : Nat} (h : i ∈ S) : ∃ k, k < S.length ∧ S[k]? = some i := by
  obtain ⟨k, hk, e⟩ := List.getElem_of_mem h
  exact ⟨k, hk, by rw [List.getElem?_eq_getElem hk, e]⟩
def sub (l : List Oper) : List Nat → List Oper
  | [] => []
  | i :: s => match l[i]? with
    | some o => o :: sub l s
    | none => sub l s
theorem sub_get {l : List Oper} : ∀ {S : List Nat}, (∀ i ∈ S, i < l.length) → (sub l S).length = S.length ∧ ∀ (k : Nat) (o : Oper), (sub l S)[k]? = some o ↔ ∃ i : Nat, S[k]? = some i ∧ l[i]? = some o
  | [], _ => ⟨rfl, fun k o => by simp [sub]⟩
  | i :: S, h => by
    have hil : i < l.length := h i (List.mem_cons_self ..)
    have hi : l[i]? = some l[i] := List.getElem?_eq_getElem hil
    obtain ⟨h1, h2⟩ := sub_get (l := l) (S := S) fun j hj => h j (List.mem_cons_of_mem _ hj)
    refine ⟨by simp [sub, hi, h1], fun k o => ?_⟩
    simp only [sub, hi]
    rcases k with _ | k
    · constructor
      · intro e; simp at e; subst e; exact ⟨i, rfl, hi⟩
      · rintro ⟨j, e1, e2⟩; simp at e1; subst e1; rw [hi] at e2; simpa using e2
    · simpa using h2 k o

theorem incr_len : ∀ {S : List Nat} {n : Nat}, incr S = true → (∀ i ∈ S, i < n) → S.length ≤ n := by
  have key : ∀ (S : List Nat) (m n : Nat), incr S = true → (∀ i ∈ S, m ≤ i ∧ i < n) → S.length + m ≤ n ∨ S = [] := by
    intro S
    induction S with
    | nil => intro m n _ _; exact .inr rfl
    | cons a S ih =>
      intro m n h hi
      simp only [incr, Bool.and_eq_true, List.all_eq_true, decide_eq_true_eq] at h
      have ha := hi a (List.mem_cons_self ..)
      left
      rcases ih (a + 1) n h.2 (fun i hm => ⟨h.1 i hm, (hi i (List.mem_cons_of_mem _ hm)).2⟩) with h1 | h1
      · simp only [List.length_cons]; omega
      · subst h1; simp; omega
  intro S n h hi
  rcases key S 0 n h (fun i hm => ⟨Nat.zero_le _, hi i hm⟩) with h1 | h1
  · omega
  · subst h1; simp
section
variable {P : Program} {r : RN} {Q : IPost} {a : IA} {σ : List IObj} {l : List Oper}
/-- The operations that are not done first, in whatever order is drawn. -/
def IGS (P : Program) (r : RN) (l : List Oper) (Q : IPost) (S : List Nat) (R : List IObj → Prop) : Nat → Array Bool → IA → List IObj → Prop
  | 0, L, a, σ => Region.ready .any l.toArray L = [] ∧ Q .normal a σ
  | n + 1, L, a, σ => Region.ready .any l.toArray L ≠ [] ∧ ∀ i ∈ Region.ready .any l.toArray L, ∃ o v σ1, l[i]? = some o ∧ S.contains i = false ∧ o.guard = none ∧ OpQ P r o (ev a) σ v σ1 ∧ ((S.all fun k => bef l l.length i k) = true ∨ R σ1) ∧ IGS P r l Q S R n (L.setIfInBounds i true) (a.put o.dst v) σ1
structure RELS (pre : List Oper) (S : List Nat) (a : IA) (D : DM) (ρ : List Slot) (L : Array Bool) (A : Act) : Prop where
  sz : a.tmps.length = A.tmps.size
  rel : ∀ (t : Nat) u v, a.tmps[t]? = some u → A.tmps[t]? = some v → (∀ (m i : Nat) o, S[m]? = some i → pre[m]? = some o → o.dst = some t → L.getD i false = true) → VR D ρ u v
  d : DR ρ a.defers A.defers
theorem RELS.ext {pre : List Oper} {S : List Nat} {D D' : DM} {ρ ρ' : List Slot} {L : Array Bool} {A : Act} (h : RELS pre S a D ρ L A) (x : Ext D ρ D' ρ') : RELS pre S a D' ρ' L A :=
  ⟨h.sz, fun t u v e e' k => (h.rel t u v e e' k).ext x, h.d.ext x⟩
theorem igs_main {S : List Nat} {a0 aq : IA} (hchk : schk l S = true) {W0 : Base} {D0 : DM} {ρ0 : List Slot} :
    ∀ (n nT : Nat) (L Lv : Array Bool) (aT : IA) (σ : List IObj) (D : DM) (ρ : List Slot) (w : World) (A : Act), n = cS L S + nT → L.size = l.length → Lv.size = l.length → (∀ i, i < l.length → Lv.getD i false = (L.getD i false || S.contains i)) →
      (∀ (i : Nat) o, l[i]? = some o → L.getD i false = true → ∀ d ∈ deps o, L.getD d false = true) → IGS P r l Q S (fun σ => IQ P r l σ (fun a' => a' = aq) (sub l S) a0) nT Lv aT σ →
      (IQ P r l σ (fun a' => a' = aq) (sub l S) a0 ∨ cS L S = 0) → aT.tmps.length = a0.tmps.length → aT.defers = a0.defers →
      (∀ (t i : Nat) o, i ∈ S → L.getD i false = false → l[i]? = some o → (t ∈ looks l o ∨ o.dst = some t) → aT.tmps[t]? = aq.tmps[t]?) → Ext D0 ρ0 D ρ → St W0 D ρ σ w → RELS (sub l S) S aT D ρ L A →
      wpAnyIn (Wd r) 0 P .any l.toArray (lift r.n W0 D0 ρ0 Q) n L A w := by
  obtain ⟨c0, c1, c2, c3, c4, c5⟩ := schk_spec hchk
  obtain ⟨hpl, hpg⟩ := sub_get (l := l) (S := S) c0
  have hdeps : ∀ (L : Array Bool) (o : Oper), (∀ e ∈ o.after, Region.binds .any e = true → L.getD e.on false = true) ↔ (∀ d ∈ deps o, L.getD d false = true) := by
    intro L o
    constructor
    · intro h d hd
      simp only [deps, List.mem_map, List.mem_filter] at hd
      obtain ⟨e, ⟨he, hb⟩, rfl⟩ := hd
      exact h e (by simpa using he) hb
    · intro h e he hb
      refine h e.on ?_
      simp only [deps, List.mem_map, List.mem_filter]
      exact ⟨e, ⟨by simpa using he, hb⟩, rfl⟩
  have hdt : ∀ (L : Array Bool) (i : Nat), i < L.size → L.getD i true = L.getD i false := fun L i hi => by simp [Array.getD, hi]
  intro n
  induction n with
  | zero =>
    intro nT L Lv aT σ D ρ w A hn hLs hvs hv hc hgame hR hal had hsp x hs hrel
    have hz : cS L S = 0 := by omega
    have hT : nT = 0 := by omega
    subst hT
    have hall := cS_zero hz
    have hLv : Lv = L := by
      apply Array.ext
      · omega
      · intro i h1 h2
        have e := hv i (by omega)
        have e1 : Lv.getD i false = Lv[i] := by simp [Array.getD, h1]
        have e2 : L.getD i false = L[i] := by simp [Array.getD, h2]
        rw [e1, e2] at e
        rw [e]
        by_cases hm : i ∈ S
        · have := hall i hm; rw [e2] at this; simp [this]
        · simp [hm]
    subst hLv
    exact ⟨hgame.1, D, ρ, aT, σ, (Ext.take0 _ _ _).trans x, hs, ⟨⟨by simpa using hrel.sz, fun t u v e e' => hrel.rel t u v e (by simpa using e') fun m i o hm _ _ => hall i (List.mem_of_getElem? hm)⟩, hrel.d⟩, hgame.2⟩
  | succ n ih =>
    intro nT L Lv aT σ D ρ w A hn hLs hvs hv hc hgame hR hal had hsp x hs hrel
    have hAget : ∀ (o : Oper) (val : Value) (t : Nat), o.dst ≠ some t → (A.put o.dst val).tmps[t]? = A.tmps[t]? := by
      intro o val t ht
      cases hdst : o.dst with
      | none => rfl
      | some dd => simp only [Act.put]; rw [Array.getElem?_setIfInBounds_ne (fun e => ht (by rw [hdst, e]))]
    have hAset : ∀ (o : Oper) (val v : Value) (t : Nat), o.dst = some t → (A.put o.dst val).tmps[t]? = some v → v = val := by
      intro o val v t hd e
      have htA : t < A.tmps.size := by
        have := (Array.getElem?_eq_some_iff.1 e).1
        rw [hd] at this
        simpa [Act.put] using this
      rw [hd] at e
      simp [Act.put, htA] at e
      exact e.symm
    have hAsz : ∀ (o : Oper) (val : Value), (A.put o.dst val).tmps.size = A.tmps.size ∧ (A.put o.dst val).defers = A.defers := by
      intro o val; cases o.dst <;> simp [Act.put]
    -- who is undone is ready at the least
    have hready : cS L S ≠ 0 → Region.ready .any l.toArray L ≠ [] := by
      intro hz h0
      obtain ⟨i1, hi1, hL1⟩ := cS_pos hz
      obtain ⟨i0, hi0, hL0, hlow⟩ := least_in hi1 hL1
      have hil := c0 i0 hi0
      have ho : l[i0]? = some l[i0] := List.getElem?_eq_getElem hil
      have : i0 ∈ Region.ready .any l.toArray L := by
        rw [mem_ready]
        refine ⟨by rw [hdt L i0 (by omega)]; exact hL0, l[i0], by simp [ho], (hdeps L _).2 fun d hd => ?_⟩
        obtain ⟨h1, h2⟩ := c4 i0 _ hi0 ho d hd
        exact hlow d h1 h2
      rw [h0] at this
      cases this
    have hsame : cS L S = 0 → Lv = L := by
      intro hz
      have hall := cS_zero hz
      apply Array.ext
      · omega
      · intro i h1 h2
        have e := hv i (by omega)
        have e1 : Lv.getD i false = Lv[i] := by simp [Array.getD, h1]
        have e2 : L.getD i false = L[i] := by simp [Array.getD, h2]
        rw [e1, e2] at e
        rw [e]
        by_cases hm : i ∈ S
        · have := hall i hm; rw [e2] at this; simp [this]
        · simp [hm]
    refine ⟨fun h0 => ?_, fun i hi => ?_⟩
    · exfalso
      by_cases hz : cS L S = 0
      · rw [hsame hz] at hgame
        cases nT with
        | zero => omega
        | succ nT => exact hgame.1 h0
      · exact hready hz h0
    · rw [mem_ready] at hi
      obtain ⟨hiL, o, ho', hda⟩ := hi
      have ho : l[i]? = some o := by simpa using ho'
      have hil : i < l.length := (List.getElem?_eq_some_iff.1 ho).1
      have hiS : i < L.size := by omega
      have hd := (hdeps L o).1 hda
      rw [hdt L i hiS] at hiL
      have hc' : ∀ (j : Nat) y, l[j]? = some y → (L.setIfInBounds i true).getD j false = true → ∀ d ∈ deps y, (L.setIfInBounds i true).getD d false = true := by
        intro j y hy hLj d hdm
        rw [getD_set_eq hiS] at hLj ⊢
        split
        · rfl
        · split at hLj
          · rename_i hji
            subst hji
            rw [ho] at hy
            cases hy
            exact hd d hdm
          · exact hc j y hy hLj d hdm
      by_cases hmem : i ∈ S
      · -- a quiet one
        have hRq : IQ P r l σ (fun a' => a' = aq) (sub l S) a0 := by
          rcases hR with h | h
          · exact h
          · have := cS_zero h i hmem; rw [hiL] at this; cases this
        obtain ⟨vals, hvl, hstep, hKp⟩ := hRq.vals
        obtain ⟨k, hk, hkS⟩ := mem_at hmem
        have hpk : (sub l S)[k]? = some o := (hpg k o).2 ⟨i, hkS, ho⟩
        have hvk : vals[k]? = some (vals[k]'(by omega)) := List.getElem?_eq_getElem (by omega)
        have hst := hstep k o _ hpk hvk
        have hqlen : aq.tmps.length = a0.tmps.length ∧ aq.defers = a0.defers := by
          have := pref_len (a := a0) (pre := sub l S) (vals := vals) (sub l S).length (Nat.le_refl _) hvl
          rw [List.take_of_length_le (Nat.le_refl _), List.take_of_length_le (by omega)] at this
          rw [← hKp]; exact this
        have huniq : ∀ (m m' : Nat) x y t, (sub l S)[m]? = some x → (sub l S)[m']? = some y → x.dst = some t → y.dst = some t → m = m' := by
          intro m m' x y t hx hy hxd hyd
          obtain ⟨j, hj, hjl⟩ := (hpg m x).1 hx
          obtain ⟨j', hj', hjl'⟩ := (hpg m' y).1 hy
          have e := c2 j j' x y t (List.mem_of_getElem? hj) hjl hjl' hxd hyd
          subst e
          rcases Nat.lt_trichotomy m m' with h | h | h
          · exact (incr_ne c1 hj hj' h).elim
          · exact h
          · exact (incr_ne c1 hj' hj h).elim
        -- the slots that it looks at
        have hlook : ∀ t ∈ looks l o, (pref ((sub l S).take k) (vals.take k) a0).tmps[t]? = aq.tmps[t]? := by
          intro t ht
          by_cases hw : ∃ (m : Nat) (y : Oper), (sub l S)[m]? = some y ∧ y.dst = some t
          · obtain ⟨m, y, hy, hyd⟩ := hw
            obtain ⟨j, hj, hjl⟩ := (hpg m y).1 hy
            obtain ⟨_, hlt, _⟩ := (c3 i j o y t hmem ho hjl ht hyd).resolve_right fun q => q.1 (List.mem_of_getElem? hj)
            have hmk := incr_lt c1 hj hkS hlt
            rcases Nat.lt_or_ge t a0.tmps.length with htl | htl
            · have hml : m < vals.length := by rw [hvl]; exact (List.getElem?_eq_some_iff.1 hy).1
              have hvm : vals[m]? = some vals[m] := List.getElem?_eq_getElem hml
              have hu : ∀ (q : Nat) z, (sub l S)[q]? = some z → z.dst = some t → q = m := fun q z hz hzd => huniq q m z y t hz hy hzd hyd
              have e1 := pref_new hy hvm hyd htl hu k hmk (by omega) hvl
              have e2 := pref_new hy hvm hyd htl hu (sub l S).length (List.getElem?_eq_some_iff.1 hy).1 (Nat.le_refl _) hvl
              rw [List.take_of_length_le (Nat.le_refl _), List.take_of_length_le (by omega), hKp] at e2
              rw [e1, e2]
            · rw [List.getElem?_eq_none (by rw [(pref_len k (by omega) hvl).1]; exact htl), List.getElem?_eq_none (by rw [hqlen.1]; exact htl)]
          · have hno : ∀ (q : Nat) z, (sub l S)[q]? = some z → z.dst ≠ some t := fun q z hz hzd => hw ⟨q, z, hz, hzd⟩
            have e1 := pref_old (a := a0) (t := t) (vals := vals) k (by omega) hvl fun q z _ hz => hno q z hz
            have e2 := pref_old (a := a0) (t := t) (vals := vals) (sub l S).length (Nat.le_refl _) hvl fun q z _ hz => hno q z hz
            rw [List.take_of_length_le (Nat.le_refl _), List.take_of_length_le (by omega), hKp] at e2
            rw [e1, e2]
        have hat : ∀ t ∈ looks l o, VR D ρ (ev (pref ((sub l S).take k) (vals.take k) a0) (.tmp t)) (A.eval (.tmp t)) := by
          intro t ht
          have e1 := (hlook t ht).trans (hsp t i o hmem hiL ho (.inl ht)).symm
          simp only [ev, Act.eval, List.getD_eq_getElem?_getD, e1]
          rcases Nat.lt_or_ge t aT.tmps.length with htl | htl
          · have htA : t < A.tmps.size := hrel.sz ▸ htl
            rw [List.getElem?_eq_getElem htl]
            refine hrel.rel t _ _ (List.getElem?_eq_getElem htl) (by simp [Array.getD, htA]) fun m j y hm hy hyd => ?_
            obtain ⟨j', hj', hjl⟩ := (hpg m y).1 hy
            rw [hm] at hj'
            cases hj'
            exact hd j ((c3 i j o y t hmem ho hjl ht hyd).resolve_right fun q => q.1 (List.mem_of_getElem? hm)).2.2
          · rw [List.getElem?_eq_none htl]
            exact .junk _
        have hops : ∀ y ∈ o.op.operands, VR D ρ (ev (pref ((sub l S).take k) (vals.take k) a0) y) (A.eval y) := by
          intro y hy
          by_cases ht : ∃ t, y = .tmp t
          · obtain ⟨t, rfl⟩ := ht
            refine hat t ?_
            simp only [looks, List.mem_append, List.mem_filterMap]
            exact .inl ⟨.tmp t, by simpa using hy, rfl⟩
          · exact VR.ev_other fun t e => ht ⟨t, e⟩
        have next : ∀ (D' : DM) (ρ' : List Slot) (w' : World) (val : Value), Ext D ρ D' ρ' → St W0 D' ρ' σ w' → VR D' ρ' (vals[k]'(by omega)) val →
            wpAnyIn (Wd r) 0 P .any l.toArray (lift r.n W0 D0 ρ0 Q) n (L.setIfInBounds i true) (A.put o.dst val) w' := by
          intro D' ρ' w' val x' s' hval
          refine ih nT (L.setIfInBounds i true) Lv aT σ D' ρ' w' _ ?_ (by simpa using hLs) hvs (fun j hj => ?_) hc' hgame (.inl hRq) hal had (fun t j y hjS hjL hjl ht => hsp t j y hjS (by rw [getD_set_eq hiS] at hjL; split at hjL; cases hjL; exact hjL) hjl ht) (x.trans x') s' ?_
          · have := cS_set hiS hiL c1 hmem
            omega
          · rw [hv j hj, getD_set_eq hiS]
            by_cases hji : j = i
            · subst hji; simp [hmem]
            · rw [if_neg hji]
          · have hr2 := hrel.ext x'
            refine ⟨by rw [(hAsz o val).1]; exact hr2.sz, fun t u v eu ev' hun => ?_, by rw [(hAsz o val).2]; exact hr2.d⟩
            by_cases hdt2 : o.dst = some t
            · have e1 := hAset o val v t hdt2 ev'
              subst e1
              have htl : t < a0.tmps.length := by rw [← hal]; exact (List.getElem?_eq_some_iff.1 eu).1
              have e2 := pref_new (a := a0) hpk hvk hdt2 htl (fun q z hz hzd => huniq q k z o t hz hpk hzd hdt2) (sub l S).length (List.getElem?_eq_some_iff.1 hpk).1 (Nat.le_refl _) hvl
              rw [List.take_of_length_le (Nat.le_refl _), List.take_of_length_le (by omega), hKp] at e2
              have e3 := hsp t i o hmem hiL ho (.inr hdt2)
              rw [eu, e2] at e3
              cases e3
              exact hval
            · rw [hAget o val t hdt2] at ev'
              refine hr2.rel t u v eu ev' fun m j y hm hy hyd => ?_
              have := hun m j y hm hy hyd
              rw [getD_set_eq hiS] at this
              split at this
              · rename_i hji
                subst hji
                obtain ⟨j', hj', hjl⟩ := (hpg m y).1 hy
                rw [hm] at hj'
                cases hj'
                rw [ho] at hjl
                cases hjl
                exact absurd hyd hdt2
              · exact this
        unfold wpOpIn
        rw [ho']
        simp only
        have yes : OpQ P r o (ev (pref ((sub l S).take k) (vals.take k) a0)) σ (vals[k]'(by omega)) σ → o.wpIn (Wd r) 0 P A w (wpAnyIn (Wd r) 0 P .any l.toArray (lift r.n W0 D0 ρ0 Q) n (L.setIfInBounds i true)) (lift r.n W0 D0 ρ0 Q) := by
          intro hq
          refine wpIn_weaken ?_ (fun _ _ _ hf => hf.elim) (hq W0 D ρ w A hs hops)
          rintro A' w' ⟨D', ρ', v', val, σ', rfl, x', s', hv, rfl, rfl⟩
          exact next D' ρ' w' val x' s' hv
        have no : (vals[k]'(by omega)) = .und → (∀ f, o.about P w A.eval = some f → (Wd r).fn f) ∧ wpAnyIn (Wd r) 0 P .any l.toArray (lift r.n W0 D0 ρ0 Q) n (L.setIfInBounds i true) (A.put o.dst undef) w :=
          fun hu => ⟨fun _ _ => trivial, next D ρ w undef (.refl _ _) hs (hu ▸ .und)⟩
        unfold Step1 at hst
        cases hg : o.guard with
        | none =>
          rw [hg] at hst
          rw [if_pos (by simp [Region.wanted, hg])]
          exact yes hst
        | some q =>
          obtain ⟨j, b⟩ := q
          rw [hg] at hst
          have hgd : ∀ g, gv l.toArray (pref ((sub l S).take k) (vals.take k) a0) j = g → (∀ b, g = .bool b → yielded l.toArray A.tmps j = some b) ∧ (g = .und → yielded l.toArray A.tmps j = none) := by
            intro g hgv
            cases hx : l[j]? with
            | none => subst hgv; simp [gv, hx]
            | some y =>
              cases hyd : y.dst with
              | none => subst hgv; simp [gv, hx, hyd]
              | some t =>
                have hmm : t ∈ looks l o := by
                  simp only [looks, List.mem_append, hg, hx, Option.bind_some, hyd, Option.toList_some, List.mem_singleton]
                  exact .inr trivial
                have := yield_of (ops := l.toArray) (a := pref ((sub l S).take k) (vals.take k) a0) (by simpa using hx) hyd (hat t hmm)
                subst hgv
                exact this
          rcases hst with ⟨h1, h2⟩ | ⟨h1, h2⟩
          · rw [if_pos (by simp [Region.wanted, hg, (hgd _ rfl).1 b h1])]
            exact yes h2
          · have hy : yielded l.toArray A.tmps j = some (!b) ∨ yielded l.toArray A.tmps j = none := h1.imp ((hgd _ rfl).1 _) (hgd _ rfl).2
            rw [if_neg (by simp only [Region.wanted, hg]; rcases hy with h | h <;> rw [h] <;> simp)]
            exact no h2
      · -- another one
        have hLvi : Lv.getD i false = false := by rw [hv i hil, hiL]; simp [hmem]
        have hrv : i ∈ Region.ready .any l.toArray Lv := by
          rw [mem_ready]
          refine ⟨by rw [hdt Lv i (by omega)]; exact hLvi, o, ho', (hdeps Lv o).2 fun d hdm => ?_⟩
          have h1 := hd d hdm
          rcases Nat.lt_or_ge d l.length with hdl | hdl
          · rw [hv d hdl, h1]; rfl
          · have : L.getD d false = false := by simp [Array.getD, show ¬ d < L.size by omega]
            rw [this] at h1; cases h1
        cases nT with
        | zero => rw [hgame.1] at hrv; cases hrv
        | succ nT =>
          obtain ⟨o2, v, σ1, e1, hnS, hg, hop, hwait, hrest⟩ := hgame.2 i hrv
          rw [ho] at e1
          cases e1
          have hops : ∀ y ∈ o.op.operands, VR D ρ (ev aT y) (A.eval y) := by
            intro y hy
            by_cases ht : ∃ t, y = .tmp t
            · obtain ⟨t, rfl⟩ := ht
              have htl : t ∈ looks l o := by
                simp only [looks, List.mem_append, List.mem_filterMap]
                exact .inl ⟨.tmp t, by simpa using hy, rfl⟩
              simp only [ev, Act.eval, List.getD_eq_getElem?_getD]
              rcases Nat.lt_or_ge t aT.tmps.length with h | h
              · have htA : t < A.tmps.size := hrel.sz ▸ h
                rw [List.getElem?_eq_getElem h]
                refine hrel.rel t _ _ (List.getElem?_eq_getElem h) (by simp [Array.getD, htA]) fun m j z hm hz hzd => ?_
                obtain ⟨j', hj', hjl⟩ := (hpg m z).1 hz
                rw [hm] at hj'
                cases hj'
                exact bef_closed hc l.length i j o ho hd (c5 i j o z t hmem (List.mem_of_getElem? hm) ho hjl htl hzd)
              · rw [List.getElem?_eq_none h]
                exact .junk _
            · exact VR.ev_other fun t e => ht ⟨t, e⟩
          unfold wpOpIn
          rw [ho']
          simp only
          rw [if_pos (by simp [Region.wanted, hg])]
          refine wpIn_weaken ?_ (fun _ _ _ hf => hf.elim) (hop W0 D ρ w A hs hops)
          rintro A' w' ⟨D', ρ', v', val, σ', rfl, x', s', hval, rfl, rfl⟩
          have hdst : ∀ (t j : Nat) y, j ∈ S → L.getD j false = false → l[j]? = some y → (t ∈ looks l y ∨ y.dst = some t) → o.dst ≠ some t := by
            intro t j y hjS hjL hjl ht hod
            rcases ht with ht | ht
            · rcases c3 j i y o t hjS hjl ho ht hod with q | q
              · exact hmem q.1
              · have := bef_closed hc l.length i j o ho hd q.2
                rw [hjL] at this
                cases this
            · exact hmem (c2 j i y o t hjS hjl ho ht hod ▸ hjS)
          refine ih nT (L.setIfInBounds i true) (Lv.setIfInBounds i true) _ σ' D' ρ' w' _ ?_ (by simpa using hLs) (by simpa using hvs) (fun j hj => ?_) hc' hrest ?_ (by rw [put_len]; exact hal) (by rw [put_defers]; exact had) (fun t j y hjS hjL' hjl ht => ?_) (x.trans x') s' ?_
          · rw [cS_other hiS hmem]; omega
          · rw [getD_set_eq (by omega), getD_set_eq hiS, hv j hj]
            by_cases hji : j = i <;> simp [hji]
          · rcases hwait with h | h
            · right
              rw [cS_other hiS hmem]
              cases hcz : cS L S with
              | zero => rfl
              | succ q =>
                obtain ⟨j, hjS, hjL⟩ := cS_pos (L := L) (S := S) (by omega)
                rw [List.all_eq_true] at h
                have := bef_closed hc l.length i j o ho hd (h j hjS)
                rw [hjL] at this
                cases this
            · exact .inl h
          · have hjL : L.getD j false = false := by rw [getD_set_eq hiS] at hjL'; split at hjL'; cases hjL'; exact hjL'
            rw [put_get (hdst t j y hjS hjL hjl ht)]
            exact hsp t j y hjS hjL hjl ht
          · have hr2 := hrel.ext x'
            refine ⟨by rw [put_len, (hAsz o val).1]; exact hr2.sz, fun t u v2 eu ev' hun => ?_, by rw [put_defers, (hAsz o val).2]; exact hr2.d⟩
            by_cases hdt2 : o.dst = some t
            · have e1 := hAset o val v2 t hdt2 ev'
              subst e1
              have htl : t < aT.tmps.length := by rw [← put_len]; exact (List.getElem?_eq_some_iff.1 eu).1
              rw [hdt2] at eu
              simp only [IA.put] at eu
              rw [List.getElem?_set_self htl] at eu
              cases eu
              exact hval
            · rw [hAget o val t hdt2] at ev'
              rw [put_get hdt2] at eu
              refine hr2.rel t u v2 eu ev' fun m j y hm hy hyd => ?_
              have := hun m j y hm hy hyd
              rw [getD_set_eq hiS] at this
              split at this
              · rename_i hji
                subst hji
                exact absurd (List.mem_of_getElem? hm) hmem
              · exact this
theorem IQ.split {K : IA → Prop} : ∀ {pre : List Oper} {a : IA}, IQ P r l σ K pre a → ∃ aq, IQ P r l σ (fun a' => a' = aq) pre a ∧ K aq
  | [], a, h => ⟨a, rfl, h⟩
  | o :: rest, a, h => by
    unfold IQ at h
    cases hg : o.guard with
    | none =>
      rw [hg] at h
      obtain ⟨v, h1, h2⟩ := h
      obtain ⟨aq, h3, h4⟩ := h2.split
      exact ⟨aq, by unfold IQ; rw [hg]; exact ⟨v, h1, h3⟩, h4⟩
    | some q =>
      obtain ⟨j, b⟩ := q
      rw [hg] at h
      rcases h with ⟨h0, v, h1, h2⟩ | ⟨h0, h2⟩
      · obtain ⟨aq, h3, h4⟩ := h2.split
        exact ⟨aq, by unfold IQ; rw [hg]; exact .inl ⟨h0, v, h1, h3⟩, h4⟩
      · obtain ⟨aq, h3, h4⟩ := h2.split
        exact ⟨aq, by unfold IQ; rw [hg]; exact .inr ⟨h0, h3⟩, h4⟩
/-- A region that draws: S first, in the text's order; the others as they come. -/
theorem ic_draws {id : Nat} (S : List Nat) {pre : List Oper} (hm : P.follows .mixedOrders = true) (hchk : schk l S = true) (hpre : sub l S = pre)
    (hh : IQ P r l σ (fun aq => IGS P r l Q S (fun σ => IQ P r l σ (fun a' => a' = aq) pre a) (l.length - S.length) ((List.range l.length).map (S.contains ·)).toArray aq σ) pre a) : IC P r (.region id l.toArray true) Q a σ := by
  obtain ⟨aq, h, k⟩ := hh.split
  subst hpre
  refine ic_draw hm fun W0 D ρ w A hs hf => ?_
  obtain ⟨c0, c1, c2, c3, c4, c5⟩ := schk_spec hchk
  obtain ⟨vals, hvl, hstep, hKp⟩ := h.vals
  have hq : aq.tmps.length = a.tmps.length ∧ aq.defers = a.defers := by
    have := pref_len (a := a) (pre := sub l S) (vals := vals) (sub l S).length (Nat.le_refl _) hvl
    rw [List.take_of_length_le (Nat.le_refl _), List.take_of_length_le (by omega)] at this
    rw [← hKp]; exact this
  obtain ⟨hpl, hpg⟩ := sub_get (l := l) (S := S) c0
  have hcs : ∀ T : List Nat, cS (Array.replicate l.length false) T = T.length := by
    intro T
    induction T with
    | nil => rfl
    | cons t T ih => simp [cS, Array.getD, ih]; omega
  have hle : S.length ≤ l.length := incr_len c1 c0
  have hfalse : ∀ i, (Array.replicate l.length false).getD i false = false := fun i => by simp [Array.getD]
  refine igs_main (a0 := a) (aq := aq) hchk l.length (l.length - S.length) (Array.replicate l.length false) _ aq σ D ρ w A (by rw [hcs]; omega) (by simp) (by simp) (fun i hi => ?_) (fun i o ho hL => by rw [hfalse] at hL; cases hL) k (.inl h) hq.1 hq.2 (fun _ _ _ _ _ _ _ => rfl) (.refl _ _) hs ⟨by rw [hq.1]; simpa using hf.t.1, fun t u v eu ev' hun => ?_, by rw [hq.2]; exact hf.d⟩
  · simp [Array.getD, hi]
  · have hno : ∀ (q : Nat) z, (sub l S)[q]? = some z → z.dst ≠ some t := by
      intro q z hz hzd
      obtain ⟨i, hi, _⟩ := (hpg q z).1 hz
      have := hun q i z hi hz hzd
      rw [hfalse] at this
      cases this
    have e2 := pref_old (a := a) (t := t) (vals := vals) (sub l S).length (Nat.le_refl _) hvl fun q z _ hz => hno q z hz
    rw [List.take_of_length_le (Nat.le_refl _), List.take_of_length_le (by omega), hKp, eu] at e2
    exact hf.t.2 t u v e2.symm (by simpa using ev')
theorem igs_one {S : List Nat} {R : List IObj → Prop} {n : Nat} {L : Array Bool} {o : Oper} {v : IV} {σ1 σ' : List IObj} {a' : IA} (i : Nat) (hr : Region.ready .any l.toArray L = [i]) (ho : l[i]? = some o) (hS : S.contains i = false) (hg : o.guard = none) (h : OpQ P r o (ev a) σ v σ1) (ha : a.put o.dst v = a') (hs : σ1 = σ')
    (hw : (S.all fun k => bef l l.length i k) = true ∨ R σ') (k : IGS P r l Q S R n (L.setIfInBounds i true) a' σ') : IGS P r l Q S R (n + 1) L a σ := by
  subst ha; subst hs
  exact ⟨by rw [hr]; simp, fun j hj => by
    rw [hr, List.mem_singleton] at hj
    subst hj
    exact ⟨o, v, σ1, ho, hS, hg, h, hw, k⟩⟩
theorem s_op {S : List Nat} {R : List IObj → Prop} {n : Nat} {L : Array Bool} {o : Oper} {v : IV} {σ1 σ' : List IObj} {a' : IA} (i : Nat) (k : IGS P r l Q S R n (L.setIfInBounds i true) a' σ') (hr : Region.ready .any l.toArray L = [i] := by kernel_rfl) (ho : l[i]? = some o := by rfl) (hS : S.contains i = false := by rfl) (hg : o.guard = none := by rfl)
    (h : OpQ P r o (ev a) σ v σ1 := by exact x_ops) (ha : a.put o.dst v = a' := by exact x_nf) (hs : σ1 = σ' := by exact x_nf) (hw : (S.all fun k => bef l l.length i k) = true ∨ R σ' := by exact .inl rfl) : IGS P r l Q S R (n + 1) L a σ := igs_one i hr ho hS hg h ha hs hw k
/-- .. that does not wait for all of the first ones: these do the same behind it. -/
theorem s_opr {S : List Nat} {R : List IObj → Prop} {n : Nat} {L : Array Bool} {o : Oper} {v : IV} {σ1 σ' : List IObj} {a' : IA} (i : Nat) (hR : R σ') (k : IGS P r l Q S R n (L.setIfInBounds i true) a' σ') (hr : Region.ready .any l.toArray L = [i] := by kernel_rfl) (ho : l[i]? = some o := by rfl) (hS : S.contains i = false := by rfl) (hg : o.guard = none := by rfl)
    (h : OpQ P r o (ev a) σ v σ1 := by exact x_ops) (ha : a.put o.dst v = a' := by exact x_nf) (hs : σ1 = σ' := by exact x_nf) : IGS P r l Q S R (n + 1) L a σ := igs_one i hr ho hS hg h ha hs (.inr hR) k
theorem s_cv {S : List Nat} {R : List IObj → Prop} {n : Nat} {L : Array Bool} {o : Oper} {a' : IA} {f : FuncId} {g : Operand} {args : Array Operand} {tys : Array TypeId} {fs cs asx asx' : List IV} {u : IV} (i : Nat) (hc : ICalls P f asx [] (fun u' _ => u' = u)) (k : IGS P r l Q S R n (L.setIfInBounds i true) a' σ) [hF : FunC P f]
    (hr : Region.ready .any l.toArray L = [i] := by kernel_rfl) (ho : l[i]? = some o := by rfl) (hS : S.contains i = false := by rfl) (hg : o.guard = none := by rfl) (hop : o.op = .call { callee := .value g, args := args, argTypes := tys } := by rfl)
    (he : ev a g = .fn (.func f) fs cs := by rfl) (has : fs ++ args.toList.map (ev a) ++ cs = asx' := by exact x_nf) (hw : Wks asx' asx := by exact x_wks) (hd : ∀ x ∈ asx, Dat x := by exact x_dats) (hu : Dat u := by exact x_dat) (ha : a.put o.dst u = a' := by exact x_nf) (hwt : (S.all fun k => bef l l.length i k) = true ∨ R σ := by exact .inl rfl) : IGS P r l Q S R (n + 1) L a σ := by
  subst has
  exact igs_one i hr ho hS hg (op_call hop he hF.h ((hc.frame1 hd hu σ).wks hw)) ha rfl hwt k
theorem s_cvr {S : List Nat} {R : List IObj → Prop} {n : Nat} {L : Array Bool} {o : Oper} {a' : IA} {f : FuncId} {g : Operand} {args : Array Operand} {tys : Array TypeId} {fs cs asx asx' : List IV} {u : IV} (i : Nat) (hc : ICalls P f asx [] (fun u' _ => u' = u)) (hR : R σ) (k : IGS P r l Q S R n (L.setIfInBounds i true) a' σ) [hF : FunC P f]
    (hr : Region.ready .any l.toArray L = [i] := by kernel_rfl) (ho : l[i]? = some o := by rfl) (hS : S.contains i = false := by rfl) (hg : o.guard = none := by rfl) (hop : o.op = .call { callee := .value g, args := args, argTypes := tys } := by rfl)
    (he : ev a g = .fn (.func f) fs cs := by rfl) (has : fs ++ args.toList.map (ev a) ++ cs = asx' := by exact x_nf) (hw : Wks asx' asx := by exact x_wks) (hd : ∀ x ∈ asx, Dat x := by exact x_dats) (hu : Dat u := by exact x_dat) (ha : a.put o.dst u = a' := by exact x_nf) : IGS P r l Q S R (n + 1) L a σ := by
  subst has
  exact igs_one i hr ho hS hg (op_call hop he hF.h ((hc.frame1 hd hu σ).wks hw)) ha rfl (.inr hR) k
theorem s_done {S : List Nat} {R : List IObj → Prop} {L : Array Bool} (h : Q .normal a σ) (hr : Region.ready .any l.toArray L = [] := by kernel_rfl) : IGS P r l Q S R 0 L a σ := ⟨hr, h⟩
theorem igs_done {S : List Nat} {R : List IObj → Prop} {L : Array Bool} (hr : Region.ready .any l.toArray L = []) (h : Q .normal a σ) : IGS P r l Q S R 0 L a σ := ⟨hr, h⟩
end
end Go.QL
end

section
/- QL, part w: a row that is done, wherever it stands. Plain; no program in sight. -/
set_option linter.unusedVariables false
set_option linter.unusedSimpArgs false
namespace Go.QL
open Go Go.RowKit

def fr1 (k n : Nat) (xs : List IV) : IV → IV
  | .row j m => if j = k ∧ m = n then .sl false xs else .row j m
  | u => u
def fr (k n : Nat) (xs : List IV) : IV → IV
  | .agg ys => .agg (ys.map (fr1 k n xs))
  | u => fr1 k n xs u
def fro (k n : Nat) (xs : List IV) : IObj → IObj
  | .box T cs => .box T (cs.map (fr1 k n xs))
  | .row E sz ys => .row E sz (ys.map (fr k n xs))
  | o => o
theorem fr1_vr {k : Nat} {xs : List IV} {D D' : DM} {ρ ρ' : List Slot} (x : Ext D ρ D' ρ') (h : ∀ v, VR D ρ (.row k xs.length) v → VR D' ρ' (.sl false xs) v) {u : IV} {v : Value} (hv : VR D ρ u v) : VR D' ρ' (fr1 k xs.length xs u) v := by
  cases u with
  | row j m =>
    simp only [fr1]
    split
    · rename_i hj
      obtain ⟨rfl, rfl⟩ := hj
      exact h v hv
    · exact hv.ext x
  | _ => exact hv.ext x
theorem fr_vr {k : Nat} {xs : List IV} {D D' : DM} {ρ ρ' : List Slot} (x : Ext D ρ D' ρ') (h : ∀ v, VR D ρ (.row k xs.length) v → VR D' ρ' (.sl false xs) v) {u : IV} {v : Value} (hv : VR D ρ u v) : VR D' ρ' (fr k xs.length xs u) v := by
  cases u with
  | agg ys =>
    cases hv with
    | agg _ vs hl hv =>
      refine .agg _ _ (by simp [hl]) fun i u v e e' => ?_
      rw [List.getElem?_map, Option.map_eq_some_iff] at e
      obtain ⟨y, hy, rfl⟩ := e
      exact fr1_vr x h (hv i y v hy e')
  | row j m => exact fr1_vr x h hv
  | _ => exact hv.ext x
theorem Rel2.fr1 {k : Nat} {xs : List IV} {D D' : DM} {ρ ρ' : List Slot} (x : Ext D ρ D' ρ') (h : ∀ v, VR D ρ (.row k xs.length) v → VR D' ρ' (.sl false xs) v) {us : List IV} {vs : List Value} (hr : Rel2 D ρ us vs) : Rel2 D' ρ' (us.map (QL.fr1 k xs.length xs)) vs :=
  ⟨by simp [hr.1], fun i u v e e' => by
    rw [List.getElem?_map, Option.map_eq_some_iff] at e
    obtain ⟨y, hy, rfl⟩ := e
    exact fr1_vr x h (hr.2 i y v hy e')⟩
theorem Rel2.fr {k : Nat} {xs : List IV} {D D' : DM} {ρ ρ' : List Slot} (x : Ext D ρ D' ρ') (h : ∀ v, VR D ρ (.row k xs.length) v → VR D' ρ' (.sl false xs) v) {us : List IV} {vs : List Value} (hr : Rel2 D ρ us vs) : Rel2 D' ρ' (us.map (QL.fr k xs.length xs)) vs :=
  ⟨by simp [hr.1], fun i u v e e' => by
    rw [List.getElem?_map, Option.map_eq_some_iff] at e
    obtain ⟨y, hy, rfl⟩ := e
    exact fr_vr x h (hr.2 i y v hy e')⟩
theorem flat_fr (k n : Nat) (xs : List IV) (u : IV) : flat (fr k n xs u) = (flat u).map (fr1 k n xs) := by
  cases u with
  | row j m =>
    simp only [fr, fr1, show flat (.row j m) = [.row j m] from rfl, List.map_cons, List.map_nil]
    by_cases h : j = k ∧ m = n
    · rw [if_pos h]; rfl
    · rw [if_neg h]; rfl
  | _ => rfl
theorem flats_fr (k n : Nat) (xs ys : List IV) : flats (ys.map (fr k n xs)) = (flats ys).map (fr1 k n xs) := by
  induction ys with
  | nil => rfl
  | cons y ys ih => simp only [flats, List.map_cons, List.flatMap_cons, List.map_append] at ih ⊢; rw [ih, flat_fr]
theorem St.frow {W0 : Base} {D : DM} {ρ : List Slot} {σ : List IObj} {w : World} (h : St W0 D ρ σ w) {k : Nat} {E sz : Nat} {xs : List IV} (hk : σ[k]? = some (.row E sz xs)) :
    ∃ D', St W0 D' (ρ.set k .gone) ((σ.set k .gone).map (fro k xs.length xs)) w ∧ Ext D ρ D' (ρ.set k .gone) ∧ ∀ v, VR D ρ (.row k xs.length) v → VR D' (ρ.set k .gone) (.sl false xs) v := by
  obtain ⟨D', h1, h2, h3⟩ := h.freeze hk
  refine ⟨D', ⟨h1.below, h1.dc, h1.dn, by rw [h1.len]; simp, fun j s o e e' => ?_, h1.own, h1.inj⟩, h2, h3⟩
  rw [List.getElem?_map, Option.map_eq_some_iff] at e'
  obtain ⟨o0, ho, rfl⟩ := e'
  have hnew := h1.ok j s o0 e ho
  by_cases hj : j = k
  · subst hj
    rw [List.getElem?_set_self (List.getElem?_eq_some_iff.1 hk).1] at ho
    cases ho
    exact hnew
  · rw [List.getElem?_set_ne (Ne.symm hj)] at e ho
    have hold := h.ok j s o0 e ho
    cases o0 with
    | box T cs =>
      cases s with
      | box b => obtain ⟨vs, a1, a2⟩ := hold; exact ⟨vs, a1, a2.fr1 h2 h3⟩
      | row => exact hold.elim
      | fix => exact hold.elim
      | gone => exact hold.elim
    | row E2 sz2 ys =>
      cases s with
      | row v n =>
        obtain ⟨a1, a2, a3, vs, a4, a5⟩ := hold
        refine ⟨by simpa using a1, fun y hy => ?_, a3, vs, a4, by rw [flats_fr]; exact a5.fr1 h2 h3⟩
        obtain ⟨z, hz, rfl⟩ := List.mem_map.1 hy
        rw [flat_fr, List.length_map]
        exact a2 z hz
      | box => exact hold.elim
      | fix => exact hold.elim
      | gone => exact hold.elim
    | _ => exact hnew
theorem map_id_of {α : Type} {f : α → IV} {g : IV → IV} (h : ∀ x, g (f x) = f x) (l : List α) : (l.map f).map g = l.map f := by
  rw [List.map_map]; exact List.map_congr_left fun x _ => h x
theorem fr_eN (k n : Nat) (xs : List IV) (x : Nd) : fr k n xs (eN x) = eN x := by rw [eN_eq]; rfl
theorem frn {k n : Nat} {xs : List IV} : (∀ (k0 : IntKind) (n0 : Int), fr k n xs (IV.int k0 n0) = IV.int k0 n0) ∧ (∀ (k0 : IntKind) (n0 : Int), fr1 k n xs (IV.int k0 n0) = IV.int k0 n0) ∧ (∀ (b : Bool), fr k n xs (IV.bool b) = IV.bool b) ∧ (∀ (b : Bool), fr1 k n xs (IV.bool b) = IV.bool b) ∧ (∀ (s : ByteArray), fr k n xs (IV.str s) = IV.str s) ∧ (∀ (s : ByteArray), fr1 k n xs (IV.str s) = IV.str s) ∧ (fr k n xs (IV.nils) = IV.nils) ∧ (fr1 k n xs (IV.nils) = IV.nils) ∧ (∀ (f : Bool) (ys : List IV), fr k n xs (IV.sl f ys) = IV.sl f ys) ∧ (∀ (f : Bool) (ys : List IV), fr1 k n xs (IV.sl f ys) = IV.sl f ys) ∧ (∀ (j o : Nat), fr k n xs (IV.ptr j o) = IV.ptr j o) ∧ (∀ (j o : Nat), fr1 k n xs (IV.ptr j o) = IV.ptr j o) ∧ (∀ (j m o : Nat), fr k n xs (IV.eptr j m o) = IV.eptr j m o) ∧ (∀ (j m o : Nat), fr1 k n xs (IV.eptr j m o) = IV.eptr j m o) ∧ (∀ (ys : List IV), fr k n xs (IV.dptr ys) = IV.dptr ys) ∧ (∀ (ys : List IV), fr1 k n xs (IV.dptr ys) = IV.dptr ys) ∧ (fr k n xs (IV.nilp) = IV.nilp) ∧ (fr1 k n xs (IV.nilp) = IV.nilp) ∧ (∀ (ys : List IV), fr k n xs (IV.tup ys) = IV.tup ys) ∧ (∀ (ys : List IV), fr1 k n xs (IV.tup ys) = IV.tup ys) ∧ (∀ (f0 : Fn) (ys zs : List IV), fr k n xs (IV.fn f0 ys zs) = IV.fn f0 ys zs) ∧ (∀ (f0 : Fn) (ys zs : List IV), fr1 k n xs (IV.fn f0 ys zs) = IV.fn f0 ys zs) ∧ (fr k n xs (IV.nilf) = IV.nilf) ∧ (fr1 k n xs (IV.nilf) = IV.nilf) ∧ (∀ (j : Nat), fr k n xs (IV.yf j) = IV.yf j) ∧ (∀ (j : Nat), fr1 k n xs (IV.yf j) = IV.yf j) ∧ (fr k n xs (IV.und) = IV.und) ∧ (fr1 k n xs (IV.und) = IV.und) ∧ (fr k n xs (IV.junk) = IV.junk) ∧ (fr1 k n xs (IV.junk) = IV.junk) ∧ (∀ j m, fr k n xs (.row j m) = if j = k ∧ m = n then .sl false xs else .row j m) ∧ (∀ j m, fr1 k n xs (.row j m) = if j = k ∧ m = n then .sl false xs else .row j m) ∧ (∀ ys, fr k n xs (.agg ys) = .agg (ys.map (fr1 k n xs))) ∧ (∀ x : List Nd, fr k n xs (eNs x) = eNs x) ∧ (∀ x : List Nd, fr1 k n xs (eNs x) = eNs x) ∧ (∀ x : List At, fr k n xs (eAs x) = eAs x) ∧ (∀ x : List At, fr1 k n xs (eAs x) = eAs x) ∧ (∀ x : List Cel, fr k n xs (eCs x) = eCs x) ∧ (∀ x : List Cel, fr1 k n xs (eCs x) = eCs x) ∧ (∀ x : List Int, fr k n xs (eIs x) = eIs x) ∧ (∀ x : List Int, fr1 k n xs (eIs x) = eIs x) ∧ (∀ x : List Lin, fr k n xs (eLs x) = eLs x) ∧ (∀ x : List Lin, fr1 k n xs (eLs x) = eLs x) ∧ (∀ x : List Int, fr k n xs (eRs x) = eRs x) ∧ (∀ x : List Int, fr1 k n xs (eRs x) = eRs x) ∧ (∀ x : Int, fr k n xs (eI x) = eI x) ∧ (∀ x : Int, fr1 k n xs (eI x) = eI x) ∧ (∀ x : Int, fr k n xs (eR x) = eR x) ∧ (∀ x : Int, fr1 k n xs (eR x) = eR x) ∧ (∀ x : Nd, fr k n xs (eN x) = eN x) ∧ (∀ x : Cel, fr k n xs (eC x) = eC x) ∧ (∀ x : Lin, fr k n xs (eL x) = eL x) ∧ (∀ x : At, fr k n xs (eA x) = eA x) ∧ (∀ x : Pnt, fr k n xs (ePt x) = ePt x) ∧ (∀ x : Pos, fr k n xs (eP x) = eP x) ∧ (∀ l : List Nd, (l.map eN).map (fr k n xs) = l.map eN) ∧ (∀ l : List Cel, (l.map eC).map (fr k n xs) = l.map eC) ∧ (∀ l : List Lin, (l.map eL).map (fr k n xs) = l.map eL) ∧ (∀ l : List At, (l.map eA).map (fr k n xs) = l.map eA) ∧ (∀ l : List Pnt, (l.map ePt).map (fr k n xs) = l.map ePt) ∧ (∀ l : List Pos, (l.map eP).map (fr k n xs) = l.map eP) ∧ (∀ l : List Int, (l.map eI).map (fr k n xs) = l.map eI) ∧ (∀ l : List Int, (l.map eR).map (fr k n xs) = l.map eR) ∧ (∀ T cs, fro k n xs (.box T cs) = .box T (cs.map (fr1 k n xs))) ∧ (∀ E sz ys, fro k n xs (.row E sz ys) = .row E sz (ys.map (fr k n xs))) ∧ (∀ o, fro k n xs (.obj o) = .obj o) ∧ (fro k n xs .gone = .gone) := by
  refine ⟨?_, ?_, ?_, ?_, ?_, ?_, ?_, ?_, ?_, ?_, ?_, ?_, ?_, ?_, ?_, ?_, ?_, ?_, ?_, ?_, ?_, ?_, ?_, ?_, ?_, ?_, ?_, ?_, ?_, ?_, ?_, ?_, ?_, ?_, ?_, ?_, ?_, ?_, ?_, ?_, ?_, ?_, ?_, ?_, ?_, ?_, ?_, ?_, ?_, ?_, ?_, ?_, ?_, ?_, ?_, ?_, ?_, ?_, ?_, ?_, ?_, ?_, ?_, ?_, ?_, ?_, ?_⟩ <;> first | rfl | (intros; rfl) | (intro x; exact fr_eN _ _ _ x) | exact map_id_of (fr_eN _ _ _) | exact map_id_of (fun _ => rfl)
section
variable {P : Program} {r : RN} {Q : IPost} {σ σ' : List IObj}
theorem x_fr.{u} {α : Sort u} {x y : α} (h : x = y := by simp only [List.map_cons, List.map_nil, List.set_cons_zero, List.set_cons_succ, frn, and_self, true_and, false_and, if_true, if_false, reduceIte, Nat.reduceEqDiff, Nat.succ_ne_zero, eq_self, List.length_map, nf] <;> rfl) : x = y := h
/-- A row is done, wherever it stands. -/
theorem ic_frow {c : Code} {t t' : List IV} {ds : List IDef} (k : Nat) {E sz : Nat} {xs : List IV} (h : IC P r c Q ⟨t', ds⟩ σ') (hk : σ[k]? = some (.row E sz xs) := by rfl) (ht : t.map (fr k xs.length xs) = t' := by exact x_fr) (hσ : (σ.set k .gone).map (fro k xs.length xs) = σ' := by exact x_fr) : IC P r c Q ⟨t, ds⟩ σ := by
  subst ht; subst hσ
  intro W0 D ρ w A hs hf
  obtain ⟨D', h1, h2, h3⟩ := hs.frow hk
  exact wpIn_mono (h W0 D' _ w A h1 ⟨hf.t.fr h2 h3, hf.d.ext h2⟩) fun e A w q => lift_ext h2 q
theorem il_frow {ops : Array Oper} {rest : List Oper} {t t' : List IV} {ds : List IDef} (k : Nat) {E sz : Nat} {xs : List IV} (h : IL P r ops Q rest ⟨t', ds⟩ σ') (hk : σ[k]? = some (.row E sz xs) := by rfl) (ht : t.map (fr k xs.length xs) = t' := by exact x_fr) (hσ : (σ.set k .gone).map (fro k xs.length xs) = σ' := by exact x_fr) : IL P r ops Q rest ⟨t, ds⟩ σ := by
  subst ht; subst hσ
  intro W0 D ρ w A hs hf
  obtain ⟨D', h1, h2, h3⟩ := hs.frow hk
  exact il_op.wpListIn_lift (fun e A w q => lift_ext h2 q) (h W0 D' _ w A h1 ⟨hf.t.fr h2 h3, hf.d.ext h2⟩)
theorem wk_eq {u v : IV} (h : u = v) : Wk u v := h ▸ Wk.refl u
theorem x_wksb {xs ys : List IV} (h : Wks xs ys := by repeat (first | exact Wks.nil | refine Wks.cons (by with_reducible exact Wk.refl _) ?_ | refine Wks.cons (by with_reducible exact Wk.junk _) ?_ | refine Wks.cons (Wk.nils _) ?_ | refine Wks.cons (Wk.sl _ _) ?_ | refine Wks.cons (wk_eq (by simp only [*, Bool.not_true, Bool.not_false, Bool.true_and, Bool.false_and, Bool.and_true, Bool.and_false, Bool.true_or, Bool.false_or, Bool.or_true, Bool.or_false, Bool.false_eq_true, if_true, if_false])) ?_ | refine Wks.cons (wk_eq (by simp [*])) ?_ | refine Wks.cons (Wk.refl _) ?_)) : Wks xs ys := h
/-- Where ways meet that have turned some Bools. -/
theorem x_there {τ : List IObj} {t1 : List IV} {ks : List Nat} {V : List IV} {S : List IObj} {ds : List IDef} {t t2 : List IV} (h2 : sets t1 ks V = t2 := by exact x_sets) (hw : Wks t t2 := by exact x_wksb) (hs : OWks σ (S ++ τ) := by exact x_ows) (hn : r.n ≤ S.length := by first | exact Nat.zero_le _ | exact x_le)
    (ht : ∀ x ∈ t2, Lt S.length x := by exact x_lts) (hm : Marks S.length ds := by exact marks_x) (ho : OLts S.length S := by exact x_olts) : Loose2 r (Slots t1 ks (fun vs σ => vs = V ∧ σ = S)) ds ⟨t, ds⟩ σ := by
  subst h2
  exact ⟨_, hs, loose_mk hw rfl hn ht hm ho ⟨V, rfl, rfl, rfl⟩⟩
theorem x_ret1v {a : IA} {fn : Func} {x : ResultVar} {u u1 V : IV} (hr : fn.results = #[x]) (hv : RV P a σ x u1 := by exact x_rv) (hu : u1 = u := by exact x_nf) (he : u = V := by simp [*]) (hd : a.defers = [] := by rfl) : IRet P fn (fun u _ => u = V) .ret a σ := x_res1 hr he hv hu (Wk.refl _) hd
structure NotLit (t : Bool) : Prop where
theorem notlit_t : NotLit true := ⟨⟩
theorem notlit_f : NotLit false := ⟨⟩
theorem x_notlit {t : Bool} (h : NotLit t := by (fail_if_success (with_reducible exact notlit_t)); (fail_if_success (with_reducible exact notlit_f)); exact ⟨⟩) : NotLit t := h
theorem il_split {ops : Array Oper} {o : Oper} {rest : List Oper} {a a1 a2 : IA} {j d : Nat} {b t : Bool} (k1 : t = true → IL P r ops Q (o :: rest) a1 σ) (k2 : t = false → IL P r ops Q (o :: rest) a2 σ) (hg : o.guard = some (j, b) := by rfl) (hj : (ops[j]?).bind (·.dst) = some d := by rfl)
    (hb : a.tmps.getD d .junk = .bool t := by rfl) (hl : NotLit t := by exact x_notlit) (h1 : a.put (some d) (.bool true) = a1 := by exact x_nf) (h2 : a.put (some d) (.bool false) = a2 := by exact x_nf) : IL P r ops Q (o :: rest) a σ := by
  have key : ∀ u : Bool, t = u → a.put (some d) (.bool u) = a := by
    intro u hu
    subst hu
    have hl : d < a.tmps.length := by
      rcases Nat.lt_or_ge d a.tmps.length with h | h
      · exact h
      · rw [List.getD_eq_getElem?_getD, List.getElem?_eq_none h] at hb; cases hb
    have : a.tmps.set d (.bool t) = a.tmps := by
      apply List.ext_getElem?
      intro i
      by_cases hi : d = i
      · subst hi
        rw [List.getElem?_set_self hl, ← hb, List.getD_eq_getElem?_getD, List.getElem?_eq_getElem hl]; rfl
      · rw [List.getElem?_set_ne hi]
    simp only [IA.put, this]
  cases ht : t with
  | true => rw [key true ht] at h1; subst h1; exact k1 ht
  | false => rw [key false ht] at h2; subst h2; exact k2 ht
end
end Go.QL
end

section
/- QL, part x: what tells whether a document may be, as plain functions. No program in sight. -/
set_option linter.unusedVariables false
set_option linter.unusedSimpArgs false
namespace Go.QL
open Go Go.RowKit

def vrune (c : Int) : Bool := (decide (0 ≤ c) && decide (c < 55296)) || (decide (57343 < c) && decide (c ≤ 1114111))
/-- The class of a character. -/
def cls (c : Int) : Int :=
  if vrune c = false then 0
  else if c < 32 ∨ c = 127 then 1
  else if c = 32 ∨ c = 160 then 2
  else if c = 65533 then 5
  else if (97 ≤ c ∧ c ≤ 122) ∨ (65 ≤ c ∧ c ≤ 90) ∨ 128 ≤ c then 3
  else if 48 ≤ c ∧ c ≤ 57 then 4
  else 5
theorem cls_is {c : Int} (hv : vrune c = true) : cls c = if c < 32 ∨ c = 127 then 1 else if c = 32 ∨ c = 160 then 2 else if c = 65533 then 5 else if (97 ≤ c ∧ c ≤ 122) ∨ (65 ≤ c ∧ c ≤ 90) ∨ 128 ≤ c then 3 else if 48 ≤ c ∧ c ≤ 57 then 4 else 5 := by
  unfold cls; rw [if_neg (by simp [hv])]
def charMay (c : Int) : Bool := decide (1 < cls c)
def linkMay (T : Str → Bool) (h : Str) : Bool := decide (h = ⟨#[]⟩) || T h
def celNot (T : Str → Bool) (c : Cel) : Bool := (((!charMay c.r && !decide (c.r = 10)) || decide (c.bits < 0)) || decide (15 < c.bits)) || !linkMay T c.href
def celMay (T : Str → Bool) (c : Cel) : Bool := !celNot T c
def lin1 (l : Lin) : Bool := (((decide (l.quote < 0) || decide (6 < l.quote)) || decide (6 < (l.lists.length : Int))) || decide (l.kind < 0)) || decide (3 < l.kind)
def lin2 (l : Lin) : Bool := decide (0 < (l.lists.length : Int)) && !decide (l.kind = 0)
def lstNot (k : Int) : Bool := !decide (k = 0) && !decide (k = 1)
def linMay (T : Str → Bool) (l : Lin) : Bool := !lin1 l && (!lin2 l && (!(l.lists.any lstNot) && !(l.cells.any (celNot T))))
def dsize (d : List Lin) : Nat := (d.map fun l => l.cells.length).sum
def docMay (T : Str → Bool) (d : List Lin) : Bool := ((decide (1 ≤ (d.length : Int)) && decide ((d.length : Int) ≤ 200)) && decide ((dsize d : Int) ≤ 4000)) && !(d.any fun l => !linMay T l)
theorem dsize_take (d : List Lin) (i : Nat) (h : i < d.length) : dsize (d.take (i + 1)) = dsize (d.take i) + d[i].cells.length := by
  unfold dsize
  rw [List.take_succ_eq_append_getElem h, List.map_append, List.sum_append]
  simp
theorem dsize_take_le (d : List Lin) (i : Nat) : dsize (d.take i) ≤ dsize d := by
  conv => rhs; rw [← List.take_append_drop i d]
  unfold dsize
  rw [List.map_append, List.sum_append]
  omega
/-- The first one that is so. -/
def fidx {α : Type} (p : α → Bool) : List α → Int → Int
  | [], _ => -1
  | x :: l, i => if p x = true then i else fidx p l (i + 1)
theorem fidx_any {α : Type} (p : α → Bool) : ∀ (l : List α) (i : Nat), decide (0 ≤ fidx p l (i : Int)) = l.any p
  | [], i => by simp [fidx]
  | x :: l, i => by
    have ih := fidx_any p l (i + 1)
    by_cases h : p x = true
    · simp [fidx, h]
    · rw [fidx, if_neg h, List.any_cons, show p x = false by simpa using h, Bool.false_or, ← ih]
      rfl
/-! ### render: the way of a line, the node of a line, the nodes of lines -/
def qN (q : Int) : Nat := (if 6 < (if q < 0 then 0 else q) then 6 else (if q < 0 then 0 else q)).toNat
def lstTag (k : Int) : Int := if k = 0 then 7 else 8
def wayV (l : Lin) : List Int := List.replicate (qN l.quote) 6 ++ l.lists.map lstTag
def stepV (l : Lin) (level : Nat) : Int := (wayV l).getD level 0
def lineTag (k : Int) : Int := if k < 0 ∨ 3 < k then 0 else 2 + k
def nodeV (l : Lin) : Nd := .mk (if 0 < l.lists.length then 9 else lineTag l.kind) [] ⟨#[]⟩ (rowV l.cells)
def alLine (level : Nat) (a b : Lin) : Bool := !decide (stepV a level = 0) && decide (stepV a level = stepV b level)
def hdL : List Lin → Lin
  | [] => default
  | l :: _ => l
def nodesV : Nat → Nat → List Lin → List Nd
  | 0, level, d => (grp (alLine level) d).map fun p => nodeV (hdL p)
  | f + 1, level, d => (grp (alLine level) d).map fun p => if stepV (hdL p) level = 0 then nodeV (hdL p) else .mk (stepV (hdL p) level) [] ⟨#[]⟩ (nodesV f (level + 1) p)
def zeroN : Nd := .mk 0 [] ⟨#[]⟩ []
def hostV (T : Str → Bool) (d : List Lin) : Nd × Int := if docMay T d = true then (.mk 1 [] ⟨#[]⟩ (nodesV 12 0 d), 0) else (zeroN, 1)
theorem qN_le (q : Int) : qN q ≤ 6 := by unfold qN; split <;> split <;> omega
theorem wayV_len (l : Lin) : (wayV l).length = qN l.quote + l.lists.length := by simp [wayV]
theorem dropWhile_mem {α : Type} (p : α → Bool) : ∀ (l : List α) (x : α), x ∈ l.dropWhile p → x ∈ l
  | [], x, h => by simp at h
  | y :: l, x, h => by
    rw [List.dropWhile_cons] at h
    split at h
    · exact List.mem_cons_of_mem _ (dropWhile_mem p l x h)
    · exact h
theorem takeWhile_mem {α : Type} (p : α → Bool) : ∀ (l : List α) (x : α), x ∈ l.takeWhile p → x ∈ l
  | [], x, h => by simp at h
  | y :: l, x, h => by
    rw [List.takeWhile_cons] at h
    split at h
    · rcases List.mem_cons.1 h with rfl | h
      · exact List.mem_cons_self ..
      · exact List.mem_cons_of_mem _ (takeWhile_mem p l x h)
    · simp at h
theorem grp_len {α : Type} (al : α → α → Bool) : ∀ l : List α, (grp al l).length ≤ l.length
  | [] => by simp [grp]
  | x :: l => by
    have := grp_len al (l.dropWhile (al x))
    have := dropWhile_le (al x) l
    rw [grp]
    simp
    omega
  termination_by l => l.length
  decreasing_by
    have := dropWhile_le (al x) l
    simp
    omega
/-- How much lines weigh, so much each and their cells. -/
def lw (c : Nat) (l : Lin) : Nat := 31 * l.cells.length + c
def lsz (c : Nat) (d : List Lin) : Nat := (d.map (lw c)).sum
theorem lsz_cons (c : Nat) (l : Lin) (d : List Lin) : lsz c (l :: d) = lw c l + lsz c d := by simp [lsz]
theorem lsz_append (c : Nat) (a b : List Lin) : lsz c (a ++ b) = lsz c a + lsz c b := by simp [lsz, List.sum_append]
theorem lsz_succ (c : Nat) : ∀ d : List Lin, lsz (c + 1) d = lsz c d + d.length
  | [] => rfl
  | l :: d => by rw [lsz_cons, lsz_cons, lsz_succ c d]; simp only [lw, List.length_cons]; omega
theorem lsz_eq (c : Nat) : ∀ d : List Lin, lsz c d = 31 * dsize d + c * d.length
  | [] => by simp [lsz, dsize]
  | l :: d => by
    have := lsz_eq c d
    rw [lsz_cons, this]
    simp only [lw, dsize, List.map_cons, List.sum_cons, List.length_cons, Nat.mul_add, Nat.mul_one]
    omega
theorem nodeV_sz (l : Lin) : (nodeV l).sz ≤ lw 1 l := by
  have := rowV_sz l.cells
  simp only [nodeV, Nd.sz, List.length_nil, lw]
  omega
/-- The nodes of groups, boxes told by sub. -/
def grpN (sub : List Lin → List Nd) (level : Nat) (p : List Lin) : Nd := if stepV (hdL p) level = 0 then nodeV (hdL p) else .mk (stepV (hdL p) level) [] ⟨#[]⟩ (sub p)
theorem grpN_sz {sub : List Lin → List Nd} {c : Nat} (hs : ∀ p, szl (sub p) ≤ lsz (c + 1) p) (level : Nat) (p : List Lin) (hp : p ≠ []) : (grpN sub level p).sz ≤ lsz (c + 2) p := by
  cases p with
  | nil => exact absurd rfl hp
  | cons l p =>
    unfold grpN
    split
    · have := nodeV_sz l
      rw [lsz_cons]
      simp only [hdL, lw] at *
      omega
    · have := hs (l :: p)
      rw [lsz_succ (c + 1)]
      simp only [Nd.sz, List.length_nil, List.length_cons]
      omega
theorem grpN_szl {sub : List Lin → List Nd} {c : Nat} (hs : ∀ p, szl (sub p) ≤ lsz (c + 1) p) (level : Nat) (al : Lin → Lin → Bool) : ∀ d : List Lin, szl ((grp al d).map (grpN sub level)) ≤ lsz (c + 2) d
  | [] => by simp [grp, szl]
  | l :: d => by
    have h1 := grpN_sz hs level (l :: d.takeWhile (al l)) (by simp)
    have h2 := grpN_szl hs level al (d.dropWhile (al l))
    rw [grp]
    have h3 : lsz (c + 2) (l :: d) = lsz (c + 2) (l :: d.takeWhile (al l)) + lsz (c + 2) (d.dropWhile (al l)) := by
      rw [← lsz_append, List.cons_append, List.takeWhile_append_dropWhile]
    simp only [List.map_cons, szl]
    omega
  termination_by d => d.length
  decreasing_by
    have := dropWhile_le (al l) d
    simp
    omega
theorem nodesV_eq (f level : Nat) (d : List Lin) : nodesV (f + 1) level d = (grp (alLine level) d).map (grpN (nodesV f (level + 1)) level) := rfl
theorem key2 (level : Nat) : ∀ (d : List Lin), (∀ l ∈ d, stepV l level = 0) → ∀ p ∈ grp (alLine level) d, stepV (hdL p) level = 0
  | [], _, p, hp => by simp [grp] at hp
  | l :: d, h, p, hp => by
    rw [grp] at hp
    rcases List.mem_cons.1 hp with rfl | hp
    · exact h l (List.mem_cons_self ..)
    · exact key2 level (d.dropWhile (alLine level l)) (fun x hx => h x (List.mem_cons_of_mem _ (dropWhile_mem (alLine level l) d x hx))) p hp
  termination_by d => d.length
  decreasing_by
    have := dropWhile_le (alLine level l) d
    simp
    omega
theorem nodesV_0 (level : Nat) (d : List Lin) (h : ∀ l ∈ d, stepV l level = 0) : nodesV 0 level d = (grp (alLine level) d).map (grpN (fun _ => []) level) := by
  unfold nodesV
  refine List.map_congr_left fun p hp => ?_
  unfold grpN
  rw [if_pos]
  exact key2 level d h p hp
theorem szn0 (level : Nat) : ∀ d : List Lin, szl (nodesV 0 level d) ≤ lsz 1 d
  | [] => by simp [nodesV, grp, szl]
  | l :: d => by
    have h1 := nodeV_sz l
    have h2 := szn0 level (d.dropWhile (alLine level l))
    have h3 : lsz 1 (l :: d) = lw 1 l + (lsz 1 (d.takeWhile (alLine level l)) + lsz 1 (d.dropWhile (alLine level l))) := by
      rw [← lsz_append, List.takeWhile_append_dropWhile, lsz_cons]
    unfold nodesV at h2 ⊢
    rw [grp]
    simp only [List.map_cons, szl]
    rw [show hdL (l :: d.takeWhile (alLine level l)) = l from rfl]
    omega
  termination_by d => d.length
  decreasing_by
    have := dropWhile_le (alLine level l) d
    simp
    omega
theorem nodesV_szl : ∀ (f level : Nat) (d : List Lin), szl (nodesV f level d) ≤ lsz (f + 2) d
  | 0, level, d => by
    refine Nat.le_trans (szn0 level d) ?_
    rw [lsz_succ 1]; omega
  | f + 1, level, d => by
    rw [nodesV_eq]
    exact grpN_szl (fun p => nodesV_szl f (level + 1) p) level _ d
end Go.QL
end

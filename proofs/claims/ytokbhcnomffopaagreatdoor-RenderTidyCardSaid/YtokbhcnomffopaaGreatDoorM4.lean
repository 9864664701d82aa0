/- In a host each kid may stand in its parent, no link in a link, no text is empty or beside another one, no two like inlines or boxes side by side (RenderTidy): for every document the law answers true. Condition: the two tables of utf8 are tied to the text by the given card. -/
import Derived.Test.YtokbhcnomffopaaGreatDoorM3
section
/- QL, part D: which elements may stand in which; what is tidy; a host is tidy. No program in sight. -/
set_option linter.unusedVariables false
set_option linter.unusedSimpArgs false
namespace Go.QL
open Go Go.RowKit
/-- P2.2. -/
def mayTag (p k : Int) : Bool :=
  if clsV p = 2 then
    (if p = 7 ∨ p = 8 then decide (k = 7 ∨ k = 8 ∨ k = 9)
     else if k = 1 ∨ k = 9 then false
     else decide (clsV k = 2 ∨ clsV k = 3))
  else if clsV p = 4 then (if p = 10 ∧ k = 10 then false else decide (clsV k = 4 ∨ clsV k = 5 ∨ clsV k = 1))
  else if clsV p = 3 then decide (clsV k = 4 ∨ clsV k = 5 ∨ clsV k = 1)
  else false
def besideBad : Option Nd → Nd → Bool
  | none, _ => false
  | some p, k => decide (p.tag = k.tag) && (decide (clsV k.tag = 1) || (decide (clsV k.tag = 2) || (decide (clsV k.tag = 4) && decide (p.attrs = k.attrs))))
theorem beside_some (p k : Nd) : besideBad (some p) k = (decide (p.tag = k.tag) && (decide (clsV k.tag = 1) || (decide (clsV k.tag = 2) || (decide (clsV k.tag = 4) && decide (p.attrs = k.attrs))))) := rfl
mutual
def tidyV : Nd → Int → Bool
  | .mk t _ _ k, links => if 1 < (if t = 10 then links + 1 else links) then false else tidyL t none k (if t = 10 then links + 1 else links)
def tidyL : Int → Option Nd → List Nd → Int → Bool
  | _, _, [], _ => true
  | t, prev, k :: ks, links =>
    if ((!mayTag t k.tag) || ((decide (k.tag = 0) && decide (k.text = ⟨#[]⟩)) || !tidyV k links)) = true then false
    else if besideBad prev k = true then false else tidyL t (some k) ks links
end
theorem tidyV_eq (n : Nd) (links : Int) : tidyV n links = if 1 < (if n.tag = 10 then links + 1 else links) then false else tidyL n.tag none n.kids (if n.tag = 10 then links + 1 else links) := by cases n; rw [tidyV]; rfl
def okKid (t links : Int) (k : Nd) : Bool := mayTag t k.tag && (!(decide (k.tag = 0) && decide (k.text = ⟨#[]⟩)) && tidyV k links)
def chn : Option Nd → List Nd → Bool
  | _, [] => true
  | p, k :: ks => !besideBad p k && chn (some k) ks
theorem tidyL_all (t links : Int) : ∀ (prev : Option Nd) (l : List Nd), tidyL t prev l links = (l.all (okKid t links) && chn prev l)
  | prev, [] => by rw [tidyL]; rfl
  | prev, k :: ks => by
    rw [tidyL, List.all_cons, chn, tidyL_all t links (some k) ks]
    unfold okKid
    cases mayTag t k.tag <;> cases (decide (k.tag = 0) && decide (k.text = ⟨#[]⟩)) <;> cases tidyV k links <;> cases besideBad prev k <;> simp
def lastO : Option Nd → List Nd → Option Nd
  | p, [] => p
  | _, k :: ks => lastO (some k) ks
theorem chn_append : ∀ (p : Option Nd) (a b : List Nd), chn p (a ++ b) = (chn p a && chn (lastO p a) b)
  | p, [], b => rfl
  | p, k :: ks, b => by rw [List.cons_append, chn, chn, lastO, chn_append (some k) ks b, Bool.and_assoc]
theorem lastO_mem : ∀ (p : Option Nd) (a : List Nd), a ≠ [] → ∃ x ∈ a, lastO p a = some x
  | p, [], h => absurd rfl h
  | p, [k], _ => ⟨k, List.mem_cons_self .., rfl⟩
  | p, k :: k2 :: ks, _ => by
    obtain ⟨x, hx, h⟩ := lastO_mem (some k) (k2 :: ks) (by simp)
    exact ⟨x, List.mem_cons_of_mem _ hx, h⟩
theorem chn_prev {p : Option Nd} {l : List Nd} (h : chn none l = true) (hb : ∀ b ∈ l, besideBad p b = false) : chn p l = true := by
  cases l with
  | nil => rfl
  | cons k ks =>
    rw [chn] at h ⊢
    rw [hb k (List.mem_cons_self ..)]
    simp only [besideBad, Bool.not_false, Bool.true_and] at h ⊢
    exact h
theorem dropWhile_head {α : Type} (p : α → Bool) : ∀ (l : List α) (y : α), (l.dropWhile p).head? = some y → p y = false
  | [], y, h => by simp at h
  | x :: l, y, h => by
    rw [List.dropWhile_cons] at h
    split at h
    · exact dropWhile_head p l y h
    · next hx => simp at h; subst h; simpa using hx
theorem grp_chn {α : Type} (al : α → α → Bool) (F : List α → List Nd) (Kd : α → Nd → Prop) (D : List α)
    (h1 : ∀ x p, (∀ y ∈ p, al x y = true) → (∀ y ∈ x :: p, y ∈ D) → chn none (F (x :: p)) = true ∧ F (x :: p) ≠ [] ∧ ∀ a ∈ F (x :: p), Kd x a)
    (h2 : ∀ x y a b, x ∈ D → y ∈ D → al x y = false → Kd x a → Kd y b → besideBad (some a) b = false) :
    ∀ (d : List α) (prev : Option Nd), (∀ y ∈ d, y ∈ D) → (prev = none ∨ ∃ x a, prev = some a ∧ x ∈ D ∧ Kd x a ∧ ∀ y, d.head? = some y → al x y = false) → chn prev ((grp al d).flatMap F) = true
  | [], prev, _, _ => by simp [grp, chn]
  | x :: tl, prev, hd, hp => by
    have htw : ∀ y ∈ tl.takeWhile (al x), al x y = true := fun y hy => List.all_eq_true.1 (List.all_takeWhile (p := al x) (l := tl)) y hy
    have hm : ∀ y ∈ x :: tl.takeWhile (al x), y ∈ D := fun y hy => by
      rcases List.mem_cons.1 hy with rfl | hy
      · exact hd _ (List.mem_cons_self ..)
      · exact hd _ (List.mem_cons_of_mem _ ((List.takeWhile_sublist _).subset hy))
    obtain ⟨c1, c2, c3⟩ := h1 x (tl.takeWhile (al x)) htw hm
    have hx : x ∈ D := hd _ (List.mem_cons_self ..)
    rw [grp, List.flatMap_cons, chn_append, Bool.and_eq_true]
    refine ⟨chn_prev c1 fun b hb => ?_, ?_⟩
    · rcases hp with rfl | ⟨x0, a, rfl, hx0, ha, hal⟩
      · rfl
      · exact h2 x0 x a b hx0 hx (hal x rfl) ha (c3 b hb)
    · refine grp_chn al F Kd D h1 h2 (tl.dropWhile (al x)) _ (fun y hy => hd y (List.mem_cons_of_mem _ (dropWhile_mem _ _ _ hy))) (.inr ?_)
      obtain ⟨a, ha, hl⟩ := lastO_mem prev (F (x :: tl.takeWhile (al x))) c2
      exact ⟨x, a, hl, hx, c3 a ha, fun y hy => dropWhile_head _ _ _ hy⟩
  termination_by d => d.length
  decreasing_by
    have := dropWhile_le (al x) tl
    simp
    omega
theorem grp_mem {α : Type} (al : α → α → Bool) (D : List α) (Q : List α → Prop) (h : ∀ x p, (∀ y ∈ p, al x y = true) → (∀ y ∈ x :: p, y ∈ D) → Q (x :: p)) : ∀ d : List α, (∀ y ∈ d, y ∈ D) → ∀ g ∈ grp al d, Q g
  | [], _, g, hg => by simp [grp] at hg
  | x :: tl, hd, g, hg => by
    rw [grp] at hg
    rcases List.mem_cons.1 hg with rfl | hg
    · exact h x _ (fun y hy => List.all_eq_true.1 (List.all_takeWhile (p := al x) (l := tl)) y hy) fun y hy => by
        rcases List.mem_cons.1 hy with rfl | hy
        · exact hd _ (List.mem_cons_self ..)
        · exact hd _ (List.mem_cons_of_mem _ ((List.takeWhile_sublist _).subset hy))
    · exact grp_mem al D Q h (tl.dropWhile (al x)) (fun y hy => hd y (List.mem_cons_of_mem _ (dropWhile_mem _ _ _ hy))) g hg
  termination_by d => d.length
  decreasing_by
    have := dropWhile_le (al x) tl
    simp
    omega
theorem grp_ne {α : Type} (al : α → α → Bool) (F : List α → List Nd) (d : List α) (hd : d ≠ []) (h : ∀ x p, F (x :: p) ≠ []) : (grp al d).flatMap F ≠ [] := by
  cases d with
  | nil => exact absurd rfl hd
  | cons x tl =>
    rw [grp, List.flatMap_cons]
    intro e
    exact h _ _ (List.append_eq_nil_iff.1 e).1
theorem map_flat {α : Type} (F : List α → Nd) : ∀ l : List (List α), l.map F = l.flatMap fun p => [F p]
  | [] => rfl
  | p :: l => by rw [List.map_cons, List.flatMap_cons, map_flat F l]; rfl
/-! ### a row is tidy -/
/-- What is so of the nodes within a line, or an inline: tags are told by S. -/
structure RowTidy (S : Int → Prop) (l : List Nd) : Prop where
  kid : ∀ k ∈ l, ∀ t links, (clsV t = 3 ∨ clsV t = 4) → links ≤ 1 → ¬ (k.tag = 10 ∧ (t = 10 ∨ 0 < links)) → okKid t links k = true
  tag : ∀ k ∈ l, S k.tag
  beside : chn none l = true
  some : l ≠ []
theorem strOf_ne (l : List Int) (h : l ≠ []) : strOf l ≠ ⟨#[]⟩ := by
  intro e
  rw [strOf_list] at e
  have e2 := congrArg (fun x : ByteArray => x.data.toList.length) e
  cases l with
  | nil => exact h rfl
  | cons r l =>
    have h1 := encL_pos r
    rw [List.flatMap_cons] at e2
    have h2 : (encL r ++ l.flatMap encL).length = 0 := e2
    rw [List.length_append] at h2
    omega
theorem may_row (t k : Int) (ht : clsV t = 3 ∨ clsV t = 4) (hk : clsV k = 4 ∨ clsV k = 5 ∨ clsV k = 1) (h10 : ¬ (t = 10 ∧ k = 10)) : mayTag t k = true := by
  unfold mayTag
  rcases ht with h | h
  · rw [h, if_neg (by decide), if_neg (by decide), if_pos rfl, decide_eq_true hk]
  · rw [h, if_neg (by decide), if_pos rfl, if_neg h10, decide_eq_true hk]
theorem leaves_tidy (l : List Cel) (hl : l ≠ []) : RowTidy (fun t => t = 0 ∨ t = 16) (leavesV l) := by
  have e : leavesV l = (grp alLeaf l).flatMap fun p => [leafV p] := map_flat leafV _
  have hleaf : ∀ x p, (leafV (x :: p) = .mk 16 [] ⟨#[]⟩ [] ∧ x.r = 10) ∨ (leafV (x :: p) = .mk 0 [] (strOf ((x :: p).map (·.r))) [] ∧ ¬ x.r = 10) := fun x p => by
    unfold leafV
    by_cases h : x.r = 10
    · exact .inl ⟨if_pos h, h⟩
    · exact .inr ⟨if_neg h, h⟩
  rw [e]
  have hall := grp_mem alLeaf l (fun g => ∀ k ∈ [leafV g], (k.tag = 0 ∨ k.tag = 16) ∧ ∀ t links, (clsV t = 3 ∨ clsV t = 4) → links ≤ 1 → okKid t links k = true) (fun x p hp hm k hk => by
    rw [List.mem_singleton] at hk
    rcases hleaf x p with ⟨h, _⟩ | ⟨h, _⟩
    · rw [h] at hk
      subst hk
      refine ⟨.inr rfl, fun t links ht hlk => ?_⟩
      unfold okKid
      rw [show (Nd.mk 16 [] ⟨#[]⟩ []).tag = 16 from rfl, may_row t 16 ht (.inr (.inl rfl)) (by omega), tidyV, if_neg (by rw [if_neg (by decide)]; omega), tidyL]
      rfl
    · rw [h] at hk
      subst hk
      refine ⟨.inl rfl, fun t links ht hlk => ?_⟩
      unfold okKid
      rw [show (Nd.mk 0 [] (strOf ((x :: p).map (·.r))) []).tag = 0 from rfl, may_row t 0 ht (.inr (.inr rfl)) (by omega), tidyV, if_neg (by rw [if_neg (by decide)]; omega), tidyL]
      have := strOf_ne ((x :: p).map (·.r)) (by simp)
      show (true && (!(true && decide (strOf ((x :: p).map (·.r)) = ⟨#[]⟩)) && true)) = true
      rw [decide_eq_false this]
      rfl) l (fun y hy => hy)
  refine ⟨fun k hk t links ht hlk _ => ?_, fun k hk => ?_, ?_, grp_ne _ _ _ hl (fun _ _ => by simp)⟩
  · obtain ⟨g, hg, hk⟩ := List.mem_flatMap.1 hk
    exact (hall g hg k hk).2 t links ht hlk
  · obtain ⟨g, hg, hk⟩ := List.mem_flatMap.1 hk
    exact (hall g hg k hk).1
  · refine grp_chn alLeaf (fun p => [leafV p]) (fun x a => (x.r = 10 → a.tag = 16) ∧ (¬ x.r = 10 → a.tag = 0)) l (fun x p hp hm => ⟨rfl, by simp, fun a ha => ?_⟩) (fun x y a b hx hy hal ha hb => ?_) l none (fun y hy => hy) (.inl rfl)
    · rw [List.mem_singleton] at ha
      subst ha
      rcases hleaf x p with ⟨h, hr⟩ | ⟨h, hr⟩
      · rw [h]; exact ⟨fun _ => rfl, fun h => absurd hr h⟩
      · rw [h]; exact ⟨fun h => absurd h hr, fun _ => rfl⟩
    · rw [beside_some]
      by_cases h1 : x.r = 10
      · rw [ha.1 h1]
        by_cases h2 : y.r = 10
        · rw [hb.1 h2]; rfl
        · rw [hb.2 h2]; rfl
      · rw [ha.2 h1]
        by_cases h2 : y.r = 10
        · rw [hb.1 h2]; rfl
        · simp [alLeaf, h1, h2] at hal
theorem inline_ok {S : Int → Prop} {l : List Nd} (h : RowTidy S l) (hS : ∀ t, S t → t ≠ 10) (tag : Int) (ht : clsV tag = 4) (ats : List At) (t links : Int) (htt : clsV t = 3 ∨ clsV t = 4) (hl : links ≤ 1) (h10 : ¬ (tag = 10 ∧ (t = 10 ∨ 0 < links))) : okKid t links (.mk tag ats ⟨#[]⟩ l) = true := by
  unfold okKid
  have htag : (Nd.mk tag ats ⟨#[]⟩ l).tag = tag := rfl
  have h0 : ¬ tag = 0 := fun e => by rw [e] at ht; exact absurd ht (by decide)
  rw [htag, may_row t tag htt (.inl ht) (fun e => h10 ⟨e.2, .inl e.1⟩), decide_eq_false h0, tidyV]
  have hlk : (if tag = 10 then links + 1 else links) ≤ 1 := by
    split
    · next e => have : ¬ 0 < links := fun h => h10 ⟨e, .inr h⟩; omega
    · exact hl
  rw [if_neg (by omega), tidyL_all, h.beside]
  have : l.all (okKid tag (if tag = 10 then links + 1 else links)) = true := List.all_eq_true.2 fun k hk => h.kid k hk tag _ (.inr ht) hlk fun e => absurd e.1 (hS _ (h.tag k hk))
  rw [this]
  rfl
/-- One level more. -/
theorem styled_step (S : Int → Prop) (n : Nat) (bit tag : Int) (hS : ∀ t, S t → t ≠ 10) (hS2 : ∀ t, S t → t ≠ tag) (ht : clsV tag = 4) (ht10 : tag ≠ 10)
    (hbit : ∀ x : Int, 0 ≤ x → x ≤ 15 → bitI .and .i64 x bit = 0 ∨ bitI .and .i64 x bit = bit) (hb0 : bit ≠ 0)
    (hw0 : ∀ l : List Nd, wrapV 0 ⟨#[]⟩ l = l) (hw1 : ∀ l : List Nd, wrapV bit ⟨#[]⟩ l = [.mk tag [] ⟨#[]⟩ l])
    (sub : ∀ p : List Cel, p ≠ [] → (∀ c ∈ p, 0 ≤ c.bits ∧ c.bits ≤ 15) → RowTidy S (styledV n (IntKind.i64.wrap (bit * 2 ^ min (1 : Int).toNat IntKind.i64.bits)) p))
    (l : List Cel) (hl : l ≠ []) (hb : ∀ c ∈ l, 0 ≤ c.bits ∧ c.bits ≤ 15) : RowTidy (fun t => S t ∨ t = tag) (styledV (n + 1) bit l) := by
  simp only [styledV]
  have hone : ∀ x p, (∀ y ∈ x :: p, y ∈ l) → RowTidy S (styledV n (IntKind.i64.wrap (bit * 2 ^ min (1 : Int).toNat IntKind.i64.bits)) (x :: p)) ∧
      ((wrapV (bitI .and .i64 (hdBits (x :: p)) bit) ⟨#[]⟩ (styledV n (IntKind.i64.wrap (bit * 2 ^ min (1 : Int).toNat IntKind.i64.bits)) (x :: p)) = styledV n (IntKind.i64.wrap (bit * 2 ^ min (1 : Int).toNat IntKind.i64.bits)) (x :: p) ∧ bitI .and .i64 x.bits bit = 0) ∨
        (wrapV (bitI .and .i64 (hdBits (x :: p)) bit) ⟨#[]⟩ (styledV n (IntKind.i64.wrap (bit * 2 ^ min (1 : Int).toNat IntKind.i64.bits)) (x :: p)) = [.mk tag [] ⟨#[]⟩ (styledV n (IntKind.i64.wrap (bit * 2 ^ min (1 : Int).toNat IntKind.i64.bits)) (x :: p))] ∧ bitI .and .i64 x.bits bit = bit)) := fun x p hm => by
    refine ⟨sub _ (by simp) fun c hc => hb c (hm c hc), ?_⟩
    have hx := hb x (hm x (List.mem_cons_self ..))
    show (wrapV (bitI .and .i64 x.bits bit) _ _ = _ ∧ _) ∨ _
    rcases hbit x.bits hx.1 hx.2 with h | h
    · exact .inl ⟨by rw [h]; exact hw0 _, h⟩
    · refine .inr ⟨?_, h⟩
      show wrapV (bitI .and .i64 x.bits bit) _ _ = _
      rw [h]; exact hw1 _
  have hall := grp_mem (alBit bit) l (fun g => ∀ k ∈ wrapV (bitI .and .i64 (hdBits g) bit) ⟨#[]⟩ (styledV n (IntKind.i64.wrap (bit * 2 ^ min (1 : Int).toNat IntKind.i64.bits)) g), (S k.tag ∨ k.tag = tag) ∧ ∀ t links, (clsV t = 3 ∨ clsV t = 4) → links ≤ 1 → okKid t links k = true) (fun x p hp hm k hk => by
    obtain ⟨h0, ⟨h1, _⟩ | ⟨h1, _⟩⟩ := hone x p hm
    · rw [h1] at hk
      exact ⟨.inl (h0.tag k hk), fun t links ht hlk => h0.kid k hk t links ht hlk fun e => absurd e.1 (hS _ (h0.tag k hk))⟩
    · rw [h1, List.mem_singleton] at hk
      subst hk
      exact ⟨.inr rfl, fun t links htt hlk => inline_ok h0 hS tag ht [] t links htt hlk fun e => ht10 e.1⟩) l (fun y hy => hy)
  refine ⟨fun k hk t links ht hlk _ => ?_, fun k hk => ?_, ?_, ?_⟩
  · obtain ⟨g, hg, hk⟩ := List.mem_flatMap.1 hk
    exact (hall g hg k hk).2 t links ht hlk
  · obtain ⟨g, hg, hk⟩ := List.mem_flatMap.1 hk
    exact (hall g hg k hk).1
  · refine grp_chn (alBit bit) _ (fun x a => (bitI .and .i64 x.bits bit = 0 → a.tag ≠ tag) ∧ (bitI .and .i64 x.bits bit ≠ 0 → a.tag = tag)) l (fun x p hp hm => ?_) (fun x y a b hx hy hal ha hb' => ?_) l none (fun y hy => hy) (.inl rfl)
    · obtain ⟨h0, ⟨h1, h2⟩ | ⟨h1, h2⟩⟩ := hone x p hm
      · rw [h1]
        exact ⟨h0.beside, h0.some, fun a ha => ⟨fun _ => hS2 _ (h0.tag a ha), fun h => absurd h2 h⟩⟩
      · rw [h1]
        refine ⟨rfl, by simp, fun a ha => ?_⟩
        rw [List.mem_singleton] at ha
        subst ha
        exact ⟨fun h => absurd (h2.symm.trans h) hb0, fun _ => rfl⟩
    · unfold alBit at hal
      have hne := of_decide_eq_false hal
      have hbx := hbit x.bits (hb x hx).1 (hb x hx).2
      have hby := hbit y.bits (hb y hy).1 (hb y hy).2
      rw [beside_some]
      have : ¬ a.tag = b.tag := by
        by_cases h1 : bitI .and .i64 x.bits bit = 0
        · have h2 : bitI .and .i64 y.bits bit ≠ 0 := fun h => hne (h1.trans h.symm)
          rw [hb'.2 h2]; exact ha.1 h1
        · have h2 : bitI .and .i64 y.bits bit = 0 := by
            rcases hby with h | h
            · exact h
            · rcases hbx with h' | h'
              · exact absurd h' h1
              · exact absurd (h'.trans h.symm) hne
          rw [ha.2 h1]; exact fun e => hb'.1 h2 e.symm
      rw [decide_eq_false this]; rfl
  · refine grp_ne _ _ _ hl fun x p => ?_
    unfold wrapV
    rw [if_pos rfl]
    intro e
    have hsz : ∀ (v : Int) (L : List Nd) (i : Nat), L ≠ [] → wrapN v L i ≠ [] := fun v L i hL => by
      induction i with
      | zero => exact hL
      | succ i ih => unfold wrapN wrap1; split; exact ih; simp
    have hsub : styledV n (IntKind.i64.wrap (bit * 2 ^ min (1 : Int).toNat IntKind.i64.bits)) (x :: p) ≠ [] := by
      have key : ∀ (n : Nat) (b : Int) (q : List Cel), q ≠ [] → styledV n b q ≠ [] := fun n => by
        induction n with
        | zero => intro b q hq; rw [styledV]; unfold leavesV; rw [map_flat]; exact grp_ne _ _ _ hq fun _ _ => by simp
        | succ n ih =>
          intro b q hq
          simp only [styledV]
          refine grp_ne _ _ _ hq fun y r => ?_
          unfold wrapV
          rw [if_pos rfl]
          exact hsz _ _ _ (ih _ _ (by simp))
      exact key _ _ _ (by simp)
    exact hsz _ _ _ hsub e
theorem RowTidy.mono {S S' : Int → Prop} {l : List Nd} (h : RowTidy S l) (hs : ∀ t, S t → S' t) : RowTidy S' l := ⟨h.kid, fun k hk => hs _ (h.tag k hk), h.beside, h.some⟩
theorem styled_tidy (l : List Cel) (hl : l ≠ []) (hb : ∀ c ∈ l, 0 ≤ c.bits ∧ c.bits ≤ 15) : RowTidy (fun t => t ≠ 10) (styledV 4 1 l) := by
  have hbit : ∀ k : Fin 4, ∀ n : Fin 16, bitI .and .i64 (n.val : Int) (2 ^ k.val) = 0 ∨ bitI .and .i64 (n.val : Int) (2 ^ k.val) = 2 ^ k.val := by decide +kernel
  have hbit' : ∀ k : Fin 4, ∀ x : Int, 0 ≤ x → x ≤ 15 → bitI .and .i64 x (2 ^ k.val) = 0 ∨ bitI .and .i64 x (2 ^ k.val) = 2 ^ k.val := fun k x h0 h1 => by
    have := hbit k ⟨x.toNat, by omega⟩
    simp only at this
    rwa [Int.toNat_of_nonneg h0] at this
  have h0 : ∀ b (p : List Cel), p ≠ [] → RowTidy (fun t => t = 0 ∨ t = 16) (styledV 0 b p) := fun b p hp => leaves_tidy p hp
  have h1 : ∀ p : List Cel, p ≠ [] → (∀ c ∈ p, 0 ≤ c.bits ∧ c.bits ≤ 15) → RowTidy (fun t => (t = 0 ∨ t = 16) ∨ t = 14) (styledV 1 8 p) := fun p hp hb =>
    styled_step _ 0 8 14 (by rintro t (h | h) <;> omega) (by rintro t (h | h) <;> omega) rfl (by decide) (hbit' 3) (by decide) (fun _ => rfl) (fun _ => rfl) (fun p hp _ => h0 _ p hp) p hp hb
  have h2 : ∀ p : List Cel, p ≠ [] → (∀ c ∈ p, 0 ≤ c.bits ∧ c.bits ≤ 15) → RowTidy (fun t => ((t = 0 ∨ t = 16) ∨ t = 14) ∨ t = 13) (styledV 2 4 p) := fun p hp hb =>
    styled_step _ 1 4 13 (by rintro t ((h | h) | h) <;> omega) (by rintro t ((h | h) | h) <;> omega) rfl (by decide) (hbit' 2) (by decide) (fun _ => rfl) (fun _ => rfl) (fun p hp hb => h1 p hp hb) p hp hb
  have h3 : ∀ p : List Cel, p ≠ [] → (∀ c ∈ p, 0 ≤ c.bits ∧ c.bits ≤ 15) → RowTidy (fun t => (((t = 0 ∨ t = 16) ∨ t = 14) ∨ t = 13) ∨ t = 12) (styledV 3 2 p) := fun p hp hb =>
    styled_step _ 2 2 12 (by rintro t (((h | h) | h) | h) <;> omega) (by rintro t (((h | h) | h) | h) <;> omega) rfl (by decide) (hbit' 1) (by decide) (fun _ => rfl) (fun _ => rfl) (fun p hp hb => h2 p hp hb) p hp hb
  have h4 := styled_step _ 3 1 11 (by rintro t ((((h | h) | h) | h) | h) <;> omega) (by rintro t ((((h | h) | h) | h) | h) <;> omega) rfl (by decide) (hbit' 0) (by decide) (fun _ => rfl) (fun _ => rfl) (fun p hp hb => h3 p hp hb) l hl hb
  exact h4.mono (by rintro t (((((h | h) | h) | h) | h) | h) <;> omega)
theorem row_tidy (l : List Cel) (hb : ∀ c ∈ l, 0 ≤ c.bits ∧ c.bits ≤ 15) (t : Int) (ht : clsV t = 3) : tidyL t none (rowV l) 0 = true := by
  have t10 : t ≠ 10 := fun e => by rw [e] at ht; exact absurd ht (by decide)
  have hone : ∀ x p, (∀ y ∈ x :: p, y ∈ l) → RowTidy (fun t => t ≠ 10) (styledV 4 1 (x :: p)) ∧
      ((wrapV 0 (hdHref (x :: p)) (styledV 4 1 (x :: p)) = styledV 4 1 (x :: p) ∧ x.href = ⟨#[]⟩) ∨ (wrapV 0 (hdHref (x :: p)) (styledV 4 1 (x :: p)) = [.mk 10 [hrefAt x.href] ⟨#[]⟩ (styledV 4 1 (x :: p))] ∧ x.href ≠ ⟨#[]⟩)) := fun x p hm => by
    refine ⟨styled_tidy _ (by simp) fun c hc => hb c (hm c hc), ?_⟩
    show (wrapV 0 x.href _ = _ ∧ _) ∨ _
    unfold wrapV
    by_cases h : x.href = ⟨#[]⟩
    · exact .inl ⟨by rw [if_pos h]; rfl, h⟩
    · refine .inr ⟨?_, h⟩
      show (if x.href = ⟨#[]⟩ then _ else _) = _
      rw [if_neg h]; rfl
  rw [tidyL_all, Bool.and_eq_true]
  unfold rowV
  constructor
  · refine List.all_eq_true.2 fun k hk0 => ?_
    obtain ⟨g, hg, hk⟩ := List.mem_flatMap.1 hk0
    clear hk0
    revert hk
    revert k
    refine grp_mem alHref l (fun g => ∀ k ∈ wrapV 0 (hdHref g) (styledV 4 1 g), okKid t 0 k = true) (fun x p hp hm k hk => ?_) l (fun y hy => hy) g hg
    obtain ⟨h0, ⟨h1, _⟩ | ⟨h1, _⟩⟩ := hone x p hm
    · rw [h1] at hk
      exact h0.kid k hk t 0 (.inl ht) (by decide) fun e => t10 (e.2.resolve_right (by decide))
    · rw [h1, List.mem_singleton] at hk
      subst hk
      exact inline_ok h0 (fun _ h => h) 10 rfl _ t 0 (.inl ht) (by decide) fun e => t10 (e.2.resolve_right (by decide))
  · refine grp_chn alHref _ (fun x a => (x.href = ⟨#[]⟩ → a.tag ≠ 10) ∧ (x.href ≠ ⟨#[]⟩ → a.tag = 10 ∧ a.attrs = [hrefAt x.href])) l (fun x p hp hm => ?_) (fun x y a b hx hy hal ha hb' => ?_) l none (fun y hy => hy) (.inl rfl)
    · obtain ⟨h0, ⟨h1, h2⟩ | ⟨h1, h2⟩⟩ := hone x p hm
      · rw [h1]
        exact ⟨h0.beside, h0.some, fun a ha => ⟨fun _ => h0.tag a ha, fun h => absurd h2 h⟩⟩
      · rw [h1]
        refine ⟨rfl, by simp, fun a ha => ?_⟩
        rw [List.mem_singleton] at ha
        subst ha
        exact ⟨fun h => absurd h h2, fun _ => ⟨rfl, rfl⟩⟩
    · have hne := of_decide_eq_false hal
      rw [beside_some]
      by_cases h1 : x.href = ⟨#[]⟩
      · have h2 : y.href ≠ ⟨#[]⟩ := fun h => hne (h1.trans h.symm)
        have : ¬ a.tag = b.tag := by rw [(hb'.2 h2).1]; exact ha.1 h1
        rw [decide_eq_false this]; rfl
      · by_cases h2 : y.href = ⟨#[]⟩
        · have : ¬ a.tag = b.tag := by rw [(ha.2 h1).1]; exact fun e => hb'.1 h2 e.symm
          rw [decide_eq_false this]; rfl
        · have : ¬ a.attrs = b.attrs := by
            rw [(ha.2 h1).2, (hb'.2 h2).2]
            intro e
            simp only [hrefAt, List.cons.injEq, At.mk.injEq, and_true, true_and] at e
            exact hne e
          rw [decide_eq_false this, (hb'.2 h2).1]
          simp [clsV]
/-! ### a host is tidy -/
theorem lists_tag (l : List Int) (i : Nat) : (i < l.length ∧ ((l.map lstTag).getD i 0 = 7 ∨ (l.map lstTag).getD i 0 = 8)) ∨ (l.length ≤ i ∧ (l.map lstTag).getD i 0 = 0) := by
  rcases Nat.lt_or_ge i l.length with h | h
  · refine .inl ⟨h, ?_⟩
    rw [List.getD_eq_getElem?_getD, List.getElem?_eq_getElem (by simpa using h), Option.getD_some, List.getElem_map]
    unfold lstTag
    split
    · exact .inl rfl
    · exact .inr rfl
  · refine .inr ⟨h, ?_⟩
    rw [List.getD_eq_getElem?_getD, List.getElem?_eq_none (by simpa using h)]
    rfl
theorem step_eq (l : Lin) (i : Nat) : (i < qN l.quote ∧ stepV l i = 6) ∨ (qN l.quote ≤ i ∧ stepV l i = (l.lists.map lstTag).getD (i - qN l.quote) 0) := by
  unfold stepV wayV
  rcases Nat.lt_or_ge i (qN l.quote) with h | h
  · refine .inl ⟨h, ?_⟩
    rw [List.getD_eq_getElem?_getD, List.getElem?_append_left (by simpa using h)]
    simp [h]
  · refine .inr ⟨h, ?_⟩
    rw [List.getD_eq_getElem?_getD, List.getElem?_append_right (by simpa using h)]
    simp [List.getD_eq_getElem?_getD]
/-- What stands around a line at a level. -/
def ParOk (t : Int) (level : Nat) (l : Lin) : Prop := (level = 0 ∧ t = 1) ∨ (0 < level ∧ t = stepV l (level - 1) ∧ t ≠ 0)
theorem line_tag {l : Lin} (hk : 0 ≤ l.kind ∧ l.kind ≤ 3) : (l.lists = [] ∧ 2 ≤ (nodeV l).tag ∧ (nodeV l).tag ≤ 5) ∨ (0 < l.lists.length ∧ (nodeV l).tag = 9) := by
  unfold nodeV
  by_cases h : 0 < l.lists.length
  · refine .inr ⟨h, ?_⟩
    show (if 0 < l.lists.length then (9 : Int) else lineTag l.kind) = 9
    rw [if_pos h]
  · refine .inl ⟨List.eq_nil_of_length_eq_zero (by omega), ?_⟩
    show 2 ≤ (if 0 < l.lists.length then (9 : Int) else lineTag l.kind) ∧ (if 0 < l.lists.length then (9 : Int) else lineTag l.kind) ≤ 5
    rw [if_neg h]
    unfold lineTag
    rw [if_neg (by omega)]
    omega
theorem line_cls {l : Lin} (hk : 0 ≤ l.kind ∧ l.kind ≤ 3) : clsV (nodeV l).tag = 3 := by
  have key : ∀ t : Int, (2 ≤ t ∧ t ≤ 5) ∨ t = 9 → clsV t = 3 := fun t h => by
    have : t = 2 ∨ t = 3 ∨ t = 4 ∨ t = 5 ∨ t = 9 := by omega
    rcases this with rfl | rfl | rfl | rfl | rfl <;> rfl
  rcases line_tag hk with ⟨_, h1, h2⟩ | ⟨_, h⟩
  · exact key _ (.inl ⟨h1, h2⟩)
  · exact key _ (.inr h)
theorem may_line {l : Lin} (hk : 0 ≤ l.kind ∧ l.kind ≤ 3) {t : Int} {level : Nat} (hp : ParOk t level l) (hs : stepV l level = 0) : mayTag t (nodeV l).tag = true := by
  have a1 : ∀ k : Int, 2 ≤ k ∧ k ≤ 5 → mayTag 1 k = true ∧ mayTag 6 k = true := fun k h => by
    have : k = 2 ∨ k = 3 ∨ k = 4 ∨ k = 5 := by omega
    rcases this with rfl | rfl | rfl | rfl <;> exact ⟨rfl, rfl⟩
  have h0 := step_eq l level
  rcases hp with ⟨rfl, rfl⟩ | ⟨hl, rfl, hne⟩
  · rcases line_tag hk with ⟨_, h1, h2⟩ | ⟨h, _⟩
    · exact (a1 _ ⟨h1, h2⟩).1
    · exfalso
      have := lists_tag l.lists (0 - qN l.quote)
      omega
  · have h3 := step_eq l (level - 1)
    have h4 := lists_tag l.lists (level - 1 - qN l.quote)
    have h5 := lists_tag l.lists (level - qN l.quote)
    rcases line_tag hk with ⟨he, h1, h2⟩ | ⟨h, h9⟩
    · have hlen : l.lists.length = 0 := by rw [he]; rfl
      have : stepV l (level - 1) = 6 := by omega
      rw [this]
      exact (a1 _ ⟨h1, h2⟩).2
    · rw [h9]
      have : stepV l (level - 1) = 7 ∨ stepV l (level - 1) = 8 := by omega
      rcases this with h | h <;> rw [h] <;> rfl
theorem may_box {l : Lin} {t : Int} {level : Nat} (hp : ParOk t level l) (hs : stepV l level ≠ 0) : mayTag t (stepV l level) = true := by
  have a1 : ∀ k : Int, 6 ≤ k ∧ k ≤ 8 → mayTag 1 k = true ∧ mayTag 6 k = true := fun k h => by
    have : k = 6 ∨ k = 7 ∨ k = 8 := by omega
    rcases this with rfl | rfl | rfl <;> exact ⟨rfl, rfl⟩
  have h0 := step_eq l level
  have h5 := lists_tag l.lists (level - qN l.quote)
  have hr : 6 ≤ stepV l level ∧ stepV l level ≤ 8 := by omega
  rcases hp with ⟨rfl, rfl⟩ | ⟨hl, rfl, hne⟩
  · exact (a1 _ hr).1
  · have h3 := step_eq l (level - 1)
    have h4 := lists_tag l.lists (level - 1 - qN l.quote)
    by_cases h6 : stepV l (level - 1) = 6
    · rw [h6]; exact (a1 _ hr).2
    · have h7 : stepV l (level - 1) = 7 ∨ stepV l (level - 1) = 8 := by omega
      have h8 : stepV l level = 7 ∨ stepV l level = 8 := by omega
      rcases h7 with h | h <;> rcases h8 with h' | h' <;> rw [h, h'] <;> rfl
structure LineOk (l : Lin) : Prop where
  kind : 0 ≤ l.kind ∧ l.kind ≤ 3
  bits : ∀ c ∈ l.cells, 0 ≤ c.bits ∧ c.bits ≤ 15
theorem node_tidy {l : Lin} (h : LineOk l) : tidyV (nodeV l) 0 = true := by
  have hc := line_cls h.kind
  have h10 : ¬ (nodeV l).tag = 10 := fun e => by rw [e] at hc; exact absurd hc (by decide)
  rw [tidyV_eq, if_neg h10, if_neg (by decide)]
  exact row_tidy l.cells h.bits _ hc
theorem box_cls {l : Lin} {level : Nat} (hs : stepV l level ≠ 0) : clsV (stepV l level) = 2 := by
  rcases step_way l level with ⟨h, _⟩ | ⟨h1, h2, _⟩
  · exact absurd h hs
  · have : stepV l level = 6 ∨ stepV l level = 7 ∨ stepV l level = 8 := by omega
    rcases this with h | h | h <;> rw [h] <;> rfl
theorem grp_tidy (sub : List Lin → List Nd) (level : Nat) (t : Int) (d : List Lin) (hok : ∀ l ∈ d, LineOk l) (hp : ∀ l ∈ d, ParOk t level l)
    (hsub : ∀ x p, (∀ y ∈ x :: p, y ∈ d) → stepV x level ≠ 0 → (∀ y ∈ x :: p, stepV y level = stepV x level) → tidyL (stepV x level) none (sub (x :: p)) 0 = true) :
    tidyL t none ((grp (alLine level) d).map (grpN sub level)) 0 = true := by
  have hone : ∀ x p, (grpN sub level (x :: p) = nodeV x ∧ stepV x level = 0) ∨ (grpN sub level (x :: p) = .mk (stepV x level) [] ⟨#[]⟩ (sub (x :: p)) ∧ stepV x level ≠ 0) := fun x p => by
    unfold grpN
    by_cases h : stepV x level = 0
    · exact .inl ⟨if_pos h, h⟩
    · exact .inr ⟨if_neg h, h⟩
  rw [tidyL_all, Bool.and_eq_true, map_flat]
  constructor
  · refine List.all_eq_true.2 fun k hk0 => ?_
    obtain ⟨g, hg, hk⟩ := List.mem_flatMap.1 hk0
    clear hk0
    revert hk
    revert k
    refine grp_mem (alLine level) d (fun g => ∀ k ∈ [grpN sub level g], okKid t 0 k = true) (fun x p hal hm k hk => ?_) d (fun y hy => hy) g hg
    rw [List.mem_singleton] at hk
    have hx := hm x (List.mem_cons_self ..)
    rcases hone x p with ⟨h1, h2⟩ | ⟨h1, h2⟩
    · rw [h1] at hk
      subst hk
      unfold okKid
      have hc := line_cls (hok x hx).kind
      have h0 : ¬ (nodeV x).tag = 0 := fun e => by rw [e] at hc; exact absurd hc (by decide)
      rw [may_line (hok x hx).kind (hp x hx) h2, node_tidy (hok x hx), decide_eq_false h0]
      rfl
    · rw [h1] at hk
      subst hk
      unfold okKid
      have hc := box_cls h2
      have h10 : ¬ stepV x level = 10 := fun e => by rw [e] at hc; exact absurd hc (by decide)
      have hst : ∀ y ∈ x :: p, stepV y level = stepV x level := fun y hy => by
        rcases List.mem_cons.1 hy with rfl | hy
        · rfl
        · have := hal y hy
          simp only [alLine, Bool.and_eq_true, decide_eq_true_eq] at this
          exact this.2.symm
      rw [show (Nd.mk (stepV x level) [] ⟨#[]⟩ (sub (x :: p))).tag = stepV x level from rfl, may_box (hp x hx) h2, decide_eq_false h2, tidyV, if_neg h10, if_neg (by decide), hsub x p hm h2 hst]
      rfl
  · refine grp_chn (alLine level) (fun p => [grpN sub level p]) (fun x a => (stepV x level = 0 → clsV a.tag = 3) ∧ (stepV x level ≠ 0 → a.tag = stepV x level)) d (fun x p hal hm => ⟨rfl, by simp, fun a ha => ?_⟩) (fun x y a b hx hy hal ha hb => ?_) d none (fun y hy => hy) (.inl rfl)
    · rw [List.mem_singleton] at ha
      subst ha
      rcases hone x p with ⟨h1, h2⟩ | ⟨h1, h2⟩
      · rw [h1]
        exact ⟨fun _ => line_cls (hok x (hm x (List.mem_cons_self ..))).kind, fun h => absurd h2 h⟩
      · rw [h1]
        exact ⟨fun h => absurd h h2, fun _ => rfl⟩
    · rw [beside_some]
      by_cases h2 : stepV y level = 0
      · have h3 := hb.1 h2
        by_cases he : a.tag = b.tag
        · simp [h3]
        · rw [decide_eq_false he]; rfl
      · have h3 := hb.2 h2
        have : ¬ a.tag = b.tag := by
          by_cases h1 : stepV x level = 0
          · intro e
            have h4 := ha.1 h1
            rw [e, h3, box_cls h2] at h4
            exact absurd h4 (by decide)
          · rw [ha.2 h1, h3]
            intro e
            simp [alLine, h1, e] at hal
            exact h2 hal
        rw [decide_eq_false this]; rfl
theorem nodes_tidy : ∀ (f level : Nat) (t : Int) (d : List Lin), (∀ l ∈ d, (wayV l).length ≤ level + f) → (∀ l ∈ d, LineOk l) → (∀ l ∈ d, ParOk t level l) → tidyL t none (nodesV f level d) 0 = true
  | 0, level, t, d, hw, hok, hp => by
    have h0 : ∀ l ∈ d, stepV l level = 0 := fun l hl => by
      rcases step_way l level with ⟨h1, _⟩ | ⟨h1, _, h3⟩
      · exact h1
      · have := hw l hl
        rw [List.drop_eq_nil_of_le (by omega)] at h3
        cases h3
    rw [nodesV_0 level d h0]
    exact grp_tidy _ level t d hok hp fun x p hm hs _ => absurd (h0 x (hm x (List.mem_cons_self ..))) hs
  | f + 1, level, t, d, hw, hok, hp => by
    rw [nodesV_eq]
    refine grp_tidy _ level t d hok hp fun x p hm hs hst => ?_
    refine nodes_tidy f (level + 1) _ (x :: p) (fun l hl => by have := hw l (hm l hl); omega) (fun l hl => hok l (hm l hl)) fun l hl => .inr ⟨Nat.succ_pos _, ?_, hs⟩
    rw [Nat.add_sub_cancel]
    exact (hst l hl).symm
theorem nodes_ne (level f : Nat) (d : List Lin) (h : d ≠ []) : nodesV f level d ≠ [] := by
  cases d with
  | nil => exact absurd rfl h
  | cons x tl =>
    cases f <;> (unfold nodesV; rw [grp]; simp)
theorem host_tidy {T : Str → Bool} {d : List Lin} (h : docMay T d = true) : (hostV T d).1.tag = 1 ∧ (hostV T d).1.kids ≠ [] ∧ tidyV (hostV T d).1 0 = true := by
  have hd : d ≠ [] := by
    intro e
    subst e
    simp [docMay] at h
  unfold hostV
  rw [if_pos h]
  refine ⟨rfl, nodes_ne 0 12 d hd, ?_⟩
  rw [tidyV, if_neg (by decide), if_neg (by decide)]
  refine nodes_tidy 12 0 1 d (host_way h) (fun l hl => ?_) (fun l hl => .inl ⟨rfl, rfl⟩)
  have := lin_may (docMay_lines h l hl)
  exact ⟨⟨this.2.2.1, this.2.2.2.1⟩, fun c hc => (may_cells (this.2.2.2.2.2.2 c hc)).2⟩
end Go.QL
end

section
/- The contracts of ref03.Target, ref05.Link, May, ref06.May, ref07.Size, May, tags.May. -/
set_option linter.unusedVariables false
set_option linter.unusedSimpArgs false
set_option maxHeartbeats 4000000
namespace Go.Proofs.YtokbhcnomffopaaGreatDoor
open Go Go.QL

theorem target3_calls (s : Str) (hs : s.size ≤ 1073741824) : ICalls Tryz.prog 108 [.str s] [] (fun u _ => u = .bool (targetR s)) := by
  refine x_enter Tryz.func108 Tryz.ntmps108 ?_
  refine ic_seq ?_
  refine ic_region ?_
  refine x_op ?_
  refine il_nil ?_
  refine ic_seq ?_
  refine x_mid [26] [7, 8, 9, 10, 11, 12, 13, 14, 15, 16, 17, 18, 19, 20, 21, 22, 23, 24, 25] (fun vs σ => vs = [.bool ((((!valueR s) || decide (s = ⟨#[]⟩)) || decide (sbyte s 0 = 32)) || decide (sbyte s (s.size - 1) = 32))] ∧ σ = []) ?_ ?_
  · refine ic_region ?_
    refine x_op ?_
    refine x_cv (value3_calls s hs) ?_
    refine x_op ?_
    refine x_op ?_
    rcases Bool.eq_false_or_eq_true (!valueR s) with h | h
    · simp only [h]
      first | refine n_op ?_ | refine y_op ?_
      first | refine n_op ?_ | refine y_op ?_
      refine x_op ?_
      refine x_op ?_
      first | refine n_op ?_ | refine y_op ?_
      first | refine n_op ?_ | refine y_op ?_
      first | refine n_op ?_ | refine y_op ?_
      refine x_op ?_
      refine x_op ?_
      first | refine n_op ?_ | refine y_op ?_
      first | refine n_op ?_ | refine y_op ?_
      first | refine n_op ?_ | refine y_op ?_
      first | refine n_op ?_ | refine y_op ?_
      first | refine n_op ?_ | refine y_op ?_
      first | refine n_op ?_ | refine y_op ?_
      refine x_op ?_
      refine il_nil ?_
      exact x_there
    simp only [h]
    refine y_op ?_
    refine y_op ?_
    refine x_op ?_
    refine x_op ?_
    by_cases he : s = ⟨#[]⟩
    · have hd : decide (s = (⟨#[]⟩ : ByteArray)) = true := decide_eq_true he
      simp only [hd]
      first | refine n_op ?_ | refine y_op ?_
      first | refine n_op ?_ | refine y_op ?_
      first | refine n_op ?_ | refine y_op ?_
      refine x_op ?_
      refine x_op ?_
      first | refine n_op ?_ | refine y_op ?_
      first | refine n_op ?_ | refine y_op ?_
      first | refine n_op ?_ | refine y_op ?_
      first | refine n_op ?_ | refine y_op ?_
      first | refine n_op ?_ | refine y_op ?_
      first | refine n_op ?_ | refine y_op ?_
      refine x_op ?_
      refine il_nil ?_
      exact x_there
    have hd : decide (s = (⟨#[]⟩ : ByteArray)) = false := decide_eq_false he
    have hpos : 0 < s.size := by
      rcases Nat.eq_zero_or_pos s.size with h | h
      · exact absurd (ByteArray.ext (Array.eq_empty_of_size_eq_zero h)) he
      · exact h
    have e : ((s.size : Int) - 1).toNat = s.size - 1 := by omega
    simp only [hd]
    refine y_op ?_
    refine y_op ?_
    refine y_op ?_
    refine x_op ?_
    refine x_op ?_
    rcases Bool.eq_false_or_eq_true (decide (sbyte s 0 = 32)) with h1 | h1
    · simp only [Int.toNat_zero, h1]
      first | refine n_op ?_ | refine y_op ?_
      first | refine n_op ?_ | refine y_op ?_
      first | refine n_op ?_ | refine y_op ?_
      first | refine n_op ?_ | refine y_op ?_
      first | refine n_op ?_ | refine y_op ?_
      first | refine n_op ?_ | refine y_op ?_
      refine x_op ?_
      refine il_nil ?_
      exact x_there
    simp only [Int.toNat_zero, h1]
    refine y_op ?_
    refine y_op ?_
    refine y_op ?_
    refine y_op ?_
    refine y_op ?_
    refine y_op ?_
    refine x_op ?_
    refine il_nil ?_
    simp only [e]
    exact x_there
  rintro vs σ ⟨rfl, rfl⟩
  simp only [sets, nf]
  refine ic_cond rfl (fun hc => ?_) (fun hc => ?_) -- t26
  · -- true
    have ht : targetR s = false := by
      simp only [Bool.or_eq_true, Bool.not_eq_true'] at hc
      rcases hc with ((h | h) | h) | h <;> simp [targetR, h]
    rw [ht]
    refine ic_seq ?_
    refine ic_region ?_
    refine x_op ?_
    refine il_nil ?_
    refine ic_ret ?_
    repeat (first | with_reducible refine it_ret ?_ | with_reducible refine ib_ret ?_)
    exact x_res1 Tryz.results108 rfl
  have ht : targetR s = !scriptR s := by
    simp only [Bool.or_eq_false_iff, Bool.not_eq_false'] at hc
    obtain ⟨⟨⟨h1, h2⟩, h3⟩, h4⟩ := hc
    simp [targetR, h1, h2, h3, h4]
  rw [ht]
  refine ic_skip ?_
  refine ic_seq ?_
  refine ic_region ?_
  refine x_op ?_
  refine il_nil ?_
  refine ic_seq ?_
  refine ic_region ?_
  refine x_op ?_
  refine il_nil ?_
  refine ic_seq ?_
  refine ic_block ?_ -- 0
  refine x_loop [4] [7, 8, 9, 10, 11, 12, 13, 14, 15, 16, 17, 18, 19, 20, 21, 22, 23, 24, 25, 26, 27, 28, 29, 30, 31, 32, 33, 34, 35, 36, 37, 38] (fun m vs σ => ∃ i : Nat, i ≤ s.size ∧ (∀ j, j < i → sbyte s j ≠ 58) ∧ m = s.size - i ∧ vs = [.int .i64 i] ∧ σ = []) ⟨0, Nat.zero_le _, fun j h => absurd h (Nat.not_lt_zero _), rfl, rfl, rfl⟩ ?_
  rintro m vs σ ⟨i, hi, hpre, rfl, rfl, rfl⟩
  simp only [sets, nf]
  refine ic_seq ?_
  refine x_mid [36] [27, 28, 29, 30, 31, 32, 33, 34, 35] (fun vs σ => vs = [.bool (decide ((i : Int) < (s.size : Int)) && !decide (sbyte s i = 58))] ∧ σ = []) ?_ ?_
  · refine ic_region ?_
    refine x_op ?_
    refine x_op ?_
    refine x_op ?_
    refine x_op ?_
    refine x_op ?_
    by_cases hil : i < s.size
    · have hd : decide ((i : Int) < (s.size : Int)) = true := decide_eq_true (by omega)
      simp only [hd]
      refine y_op ?_
      refine y_op ?_
      refine y_op ?_
      refine y_op ?_
      refine x_op ?_
      refine il_nil ?_
      simp only [Int.toNat_natCast]
      exact x_there
    · have hd : decide ((i : Int) < (s.size : Int)) = false := decide_eq_false (by omega)
      simp only [hd]
      refine n_op ?_
      refine n_op ?_
      refine n_op ?_
      refine n_op ?_
      refine x_op ?_
      refine il_nil ?_
      exact x_there
  rintro vs σ ⟨rfl, rfl⟩
  simp only [sets, nf]
  refine ic_cond rfl (fun hc => ?_) (fun hc => ?_) -- t36
  · -- true
    rw [Bool.and_eq_true, Bool.not_eq_true'] at hc
    have hil : i < s.size := by have := of_decide_eq_true hc.1; omega
    have hne := of_decide_eq_false hc.2
    refine ic_skip ?_
    refine ic_block ?_ -- 1
    refine ic_region ?_
    refine x_op ?_
    refine x_op ?_
    refine x_op ?_
    refine il_nil ?_
    exact x_next (s.size - (i + 1)) ⟨i + 1, by omega, fun j hj => (by
      rcases Nat.lt_or_ge j i with h | h
      · exact hpre j h
      · obtain rfl : j = i := by omega
        exact hne), rfl, rfl, rfl⟩ (by omega) -- round
  -- false
  have hend : i = s.size ∨ sbyte s i = 58 := by
    rw [Bool.and_eq_false_iff, Bool.not_eq_false'] at hc
    rcases hc with h | h
    · exact .inl (by have := of_decide_eq_false h; omega)
    · exact .inr (of_decide_eq_true h)
  have hh := head_len s i hi hpre hend
  refine ic_exit ?_ -- 0
  refine ic_seq ?_
  refine ic_seq ?_
  refine ic_region ?_
  refine x_op ?_
  refine x_op ?_
  refine x_op ?_
  refine x_op ?_
  refine il_nil ?_
  have e10 : (ByteArray.size ⟨#[106, 97, 118, 97, 115, 99, 114, 105, 112, 116]⟩) = 10 := rfl
  simp only [e10]
  refine ic_cond rfl (fun hc => ?_) (fun hc => ?_) -- t42
  · -- true
    have hne : i ≠ 10 := fun e => by subst e; simp at hc
    rw [script_len s i hi hh hne]
    refine ic_seq ?_
    refine ic_region ?_
    refine x_op ?_
    refine il_nil ?_
    refine ic_ret ?_
    repeat (first | with_reducible refine it_ret ?_ | with_reducible refine ib_ret ?_)
    exact x_res1 Tryz.results108 rfl
  obtain rfl : i = 10 := by
    have h : (i : Int) = ((10 : Nat) : Int) := by simpa using hc
    omega
  -- false
  refine ic_skip ?_
  refine ic_seq ?_
  refine ic_seq ?_
  refine ic_region ?_
  refine x_op ?_
  refine il_nil ?_
  refine ic_block ?_ -- 2
  refine x_loop [5] [2, 6, 27, 28, 29, 30, 31, 32, 33, 34, 35, 36, 37, 38, 39, 40, 41, 42, 43, 44, 45, 46, 47, 48, 49, 50, 51, 52, 53, 54, 55, 56, 57, 58, 59, 60, 61, 62, 63] (fun m vs σ => ∃ k : Nat, k ≤ 10 ∧ (∀ j, j < k → lowI (sbyte s j) = sbyte wordS j) ∧ m = 10 - k ∧ vs = [.int .i64 k] ∧ σ = []) ⟨0, Nat.zero_le _, fun j h => absurd h (Nat.not_lt_zero _), rfl, rfl, rfl⟩ ?_
  rintro m vs σ ⟨k, hk, hlow, rfl, rfl, rfl⟩
  simp only [sets, nf]
  refine ic_seq ?_
  refine ic_seq ?_
  refine ic_region ?_
  refine x_op ?_
  refine x_op ?_
  refine x_op ?_
  refine il_nil ?_
  refine ic_cond rfl (fun hc => ?_) (fun hc => ?_) -- t45
  · -- true
    have hkl : k < 10 := by have := of_decide_eq_true hc; omega
    have hw10 : (k : Int) < ((ByteArray.size ⟨#[106, 97, 118, 97, 115, 99, 114, 105, 112, 116]⟩ : Nat) : Int) := by rw [e10]; omega
    have hr := sbyte_range s k
    refine ic_skip ?_
    refine ic_seq ?_
    refine ic_block ?_ -- 3
    refine ic_seq ?_
    refine ic_region ?_
    refine x_op ?_
    refine x_op ?_
    refine x_op ?_
    refine x_op ?_
    refine il_nil ?_
    simp only [Int.toNat_natCast]
    refine x_mid [6] [46, 47, 48, 49, 50, 51, 52, 53, 54, 55, 56, 57, 58] (fun vs σ => vs = [.int .u8 (lowI (sbyte s k))] ∧ σ = []) ?_ ?_
    · refine x_mid [56] [46, 47, 48, 49, 50, 51, 52, 53, 54, 55] (fun vs σ => vs = [.bool (decide (65 ≤ sbyte s k) && decide (sbyte s k ≤ 90))] ∧ σ = []) ?_ ?_
      · refine ic_region ?_
        repeat' (first | refine x_op ?_ | refine n_op ?_ | refine y_op ?_ | refine il_split (fun _ => ?_) (fun _ => ?_) | refine il_nil ?_)
        all_goals exact x_there
      rintro vs σ ⟨rfl, rfl⟩
      simp only [sets, nf]
      refine ic_cond rfl (fun hc => ?_) (fun hc => ?_) -- t56
      · -- true
        simp only [Bool.and_eq_true, decide_eq_true_eq] at hc
        have e2 : IntKind.wrap .u8 (sbyte s k + 32) = lowI (sbyte s k) := by
          unfold lowI
          rw [if_pos hc]
          rw [IntKind.wrap_u8]
          omega
        refine ic_region ?_
        refine x_op ?_
        refine x_op ?_
        refine x_op ?_
        refine il_nil ?_
        simp only [e2]
        exact x_there
      · -- false
        simp only [Bool.and_eq_false_iff, decide_eq_false_iff_not] at hc
        have e2 : sbyte s k = lowI (sbyte s k) := by
          unfold lowI
          rw [if_neg (by omega)]
        refine ic_skip ?_
        rw [← e2]
        exact x_there
    rintro vs σ ⟨rfl, rfl⟩
    simp only [sets, nf]
    refine ic_seq ?_
    refine ic_region ?_
    refine x_op ?_
    refine x_op ?_
    refine x_op ?_
    refine x_op ?_
    refine x_op ?_
    refine il_nil ?_
    simp only [Int.toNat_natCast]
    refine ic_cond rfl (fun hc => ?_) (fun hc => ?_) -- t63
    · -- true
      rw [script_byte s hi hh k hkl (fun e => by
        have hc : (!decide (lowI (sbyte s k) = sbyte wordS k)) = true := hc
        rw [decide_eq_true e] at hc
        cases hc)]
      refine ic_seq ?_
      refine ic_region ?_
      refine x_op ?_
      refine il_nil ?_
      refine ic_ret ?_
      repeat (first | with_reducible refine it_ret ?_ | with_reducible refine ib_ret ?_)
      exact x_res1 Tryz.results108 rfl
    · -- false
      have he : lowI (sbyte s k) = sbyte wordS k := by
        have hc : (!decide (lowI (sbyte s k) = sbyte wordS k)) = false := hc
        simpa using hc
      refine ic_skip ?_
      refine ic_region ?_
      refine x_op ?_
      refine x_op ?_
      refine x_op ?_
      refine il_nil ?_
      exact x_next (10 - (k + 1)) ⟨k + 1, by omega, fun j hj => (by
        rcases Nat.lt_or_ge j k with h | h
        · exact hlow j h
        · obtain rfl : j = k := by omega
          exact he), rfl, rfl, rfl⟩ (by omega) -- round
  · -- false
    obtain rfl : k = 10 := by have := of_decide_eq_false hc; omega
    rw [script_all s hi hh hlow]
    refine ic_exit ?_ -- 2
    refine ic_seq ?_
    refine ic_region ?_
    refine x_op ?_
    refine il_nil ?_
    refine ic_ret ?_
    repeat (first | with_reducible refine it_ret ?_ | with_reducible refine ib_ret ?_)
    exact x_res1 Tryz.results108 rfl
theorem link5_calls (h : Str) (hs : h.size ≤ 1073741824) : ICalls Tryz.prog 84 [.str h] [] (fun u _ => u = .bool (linkMay targetV h)) := by
  refine x_enter Tryz.func84 Tryz.ntmps84 ?_
  refine ic_seq ?_
  refine ic_region ?_
  refine x_op ?_
  refine il_nil ?_
  refine x_mid [2] [3, 4, 5, 6, 7, 8] (fun vs σ => vs = [.bool (decide (h = ⟨#[]⟩) || targetR h)] ∧ σ = []) ?_ ?_
  · refine ic_region ?_
    repeat' (first | refine x_op ?_ | refine n_op ?_ | refine x_cv (target3_calls h hs) ?_ | refine y_cv (target3_calls h hs) ?_ | refine y_op ?_ | refine il_split (fun _ => ?_) (fun _ => ?_) | refine il_nil ?_)
    all_goals exact x_there
  rintro vs σ ⟨rfl, rfl⟩
  simp only [sets, nf]
  refine ic_ret ?_
  repeat (first | with_reducible refine it_ret ?_ | with_reducible refine ib_ret ?_)
  exact x_ret1v Tryz.results84 (he := by rw [targetR_eq]; rfl)
theorem may5_calls (l : List Cel) (b : Bool) (hl : l.length ≤ 1125899906842624) (hh : ∀ c ∈ l, c.href.size ≤ 1073741824) : ICalls Tryz.prog 67 [.sl b (l.map eC)] [] (fun u _ => u = .bool (!l.any (celNot targetV))) := by
  refine x_enter Tryz.func67 Tryz.ntmps67 ?_
  refine ic_seq ?_
  refine ic_region ?_
  refine x_op ?_
  refine il_nil ?_
  refine ic_seq ?_
  refine ic_seq ?_
  refine ic_region ?_
  refine x_op ?_
  refine il_nil ?_
  refine ic_block ?_ -- 0
  refine x_loop [3] [2, 4, 5, 6, 7, 8, 9, 10, 11, 12, 13, 14, 15, 16, 17, 18, 19, 20, 21, 22, 23, 24, 25, 26, 27, 28, 29, 30, 31, 32, 33, 34, 35, 36, 37, 38, 39] (fun m vs σ => ∃ i : Nat, i ≤ l.length ∧ (l.drop i).any (celNot targetV) = l.any (celNot targetV) ∧ m = l.length - i ∧ vs = [.int .i64 i] ∧ σ = []) ⟨0, Nat.zero_le _, rfl, rfl, rfl, rfl⟩ ?_
  rintro m vs σ ⟨i, hi, hany, rfl, rfl, rfl⟩
  simp only [sets, nf]
  refine ic_seq ?_
  refine ic_seq ?_
  refine ic_region ?_
  refine x_op ?_
  refine x_op ?_
  refine x_op ?_
  refine x_op ?_
  refine il_nil ?_
  refine ic_cond rfl (fun hc => ?_) (fun hc => ?_) -- t8
  · -- true
    have hil : i < l.length := by have := of_decide_eq_true hc; omega
    obtain ⟨c, hcc⟩ : ∃ c, l[i] = c := ⟨_, rfl⟩
    have hix : (l.map eC)[((i : Nat) : Int).toNat]? = some (eC c) := by simp [hil, hcc]
    have hcm := hh c (hcc ▸ List.getElem_mem hil)
    rw [List.drop_eq_getElem_cons hil, List.any_cons, hcc] at hany
    refine ic_skip ?_
    refine ic_seq ?_
    refine ic_block ?_ -- 1
    refine ic_seq ?_
    refine ic_region ?_
    refine x_op ?_
    refine x_op ?_
    refine x_op ?_
    refine x_op ?_
    refine x_op ?_
    refine x_op ?_
    refine il_nil ?_
    refine x_mid [39] [4, 5, 6, 7, 8, 9, 10, 11, 12, 14, 15, 16, 17, 18, 19, 20, 21, 22, 23, 24, 25, 26, 27, 28, 29, 30, 31, 32, 33, 34, 35, 36, 37, 38] (fun vs σ => vs = [.bool (celNot targetV c)] ∧ σ = [.box 57 (clc c)]) ?_ ?_
    · unfold celNot
      refine ic_region ?_
      repeat' (first | refine x_op ?_ | refine n_op ?_ | refine x_cv (may1_calls c.r) ?_ | refine y_cv (may1_calls c.r) ?_ | refine x_cv (link5_calls c.href hcm) ?_ | refine y_cv (link5_calls c.href hcm) ?_ | refine y_op ?_ | refine il_split (fun _ => ?_) (fun _ => ?_) | refine il_nil ?_)
      all_goals exact x_there
    rintro vs σ ⟨rfl, rfl⟩
    simp only [sets, nf]
    refine ic_cond rfl (fun hc => ?_) (fun hc => ?_) -- t39
    · -- true
      rw [hc, Bool.true_or] at hany
      rw [← hany]
      refine ic_seq ?_
      refine ic_region ?_
      refine x_op ?_
      refine il_nil ?_
      refine ic_ret ?_
      repeat (first | with_reducible refine it_ret ?_ | with_reducible refine ib_ret ?_)
      exact x_res1 Tryz.results67 rfl
    · -- false
      rw [hc, Bool.false_or] at hany
      refine ic_skip ?_
      refine ic_region ?_
      refine x_op ?_
      refine x_op ?_
      refine x_op ?_
      refine il_nil ?_
      exact x_next (l.length - (i + 1)) ⟨i + 1, by omega, hany, rfl, rfl, rfl⟩ (by omega) -- round
  · -- false
    obtain rfl : i = l.length := by have := of_decide_eq_false hc; omega
    rw [List.drop_length] at hany
    rw [← hany]
    refine ic_exit ?_ -- 0
    refine ic_seq ?_
    refine ic_region ?_
    refine x_op ?_
    refine il_nil ?_
    refine ic_ret ?_
    repeat (first | with_reducible refine it_ret ?_ | with_reducible refine ib_ret ?_)
    exact x_res1 Tryz.results67 rfl
theorem may6_calls (l : Lin) (hl : l.cells.length ≤ 1125899906842624) (hl2 : l.lists.length ≤ 1125899906842624) (hh : ∀ c ∈ l.cells, c.href.size ≤ 1073741824) : ICalls Tryz.prog 39 [eL l] [] (fun u _ => u = .bool (linMay targetV l)) := by
  refine x_enter Tryz.func39 Tryz.ntmps39 ?_
  refine ic_seq ?_
  refine ic_region ?_
  refine x_op ?_
  refine x_op ?_
  refine il_nil ?_
  refine ic_seq ?_
  refine x_mid [27] [4, 5, 6, 7, 8, 9, 10, 11, 12, 13, 14, 15, 16, 17, 18, 19, 20, 21, 22, 23, 24, 25, 26] (fun vs σ => vs = [.bool (lin1 l)] ∧ σ = [.box 31 (lnc l)]) ?_ ?_
  · unfold lin1
    refine ic_region ?_
    repeat' (first | refine x_op ?_ | refine n_op ?_ | refine y_op ?_ | refine il_split (fun _ => ?_) (fun _ => ?_) | refine il_nil ?_)
    all_goals exact x_there
  rintro vs σ ⟨rfl, rfl⟩
  simp only [sets, nf, lnc]
  refine ic_cond rfl (fun h1 => ?_) (fun h1 => ?_) -- t27
  · -- true
    rw [show linMay targetV l = false by rw [linMay, h1]; rfl]
    refine ic_seq ?_
    refine ic_region ?_
    refine x_op ?_
    refine il_nil ?_
    refine ic_ret ?_
    repeat (first | with_reducible refine it_ret ?_ | with_reducible refine ib_ret ?_)
    exact x_res1 Tryz.results39 rfl
  refine ic_skip ?_
  refine ic_seq ?_
  refine ic_seq ?_
  refine ic_region ?_
  refine x_op ?_
  refine il_nil ?_
  refine ic_block ?_ -- 0
  refine x_loop [3] [2, 4, 5, 6, 7, 8, 9, 10, 11, 12, 13, 14, 15, 16, 17, 18, 19, 20, 21, 22, 23, 24, 25, 26, 27, 28, 29, 30, 31, 32, 33, 34, 35, 36, 37, 38, 39, 40, 41, 42, 43, 44, 45, 46, 47, 48, 49, 50, 51, 52, 53] (fun m vs σ => ∃ i : Nat, i ≤ l.lists.length ∧ (l.lists.drop i).any (fun k => lstNot k || !decide (l.kind = 0)) = l.lists.any (fun k => lstNot k || !decide (l.kind = 0)) ∧ m = l.lists.length - i ∧ vs = [.int .i64 i] ∧ σ = [.box 31 (lnc l)]) ⟨0, Nat.zero_le _, rfl, rfl, rfl, rfl⟩ ?_
  rintro m vs σ ⟨i, hi, hany, rfl, rfl, rfl⟩
  simp only [sets, nf, lnc]
  refine ic_seq ?_
  refine ic_seq ?_
  refine ic_region ?_
  refine x_op ?_
  refine x_op ?_
  refine x_op ?_
  refine x_op ?_
  refine x_op ?_
  refine il_nil ?_
  have hsplit : l.lists.any (fun k => lstNot k || !decide (l.kind = 0)) = (lin2 l || l.lists.any lstNot) := by
    unfold lin2
    rcases Bool.eq_false_or_eq_true (!decide (l.kind = 0)) with h | h
    · rw [h]
      simp only [Bool.or_true, Bool.and_true]
      cases l.lists with
      | nil => rfl
      | cons x xs => simp
    · rw [h]
      simp only [Bool.or_false, Bool.and_false, Bool.false_or]
  refine ic_cond rfl (fun hc => ?_) (fun hc => ?_) -- t32
  · -- true
    have hil : i < l.lists.length := by have := of_decide_eq_true hc; omega
    obtain ⟨k, hk⟩ : ∃ k, l.lists[i] = k := ⟨_, rfl⟩
    have hix : (l.lists.map eI)[((i : Nat) : Int).toNat]? = some (eI k) := by simp [hil, hk]
    rw [List.drop_eq_getElem_cons hil, List.any_cons, hk] at hany
    refine ic_skip ?_
    refine ic_seq ?_
    refine ic_block ?_ -- 1
    refine x_mid [53] [28, 29, 30, 31, 32, 33, 34, 35, 36, 37, 38, 39, 40, 41, 42, 43, 44, 45, 46, 47, 48, 49, 50, 51, 52] (fun vs σ => vs = [.bool ((!decide (k = 0) && !decide (k = 1)) || !decide (l.kind = 0))] ∧ σ = [.box 31 (lnc l)]) ?_ ?_
    · refine ic_region ?_
      repeat' (first | refine x_op ?_ | refine n_op ?_ | refine y_op ?_ | refine il_split (fun _ => ?_) (fun _ => ?_) | refine il_nil ?_)
      all_goals exact x_there
    rintro vs σ ⟨rfl, rfl⟩
    simp only [sets, nf, lnc]
    have hany : (((!decide (k = 0) && !decide (k = 1)) || !decide (l.kind = 0)) || (l.lists.drop (i + 1)).any (fun k => lstNot k || !decide (l.kind = 0))) = l.lists.any (fun k => lstNot k || !decide (l.kind = 0)) := hany
    refine ic_cond rfl (fun hc => ?_) (fun hc => ?_) -- t53
    · -- true
      rw [hc, Bool.true_or, hsplit] at hany
      rw [show linMay targetV l = false by
        rw [linMay]
        rcases Bool.or_eq_true _ _ ▸ hany.symm with h | h
        · rw [h]; simp
        · rw [h]; simp]
      refine ic_seq ?_
      refine ic_region ?_
      refine x_op ?_
      refine il_nil ?_
      refine ic_ret ?_
      repeat (first | with_reducible refine it_ret ?_ | with_reducible refine ib_ret ?_)
      exact x_res1 Tryz.results39 rfl
    · -- false
      rw [hc, Bool.false_or] at hany
      refine ic_skip ?_
      refine ic_region ?_
      refine x_op ?_
      refine x_op ?_
      refine x_op ?_
      refine il_nil ?_
      exact x_next (l.lists.length - (i + 1)) ⟨i + 1, by omega, hany, rfl, rfl, rfl⟩ (by omega) -- round
  · -- false
    obtain rfl : i = l.lists.length := by have := of_decide_eq_false hc; omega
    rw [List.drop_length, hsplit] at hany
    have h2 : lin2 l = false ∧ l.lists.any lstNot = false := by
      have : (lin2 l || l.lists.any lstNot) = false := hany.symm
      rwa [Bool.or_eq_false_iff] at this
    rw [show linMay targetV l = !l.cells.any (celNot targetV) by rw [linMay, h1, h2.1, h2.2]; simp]
    refine ic_exit ?_ -- 0
    refine ic_seq ?_
    refine ic_region ?_
    refine x_op ?_
    refine x_op ?_
    refine x_cv (may5_calls l.cells false hl hh) ?_
    refine x_op ?_
    refine il_nil ?_
    refine ic_ret ?_
    repeat (first | with_reducible refine it_ret ?_ | with_reducible refine ib_ret ?_)
    exact x_res1 Tryz.results39 rfl
theorem size7_calls (d : List Lin) (b : Bool) (hl : d.length ≤ 4294967296) (hs : dsize d ≤ 1099511627776) : ICalls Tryz.prog 8 [.sl b (d.map eL)] [] (fun u _ => u = .int .i64 (dsize d : Nat)) := by
  refine x_enter Tryz.func8 Tryz.ntmps8 ?_
  refine ic_seq ?_
  refine ic_region ?_
  refine x_op ?_
  refine il_nil ?_
  refine ic_seq ?_
  refine ic_region ?_
  refine x_op ?_
  refine il_nil ?_
  refine ic_seq ?_
  refine ic_seq ?_
  refine ic_region ?_
  refine x_op ?_
  refine il_nil ?_
  refine ic_block ?_ -- 0
  refine x_loop [3, 4] [5, 6, 7, 8, 9, 10, 11, 12, 13, 14, 15, 16, 17, 18] (fun m vs σ => ∃ i : Nat, i ≤ d.length ∧ m = d.length - i ∧ vs = [.int .i64 (dsize (d.take i) : Nat), .int .i64 i] ∧ σ = []) ⟨0, Nat.zero_le _, rfl, rfl, rfl⟩ ?_
  rintro m vs σ ⟨i, hi, rfl, rfl, rfl⟩
  simp only [sets, nf]
  refine ic_seq ?_
  refine ic_seq ?_
  refine ic_region ?_
  refine x_op ?_
  refine x_op ?_
  refine x_op ?_
  refine x_op ?_
  refine il_nil ?_
  refine ic_cond rfl (fun hc => ?_) (fun hc => ?_) -- t8
  · -- true
    have hil : i < d.length := by have := of_decide_eq_true hc; omega
    have hix : (d.map eL)[((i : Nat) : Int).toNat]? = some (eL d[i]) := by simp [hil]
    have h1 := dsize_take d i hil
    have h2 := dsize_take_le d (i + 1)
    refine ic_skip ?_
    refine ic_seq ?_
    refine ic_block ?_ -- 1
    refine ic_region ?_
    refine x_op ?_
    refine x_op ?_
    refine x_op ?_
    refine x_op ?_
    refine x_op ?_
    refine x_op ?_
    refine x_op ?_
    refine x_op ?_
    refine x_op ?_
    refine il_nil ?_
    refine ic_region ?_
    refine x_op ?_
    refine x_op ?_
    refine x_op ?_
    refine il_nil ?_
    rw [show ((dsize (d.take i) : Nat) : Int) + (d[i].cells.length : Int) = ((dsize (d.take (i + 1)) : Nat) : Int) by omega]
    exact x_next (d.length - (i + 1)) ⟨i + 1, by omega, rfl, rfl, rfl⟩ (by omega) -- round
  · -- false
    obtain rfl : i = d.length := by have := of_decide_eq_false hc; omega
    rw [List.take_length]
    refine ic_exit ?_ -- 0
    refine ic_seq ?_
    refine ic_region ?_
    refine x_op ?_
    refine x_op ?_
    refine il_nil ?_
    refine ic_ret ?_
    repeat (first | with_reducible refine it_ret ?_ | with_reducible refine ib_ret ?_)
    exact x_res1 Tryz.results8 rfl
theorem may7_calls (d : List Lin) (b : Bool) (hl : d.length ≤ 4294967296) (hs : dsize d ≤ 1099511627776) (h1 : ∀ l ∈ d, l.cells.length ≤ 1125899906842624) (h2 : ∀ l ∈ d, l.lists.length ≤ 1125899906842624) (hh : ∀ l ∈ d, ∀ c ∈ l.cells, c.href.size ≤ 1073741824) : ICalls Tryz.prog 20 [.sl b (d.map eL)] [] (fun u _ => u = .bool (docMay targetV d)) := by
  refine x_enter Tryz.func20 Tryz.ntmps20 ?_
  refine ic_seq ?_
  refine ic_region ?_
  refine x_op ?_
  refine il_nil ?_
  refine ic_seq ?_
  refine x_mid [16] [4, 5, 6, 7, 8, 9, 10, 11, 12, 13, 14, 15] (fun vs σ => vs = [.bool ((decide ((d.length : Int) < 1) || decide (200 < (d.length : Int))) || decide (4000 < (dsize d : Int)))] ∧ σ = []) ?_ ?_
  · refine ic_region ?_
    repeat' (first | refine x_op ?_ | refine n_op ?_ | refine x_cv (size7_calls d b hl hs) ?_ | refine y_cv (size7_calls d b hl hs) ?_ | refine y_op ?_ | refine il_split (fun _ => ?_) (fun _ => ?_) | refine il_nil ?_)
    all_goals exact x_there
  rintro vs σ ⟨rfl, rfl⟩
  simp only [sets, nf]
  have hfirst : docMay targetV d = (!((decide ((d.length : Int) < 1) || decide (200 < (d.length : Int))) || decide (4000 < (dsize d : Int))) && !(d.any fun l => !linMay targetV l)) := by
    unfold docMay
    congr 1
    rw [Bool.eq_iff_iff]
    simp only [Bool.and_eq_true, decide_eq_true_eq, Bool.not_eq_true', Bool.or_eq_false_iff, decide_eq_false_iff_not]
    omega
  refine ic_cond rfl (fun hc => ?_) (fun hc => ?_) -- t16
  · -- true
    rw [hfirst, hc]
    refine ic_seq ?_
    refine ic_region ?_
    refine x_op ?_
    refine il_nil ?_
    refine ic_ret ?_
    repeat (first | with_reducible refine it_ret ?_ | with_reducible refine ib_ret ?_)
    exact x_res1 Tryz.results20 rfl
  rw [hfirst, hc, Bool.not_false, Bool.true_and]
  refine ic_skip ?_
  refine ic_seq ?_
  refine ic_seq ?_
  refine ic_region ?_
  refine x_op ?_
  refine il_nil ?_
  refine ic_block ?_ -- 0
  refine x_loop [3] [2, 4, 5, 6, 7, 8, 9, 10, 11, 12, 13, 14, 15, 16, 17, 18, 19, 20, 21, 22, 23, 24, 25, 26, 27, 28] (fun m vs σ => ∃ i : Nat, i ≤ d.length ∧ (d.drop i).any (fun l => !linMay targetV l) = d.any (fun l => !linMay targetV l) ∧ m = d.length - i ∧ vs = [.int .i64 i] ∧ σ = []) ⟨0, Nat.zero_le _, rfl, rfl, rfl, rfl⟩ ?_
  rintro m vs σ ⟨i, hi, hany, rfl, rfl, rfl⟩
  simp only [sets, nf]
  refine ic_seq ?_
  refine ic_seq ?_
  refine ic_region ?_
  refine x_op ?_
  refine x_op ?_
  refine x_op ?_
  refine x_op ?_
  refine il_nil ?_
  refine ic_cond rfl (fun hc => ?_) (fun hc => ?_) -- t20
  · -- true
    have hil : i < d.length := by have := of_decide_eq_true hc; omega
    obtain ⟨l, hll⟩ : ∃ l, d[i] = l := ⟨_, rfl⟩
    have hix : (d.map eL)[((i : Nat) : Int).toNat]? = some (eL l) := by simp [hil, hll]
    have hm : l ∈ d := hll ▸ List.getElem_mem hil
    rw [List.drop_eq_getElem_cons hil, List.any_cons, hll] at hany
    refine ic_skip ?_
    refine ic_seq ?_
    refine ic_block ?_ -- 1
    refine ic_seq ?_
    refine ic_region ?_
    refine x_op ?_
    refine x_op ?_
    refine x_op ?_
    refine x_op ?_
    refine x_cv (may6_calls l (h1 l hm) (h2 l hm) (hh l hm)) ?_
    refine x_op ?_
    refine il_nil ?_
    refine ic_cond rfl (fun hc => ?_) (fun hc => ?_) -- t28
    · -- true
      rw [hc, Bool.true_or] at hany
      rw [← hany]
      refine ic_seq ?_
      refine ic_region ?_
      refine x_op ?_
      refine il_nil ?_
      refine ic_ret ?_
      repeat (first | with_reducible refine it_ret ?_ | with_reducible refine ib_ret ?_)
      exact x_res1 Tryz.results20 rfl
    · -- false
      rw [hc, Bool.false_or] at hany
      refine ic_skip ?_
      refine ic_region ?_
      refine x_op ?_
      refine x_op ?_
      refine x_op ?_
      refine il_nil ?_
      exact x_next (d.length - (i + 1)) ⟨i + 1, by omega, hany, rfl, rfl, rfl⟩ (by omega) -- round
  · -- false
    obtain rfl : i = d.length := by have := of_decide_eq_false hc; omega
    rw [List.drop_length] at hany
    rw [← hany]
    refine ic_exit ?_ -- 0
    refine ic_seq ?_
    refine ic_region ?_
    refine x_op ?_
    refine il_nil ?_
    refine ic_ret ?_
    repeat (first | with_reducible refine it_ret ?_ | with_reducible refine ib_ret ?_)
    exact x_res1 Tryz.results20 rfl
end Go.Proofs.YtokbhcnomffopaaGreatDoor
end

section
/- The contracts of tags.May, law19.tidy, law19.RenderTidy. -/
set_option linter.unusedVariables false
set_option linter.unusedSimpArgs false
set_option maxHeartbeats 4000000
namespace Go.Proofs.YtokbhcnomffopaaGreatDoor
open Go Go.QL

theorem tagsMay_calls (p k : Int) : ICalls Tryz.prog 40 [.int .i64 p, .int .i64 k] [] (fun u _ => u = .bool (mayTag p k)) := by
  have hrow : clsV p = 3 ∨ (clsV p = 4 ∧ ¬ (p = 10 ∧ k = 10)) → mayTag p k = ((decide (clsV k = 4) || decide (clsV k = 5)) || decide (clsV k = 1)) := fun h => by
    have e : decide (clsV k = 4 ∨ clsV k = 5 ∨ clsV k = 1) = ((decide (clsV k = 4) || decide (clsV k = 5)) || decide (clsV k = 1)) := by rw [Bool.decide_or, Bool.decide_or, Bool.or_assoc]
    unfold mayTag
    rcases h with h | ⟨h, h2⟩
    · rw [h, if_neg (by decide), if_neg (by decide), if_pos rfl, e]
    · rw [h, if_neg (by decide), if_pos rfl, if_neg h2, e]
  refine x_enter Tryz.func40 Tryz.ntmps40 ?_
  refine ic_seq ?_
  refine ic_region ?_
  refine x_op ?_
  refine il_nil ?_
  refine ic_seq ?_
  refine ic_region ?_
  refine x_op ?_
  refine x_cv (class_calls' k) ?_
  refine x_op ?_
  refine il_nil ?_
  refine x_mid [] [4, 8, 9, 10, 11, 12, 13, 14, 15, 16, 17, 18, 19, 20, 21, 22, 23, 24, 25, 26, 27, 28, 29, 30, 31, 32, 33, 34, 35, 36, 37, 38, 39, 40, 41, 42, 43, 44, 45, 46, 47, 48, 49, 50, 51, 52, 53, 54, 55, 56, 57, 58, 59, 60, 61] (fun vs σ => vs = [] ∧ σ = [] ∧ mayTag p k = false) ?_ ?_
  ·
    refine ic_seq ?_
    refine ic_region ?_
    refine x_op ?_
    refine x_cv (class_calls' p) ?_
    refine il_nil ?_
    refine ic_block ?_ -- 0
    refine x_mid [] [4, 10, 11, 12, 13, 14, 15, 16, 17, 18, 19, 20, 21, 22, 23, 24, 25, 26, 27, 28, 29, 30, 31, 32, 33, 34, 35, 36, 37, 38, 39, 40, 41, 42, 43, 44, 45, 46, 47, 48, 49, 50, 51] (fun vs σ => vs = [] ∧ σ = [] ∧ (clsV p = 3 ∨ (clsV p = 4 ∧ ¬ (p = 10 ∧ k = 10)))) ?_ ?_
    ·
      refine ic_block ?_ -- 3
      refine ic_seq ?_
      refine ic_block ?_ -- 2
      refine ic_seq ?_
      refine ic_block ?_ -- 1
      refine ic_seq ?_
      refine ic_seq ?_
      refine ic_seq ?_
      refine ic_region ?_
      refine x_op ?_
      refine x_op ?_
      refine il_nil ?_
      refine ic_cond rfl (fun h2 => ?_) (fun h2 => ?_) -- t10
      · -- true
        have h2 := of_decide_eq_true h2
        have hm : mayTag p k = if p = 7 ∨ p = 8 then decide (k = 7 ∨ k = 8 ∨ k = 9) else if k = 1 ∨ k = 9 then false else decide (clsV k = 2 ∨ clsV k = 3) := by unfold mayTag; rw [if_pos h2]
        refine ic_exit ?_ -- 1
        refine ic_seq ?_
        refine ic_seq ?_
        refine ic_block ?_ -- 4
        refine x_mid [16] [8, 9, 10, 11, 12, 13, 14, 15, 17, 18, 19, 20, 21, 22, 23, 24, 25, 26, 27, 28, 29, 30, 31, 32, 33, 34, 35, 36, 37, 38, 39, 40, 41, 42, 43, 44, 45, 46, 47, 48, 49, 50, 51, 52, 53, 54, 55, 56, 57, 58, 59, 60, 61] (fun vs σ => vs = [.bool (decide (p = 7) || decide (p = 8))] ∧ σ = []) ?_ ?_
        · refine ic_region ?_
          repeat' (first | refine x_op ?_ | refine n_op ?_ | refine y_op ?_ | refine il_split (fun _ => ?_) (fun _ => ?_) | refine il_nil ?_)
          all_goals exact x_there
        rintro vs σ ⟨rfl, rfl⟩
        simp only [sets, nf]
        refine ic_cond rfl (fun hc => ?_) (fun hc => ?_) -- t16
        · -- true
          rw [← Bool.decide_or] at hc
          rw [if_pos (of_decide_eq_true hc), Bool.decide_or, Bool.decide_or] at hm
          rw [hm]
          refine x_mid [4] [8, 9, 10, 11, 12, 13, 14, 15, 16, 17, 18, 19, 20, 21, 22, 23, 24, 25, 26, 27, 28, 29, 30, 31, 32, 33, 34, 35, 36, 37, 38, 39, 40, 41, 42, 43, 44, 45, 46, 47, 48, 49, 50, 51, 52, 53, 54, 55, 56, 57, 58, 59, 60, 61] (fun vs σ => vs = [.bool (decide (k = 7) || (decide (k = 8) || decide (k = 9)))] ∧ σ = []) ?_ ?_
          · refine ic_region ?_
            repeat' (first | refine x_op ?_ | refine n_op ?_ | refine y_op ?_ | refine il_split (fun _ => ?_) (fun _ => ?_) | refine il_nil ?_)
            all_goals exact x_there
          rintro vs σ ⟨rfl, rfl⟩
          simp only [sets, nf]
          refine ic_ret ?_
          repeat (first | with_reducible refine it_ret ?_ | with_reducible refine ib_ret ?_)
          exact x_res1 Tryz.results40 rfl
        · -- false
          rw [← Bool.decide_or] at hc
          rw [if_neg (of_decide_eq_false hc)] at hm
          refine x_mid [33] [8, 9, 10, 11, 12, 13, 14, 15, 16, 17, 18, 19, 20, 21, 22, 23, 24, 25, 26, 27, 28, 29, 30, 31, 32, 34, 35, 36, 37, 38, 39, 40, 41, 42, 43, 44, 45, 46, 47, 48, 49, 50, 51, 52, 53, 54, 55, 56, 57, 58, 59, 60, 61] (fun vs σ => vs = [.bool (decide (k = 1) || decide (k = 9))] ∧ σ = []) ?_ ?_
          · refine ic_region ?_
            repeat' (first | refine x_op ?_ | refine n_op ?_ | refine y_op ?_ | refine il_split (fun _ => ?_) (fun _ => ?_) | refine il_nil ?_)
            all_goals exact x_there
          rintro vs σ ⟨rfl, rfl⟩
          simp only [sets, nf]
          refine ic_cond rfl (fun hc => ?_) (fun hc => ?_) -- t33
          · -- true
            rw [← Bool.decide_or] at hc
            rw [if_pos (of_decide_eq_true hc)] at hm
            rw [hm]
            refine ic_seq ?_
            refine ic_region ?_
            refine x_op ?_
            refine il_nil ?_
            refine ic_ret ?_
            repeat (first | with_reducible refine it_ret ?_ | with_reducible refine ib_ret ?_)
            exact x_res1 Tryz.results40 rfl
          · -- false
            rw [← Bool.decide_or] at hc
            rw [if_neg (of_decide_eq_false hc), Bool.decide_or] at hm
            rw [hm]
            refine ic_skip ?_
            refine x_mid [4] [8, 9, 10, 11, 12, 13, 14, 15, 16, 17, 18, 19, 20, 21, 22, 23, 24, 25, 26, 27, 28, 29, 30, 31, 32, 33, 34, 35, 36, 37, 38, 39, 40, 41, 42, 43, 44, 45, 46, 47, 48, 49, 50, 51, 52, 53, 54, 55, 56, 57, 58, 59, 60, 61] (fun vs σ => vs = [.bool (decide (clsV k = 2) || decide (clsV k = 3))] ∧ σ = []) ?_ ?_
            · refine ic_region ?_
              repeat' (first | refine x_op ?_ | refine n_op ?_ | refine y_op ?_ | refine il_split (fun _ => ?_) (fun _ => ?_) | refine il_nil ?_)
              all_goals exact x_there
            rintro vs σ ⟨rfl, rfl⟩
            simp only [sets, nf]
            refine ic_ret ?_
            repeat (first | with_reducible refine it_ret ?_ | with_reducible refine ib_ret ?_)
            exact x_res1 Tryz.results40 rfl
      · -- false
        have h2 := of_decide_eq_false h2
        refine ic_skip ?_
        refine ic_seq ?_
        refine ic_seq ?_
        refine ic_region ?_
        refine x_op ?_
        refine x_op ?_
        refine il_nil ?_
        refine ic_cond rfl (fun h4 => ?_) (fun h4 => ?_) -- t12
        · -- true
          have h4 := of_decide_eq_true h4
          refine ic_exit ?_ -- 2
          refine x_mid [51] [10, 11, 12, 13, 14, 15, 16, 17, 18, 19, 20, 21, 22, 23, 24, 25, 26, 27, 28, 29, 30, 31, 32, 33, 34, 35, 36, 37, 38, 39, 40, 41, 42, 43, 44, 45, 46, 47, 48, 49, 50] (fun vs σ => vs = [.bool (decide (p = 10) && decide (k = 10))] ∧ σ = []) ?_ ?_
          · refine ic_region ?_
            repeat' (first | refine x_op ?_ | refine n_op ?_ | refine y_op ?_ | refine il_split (fun _ => ?_) (fun _ => ?_) | refine il_nil ?_)
            all_goals exact x_there
          rintro vs σ ⟨rfl, rfl⟩
          simp only [sets, nf]
          refine ic_cond rfl (fun hc => ?_) (fun hc => ?_) -- t51
          · -- true
            rw [← Bool.decide_and] at hc
            rw [show mayTag p k = false by unfold mayTag; rw [if_neg h2, if_pos h4, if_pos (of_decide_eq_true hc)]]
            refine ic_seq ?_
            refine ic_region ?_
            refine x_op ?_
            refine il_nil ?_
            refine ic_ret ?_
            repeat (first | with_reducible refine it_ret ?_ | with_reducible refine ib_ret ?_)
            exact x_res1 Tryz.results40 rfl
          · -- false
            rw [← Bool.decide_and] at hc
            refine ic_skip ?_
            exact x_here ⟨rfl, rfl, .inr ⟨h4, of_decide_eq_false hc⟩⟩
        · -- false
          have h4 := of_decide_eq_false h4
          refine ic_skip ?_
          refine ic_seq ?_
          refine ic_region ?_
          refine x_op ?_
          refine x_op ?_
          refine il_nil ?_
          refine ic_cond rfl (fun h3 => ?_) (fun h3 => ?_) -- t14
          · -- true
            refine ic_exit ?_ -- 3
            exact x_here ⟨rfl, rfl, .inl (of_decide_eq_true h3)⟩
          · -- false
            have h3 := of_decide_eq_false h3
            refine ic_skip ?_
            refine ic_exit ?_ -- 0
            exact x_here ⟨rfl, rfl, by unfold mayTag; rw [if_neg h2, if_neg h4, if_neg h3]⟩
    rintro vs σ ⟨rfl, rfl, h⟩
    simp only [sets, nf]
    rw [hrow h]
    refine ic_seq ?_
    refine x_mid [4] [8, 9, 10, 11, 12, 13, 14, 15, 16, 17, 18, 19, 20, 21, 22, 23, 24, 25, 26, 27, 28, 29, 30, 31, 32, 33, 34, 35, 36, 37, 38, 39, 40, 41, 42, 43, 44, 45, 46, 47, 48, 49, 50, 51, 52, 53, 54, 55, 56, 57, 58, 59, 60, 61] (fun vs σ => vs = [.bool ((decide (clsV k = 4) || decide (clsV k = 5)) || decide (clsV k = 1))] ∧ σ = []) ?_ ?_
    · refine ic_region ?_
      repeat' (first | refine x_op ?_ | refine n_op ?_ | refine y_op ?_ | refine il_split (fun _ => ?_) (fun _ => ?_) | refine il_nil ?_)
      all_goals exact x_there
    rintro vs σ ⟨rfl, rfl⟩
    simp only [sets, nf]
    refine ic_ret ?_
    repeat (first | with_reducible refine it_ret ?_ | with_reducible refine ib_ret ?_)
    exact x_res1 Tryz.results40 rfl
  rintro vs σ ⟨rfl, rfl, h⟩
  simp only [sets, nf]
  rw [h]
  refine ic_seq ?_
  refine ic_region ?_
  refine x_op ?_
  refine il_nil ?_
  refine ic_ret ?_
  repeat (first | with_reducible refine it_ret ?_ | with_reducible refine ib_ret ?_)
  exact x_res1 Tryz.results40 rfl
end Go.Proofs.YtokbhcnomffopaaGreatDoor
end

section
/- The contracts of the document's sameness (ref05, ref06, ref07). -/
set_option linter.unusedVariables false
set_option linter.unusedSimpArgs false
set_option maxHeartbeats 4000000
namespace Go.Proofs.YtokbhcnomffopaaGreatDoor
open Go Go.QL

theorem take_next {α : Type} {a b : List α} {i : Nat} (hpre : a.take i = b.take i) (h1 : i < a.length) (h2 : i < b.length) (he : a[i] = b[i]) : a.take (i + 1) = b.take (i + 1) := by
  rw [List.take_succ_eq_append_getElem h1, List.take_succ_eq_append_getElem h2, hpre, he]
theorem take_all {α : Type} {a b : List α} {i : Nat} (hpre : a.take i = b.take i) (h1 : i = a.length) (h2 : a.length = b.length) : a = b := by
  rw [h1, List.take_length, h2, List.take_length] at hpre
  exact hpre
theorem ints_calls (a b : List Int) (f g : Bool) (hl : a.length ≤ 1125899906842624) : ICalls Tryz.prog 61 [.sl f (a.map eI), .sl g (b.map eI)] [] (fun u _ => u = .bool (decide (a = b))) := by
  refine x_enter Tryz.func61 Tryz.ntmps61 ?_
  refine ic_seq ?_
  refine ic_region ?_
  refine x_op ?_
  refine il_nil ?_
  refine ic_seq ?_
  refine ic_seq ?_
  refine ic_region ?_
  refine x_op ?_
  refine x_op ?_
  refine x_op ?_
  refine x_op ?_
  refine x_op ?_
  refine il_nil ?_
  refine ic_cond rfl (fun hc => ?_) (fun hc => ?_) -- t10
  · -- true
    have hne : ¬ a = b := fun e => by subst e; simp at hc
    rw [decide_eq_false hne]
    refine ic_seq ?_
    refine ic_region ?_
    refine x_op ?_
    refine il_nil ?_
    refine ic_ret ?_
    repeat (first | with_reducible refine it_ret ?_ | with_reducible refine ib_ret ?_)
    exact x_res1 Tryz.results61 rfl
  · -- false
    have hlen : a.length = b.length := by
      have h : (a.length : Int) = b.length := by simpa using hc
      omega
    refine ic_skip ?_
    refine ic_seq ?_
    refine ic_seq ?_
    refine ic_region ?_
    refine x_op ?_
    refine il_nil ?_
    refine ic_block ?_ -- 0
    refine x_loop [5] [4, 11, 12, 13, 14, 15, 16, 17, 18, 19, 20, 21, 22, 23, 24, 25] (fun m vs σ => ∃ i : Nat, i ≤ a.length ∧ a.take i = b.take i ∧ m = a.length - i ∧ vs = [.int .i64 i] ∧ σ = []) ⟨0, Nat.zero_le _, rfl, rfl, rfl, rfl⟩ ?_
    rintro m vs σ ⟨i, hi, hpre, rfl, rfl, rfl⟩
    simp only [sets, nf]
    refine ic_seq ?_
    refine ic_seq ?_
    refine ic_region ?_
    refine x_op ?_
    refine x_op ?_
    refine x_op ?_
    refine x_op ?_
    refine il_nil ?_
    refine ic_cond rfl (fun hc => ?_) (fun hc => ?_) -- t14
    · -- true
      have hil : i < a.length := by have := of_decide_eq_true hc; omega
      have hib : i < b.length := by omega
      have hxa : (a.map eI)[((i : Nat) : Int).toNat]? = some (eI a[i]) := by simp [hil]
      have hxb : (b.map eI)[((i : Nat) : Int).toNat]? = some (eI b[i]) := by simp [hib]
      refine ic_skip ?_
      refine ic_seq ?_
      refine ic_block ?_ -- 1
      refine ic_seq ?_
      refine ic_drawq 9 (by kernel_rfl) rfl rfl ?_
      refine q_op ?_
      refine q_op ?_
      refine q_op ?_
      refine q_op ?_
      refine q_op ?_
      refine q_op ?_
      refine q_op ?_
      refine q_op ?_
      refine q_op ?_
      refine iq_nil ?_
      refine d_done ?_
      refine ic_cond rfl (fun hc => ?_) (fun hc => ?_) -- t25
      · -- true
        have hne : ¬ a = b := fun e => by subst e; simp at hc
        rw [decide_eq_false hne]
        refine ic_seq ?_
        refine ic_region ?_
        refine x_op ?_
        refine il_nil ?_
        refine ic_ret ?_
        repeat (first | with_reducible refine it_ret ?_ | with_reducible refine ib_ret ?_)
        exact x_res1 Tryz.results61 rfl
      · -- false
        have he : a[i] = b[i] := by simpa using hc
        refine ic_skip ?_
        refine ic_region ?_
        refine x_op ?_
        refine x_op ?_
        refine x_op ?_
        refine il_nil ?_
        exact x_next (a.length - (i + 1)) ⟨i + 1, by omega, take_next hpre hil hib he, rfl, rfl, rfl⟩ (by omega) -- round
    · -- false
      have he : a = b := take_all hpre (by have := of_decide_eq_false hc; omega) hlen
      rw [decide_eq_true he]
      refine ic_exit ?_ -- 0
      refine ic_seq ?_
      refine ic_region ?_
      refine x_op ?_
      refine il_nil ?_
      refine ic_ret ?_
      repeat (first | with_reducible refine it_ret ?_ | with_reducible refine ib_ret ?_)
      exact x_res1 Tryz.results61 rfl
theorem cel_eq (x y : Cel) : decide (x = y) = (decide (x.r = y.r) && (decide (x.bits = y.bits) && decide (x.href = y.href))) := by
  rcases x with ⟨a, b, c⟩
  rcases y with ⟨a', b', c'⟩
  simp only [Cel.mk.injEq, Bool.decide_and]
theorem same05_calls (a b : List Cel) (f g : Bool) (hl : a.length ≤ 1125899906842624) : ICalls Tryz.prog 62 [.sl f (a.map eC), .sl g (b.map eC)] [] (fun u _ => u = .bool (decide (a = b))) := by
  refine x_enter Tryz.func62 Tryz.ntmps62 ?_
  refine ic_seq ?_
  refine ic_region ?_
  refine x_op ?_
  refine il_nil ?_
  refine ic_seq ?_
  refine ic_seq ?_
  refine ic_region ?_
  refine x_op ?_
  refine x_op ?_
  refine x_op ?_
  refine x_op ?_
  refine x_op ?_
  refine il_nil ?_
  refine ic_cond rfl (fun hc => ?_) (fun hc => ?_) -- t10
  · -- true
    have hne : ¬ a = b := fun e => by subst e; simp at hc
    rw [decide_eq_false hne]
    refine ic_seq ?_
    refine ic_region ?_
    refine x_op ?_
    refine il_nil ?_
    refine ic_ret ?_
    repeat (first | with_reducible refine it_ret ?_ | with_reducible refine ib_ret ?_)
    exact x_res1 Tryz.results62 rfl
  · -- false
    have hlen : a.length = b.length := by
      have h : (a.length : Int) = b.length := by simpa using hc
      omega
    refine ic_skip ?_
    refine ic_seq ?_
    refine ic_seq ?_
    refine ic_region ?_
    refine x_op ?_
    refine il_nil ?_
    refine ic_block ?_ -- 0
    refine x_loop [5] [4, 11, 12, 13, 14, 15, 16, 17, 18, 19, 20, 21, 22, 23, 24, 25, 26, 27, 28, 29, 30, 31, 32, 33, 34, 35, 36, 37, 38, 39, 40, 41, 42, 43, 44, 45, 46, 47, 48, 49, 50, 51, 52, 53] (fun m vs σ => ∃ i : Nat, i ≤ a.length ∧ a.take i = b.take i ∧ m = a.length - i ∧ vs = [.int .i64 i] ∧ σ = []) ⟨0, Nat.zero_le _, rfl, rfl, rfl, rfl⟩ ?_
    rintro m vs σ ⟨i, hi, hpre, rfl, rfl, rfl⟩
    simp only [sets, nf]
    refine ic_seq ?_
    refine ic_seq ?_
    refine ic_region ?_
    refine x_op ?_
    refine x_op ?_
    refine x_op ?_
    refine x_op ?_
    refine il_nil ?_
    refine ic_cond rfl (fun hc => ?_) (fun hc => ?_) -- t14
    · -- true
      have hil : i < a.length := by have := of_decide_eq_true hc; omega
      have hib : i < b.length := by omega
      obtain ⟨x, hx⟩ : ∃ x, a[i] = x := ⟨_, rfl⟩
      obtain ⟨y, hy⟩ : ∃ y, b[i] = y := ⟨_, rfl⟩
      have hxa : (a.map eC)[((i : Nat) : Int).toNat]? = some (eC x) := by simp [hil, hx]
      have hxb : (b.map eC)[((i : Nat) : Int).toNat]? = some (eC y) := by simp [hib, hy]
      have hno : ¬ x = y → ¬ a = b := fun h e => by subst e; exact h (hx.symm.trans hy)
      refine ic_skip ?_
      refine ic_seq ?_
      refine ic_block ?_ -- 1
      refine x_mid [53] [15, 16, 17, 18, 19, 20, 21, 22, 23, 24, 25, 26, 27, 28, 29, 30, 31, 32, 33, 34, 35, 36, 37, 38, 39, 40, 41, 42, 43, 44, 45, 46, 47, 48, 49, 50, 51, 52] (fun vs σ => vs = [.bool (!decide (x = y))] ∧ σ = []) ?_ ?_
      · refine ic_drawq 37 (by kernel_rfl) rfl rfl ?_
        refine q_op ?_
        refine q_op ?_
        refine q_op ?_
        refine q_op ?_
        refine q_op ?_
        refine q_op ?_
        refine q_op ?_
        refine q_op ?_
        refine q_op ?_
        refine q_op ?_
        refine q_op ?_
        refine q_op ?_
        rcases Bool.eq_false_or_eq_true (!decide (x.r = y.r)) with h1 | h1
        · simp only [h1]
          refine qn_op ?_
          refine qn_op ?_
          refine qn_op ?_
          refine qn_op ?_
          refine qn_op ?_
          refine qn_op ?_
          refine qn_op ?_
          refine qn_op ?_
          refine qn_op ?_
          refine qn_op ?_
          refine qn_op ?_
          refine q_op ?_
          refine q_op ?_
          refine qn_op ?_
          refine qn_op ?_
          refine qn_op ?_
          refine qn_op ?_
          refine qn_op ?_
          refine qn_op ?_
          refine qn_op ?_
          refine qn_op ?_
          refine qn_op ?_
          refine qn_op ?_
          refine qn_op ?_
          refine q_op ?_
          refine iq_nil ?_
          refine d_done ?_
          have e : (!decide (x = y)) = true := by rw [cel_eq]; simp at h1; simp [h1]
          exact x_here ⟨by rw [e], rfl⟩
        · simp only [h1]
          refine qy_op ?_
          refine qy_op ?_
          refine qy_op ?_
          refine qy_op ?_
          refine qy_op ?_
          refine qy_op ?_
          refine qy_op ?_
          refine qy_op ?_
          refine qy_op ?_
          refine qy_op ?_
          refine qy_op ?_
          refine q_op ?_
          refine q_op ?_
          rcases Bool.eq_false_or_eq_true (!decide (x.bits = y.bits)) with h2 | h2
          · simp only [h2]
            refine qn_op ?_
            refine qn_op ?_
            refine qn_op ?_
            refine qn_op ?_
            refine qn_op ?_
            refine qn_op ?_
            refine qn_op ?_
            refine qn_op ?_
            refine qn_op ?_
            refine qn_op ?_
            refine qn_op ?_
            refine q_op ?_
            refine iq_nil ?_
            refine d_done ?_
            have e : (!decide (x = y)) = true := by rw [cel_eq]; simp at h2; simp [h2]
            exact x_here ⟨by rw [e], rfl⟩
          · simp only [h2]
            refine qy_op ?_
            refine qy_op ?_
            refine qy_op ?_
            refine qy_op ?_
            refine qy_op ?_
            refine qy_op ?_
            refine qy_op ?_
            refine qy_op ?_
            refine qy_op ?_
            refine qy_op ?_
            refine qy_op ?_
            refine q_op ?_
            refine iq_nil ?_
            refine d_done ?_
            have e : (!decide (x = y)) = (!decide (x.href = y.href)) := by rw [cel_eq]; simp at h1 h2; simp [h1, h2]
            exact x_here ⟨by rw [e], rfl⟩
      rintro vs σ ⟨rfl, rfl⟩
      simp only [sets, nf]
      refine ic_cond rfl (fun hc => ?_) (fun hc => ?_) -- t53
      · -- true
        have hne : ¬ a = b := hno (by simpa using hc)
        rw [decide_eq_false hne]
        refine ic_seq ?_
        refine ic_region ?_
        refine x_op ?_
        refine il_nil ?_
        refine ic_ret ?_
        repeat (first | with_reducible refine it_ret ?_ | with_reducible refine ib_ret ?_)
        exact x_res1 Tryz.results62 rfl
      · -- false
        have he : x = y := by simpa using hc
        refine ic_skip ?_
        refine ic_region ?_
        refine x_op ?_
        refine x_op ?_
        refine x_op ?_
        refine il_nil ?_
        exact x_next (a.length - (i + 1)) ⟨i + 1, by omega, take_next hpre hil hib (hx.trans (he.trans hy.symm)), rfl, rfl, rfl⟩ (by omega) -- round
    · -- false
      have he : a = b := take_all hpre (by have := of_decide_eq_false hc; omega) hlen
      rw [decide_eq_true he]
      refine ic_exit ?_ -- 0
      refine ic_seq ?_
      refine ic_region ?_
      refine x_op ?_
      refine il_nil ?_
      refine ic_ret ?_
      repeat (first | with_reducible refine it_ret ?_ | with_reducible refine ib_ret ?_)
      exact x_res1 Tryz.results62 rfl
theorem lin_eq (x y : Lin) : decide (x = y) = (decide (x.quote = y.quote) && (decide (x.lists = y.lists) && (decide (x.kind = y.kind) && decide (x.cells = y.cells)))) := by
  rcases x with ⟨a, b, c, d⟩
  rcases y with ⟨a', b', c', d'⟩
  simp only [Lin.mk.injEq, Bool.decide_and]
theorem same06_calls (x y : Lin) (hx : x.lists.length ≤ 1125899906842624) (hx2 : x.cells.length ≤ 1125899906842624) : ICalls Tryz.prog 33 [eL x, eL y] [] (fun u _ => u = .bool (decide (x = y))) := by
  rw [lin_eq]
  refine x_enter Tryz.func33 Tryz.ntmps33 ?_
  refine ic_seq ?_
  refine ic_region ?_
  refine x_op ?_
  refine x_op ?_
  refine x_op ?_
  refine il_nil ?_
  refine ic_seq ?_
  refine ic_region ?_
  refine x_op ?_
  refine x_op ?_
  refine x_op ?_
  refine x_op ?_
  refine x_op ?_
  refine x_op ?_
  rcases Bool.eq_false_or_eq_true (decide (x.quote = y.quote)) with h1 | h1
  · simp only [h1]
    first | refine n_op ?_ | refine y_op ?_
    first | refine n_op ?_ | refine y_op ?_
    first | refine n_op ?_ | refine y_op ?_
    first | refine n_op ?_ | refine y_op ?_
    refine y_cv (ints_calls x.lists y.lists false false hx) ?_
    refine x_op ?_
    refine x_op ?_
    rcases Bool.eq_false_or_eq_true (decide (x.lists = y.lists)) with h2 | h2
    · simp only [h2]
      first | refine n_op ?_ | refine y_op ?_
      first | refine n_op ?_ | refine y_op ?_
      first | refine n_op ?_ | refine y_op ?_
      first | refine n_op ?_ | refine y_op ?_
      first | refine n_op ?_ | refine y_op ?_
      refine x_op ?_
      refine x_op ?_
      rcases Bool.eq_false_or_eq_true (decide (x.kind = y.kind)) with h3 | h3
      · simp only [h3]
        first | refine n_op ?_ | refine y_op ?_
        first | refine n_op ?_ | refine y_op ?_
        first | refine n_op ?_ | refine y_op ?_
        first | refine n_op ?_ | refine y_op ?_
        refine y_cv (same05_calls x.cells y.cells false false hx2) ?_
        refine x_op ?_
        refine x_op ?_
        refine il_nil ?_
        refine ic_ret ?_
        repeat (first | with_reducible refine it_ret ?_ | with_reducible refine ib_ret ?_)
        exact x_res1 Tryz.results33 rfl
      · simp only [h3]
        first | refine n_op ?_ | refine y_op ?_
        first | refine n_op ?_ | refine y_op ?_
        first | refine n_op ?_ | refine y_op ?_
        first | refine n_op ?_ | refine y_op ?_
        first | refine n_op ?_ | refine y_op ?_
        refine x_op ?_
        refine x_op ?_
        refine il_nil ?_
        refine ic_ret ?_
        repeat (first | with_reducible refine it_ret ?_ | with_reducible refine ib_ret ?_)
        exact x_res1 Tryz.results33 rfl
    · simp only [h2]
      first | refine n_op ?_ | refine y_op ?_
      first | refine n_op ?_ | refine y_op ?_
      first | refine n_op ?_ | refine y_op ?_
      first | refine n_op ?_ | refine y_op ?_
      first | refine n_op ?_ | refine y_op ?_
      refine x_op ?_
      refine x_op ?_
      first | refine n_op ?_ | refine y_op ?_
      first | refine n_op ?_ | refine y_op ?_
      first | refine n_op ?_ | refine y_op ?_
      first | refine n_op ?_ | refine y_op ?_
      first | refine n_op ?_ | refine y_op ?_
      refine x_op ?_
      refine x_op ?_
      refine il_nil ?_
      refine ic_ret ?_
      repeat (first | with_reducible refine it_ret ?_ | with_reducible refine ib_ret ?_)
      exact x_res1 Tryz.results33 rfl
  · simp only [h1]
    first | refine n_op ?_ | refine y_op ?_
    first | refine n_op ?_ | refine y_op ?_
    first | refine n_op ?_ | refine y_op ?_
    first | refine n_op ?_ | refine y_op ?_
    first | refine n_op ?_ | refine y_op ?_
    refine x_op ?_
    refine x_op ?_
    first | refine n_op ?_ | refine y_op ?_
    first | refine n_op ?_ | refine y_op ?_
    first | refine n_op ?_ | refine y_op ?_
    first | refine n_op ?_ | refine y_op ?_
    first | refine n_op ?_ | refine y_op ?_
    refine x_op ?_
    refine x_op ?_
    first | refine n_op ?_ | refine y_op ?_
    first | refine n_op ?_ | refine y_op ?_
    first | refine n_op ?_ | refine y_op ?_
    first | refine n_op ?_ | refine y_op ?_
    first | refine n_op ?_ | refine y_op ?_
    refine x_op ?_
    refine x_op ?_
    refine il_nil ?_
    refine ic_ret ?_
    repeat (first | with_reducible refine it_ret ?_ | with_reducible refine ib_ret ?_)
    exact x_res1 Tryz.results33 rfl
theorem same07_calls (a b : List Lin) (f g : Bool) (hl : a.length ≤ 1125899906842624) (h1 : ∀ l ∈ a, l.lists.length ≤ 1125899906842624) (h2 : ∀ l ∈ a, l.cells.length ≤ 1125899906842624) : ICalls Tryz.prog 17 [.sl f (a.map eL), .sl g (b.map eL)] [] (fun u _ => u = .bool (decide (a = b))) := by
  refine x_enter Tryz.func17 Tryz.ntmps17 ?_
  refine ic_seq ?_
  refine ic_region ?_
  refine x_op ?_
  refine il_nil ?_
  refine ic_seq ?_
  refine ic_seq ?_
  refine ic_region ?_
  refine x_op ?_
  refine x_op ?_
  refine x_op ?_
  refine x_op ?_
  refine x_op ?_
  refine il_nil ?_
  refine ic_cond rfl (fun hc => ?_) (fun hc => ?_) -- t10
  · -- true
    have hne : ¬ a = b := fun e => by subst e; simp at hc
    rw [decide_eq_false hne]
    refine ic_seq ?_
    refine ic_region ?_
    refine x_op ?_
    refine il_nil ?_
    refine ic_ret ?_
    repeat (first | with_reducible refine it_ret ?_ | with_reducible refine ib_ret ?_)
    exact x_res1 Tryz.results17 rfl
  · -- false
    have hlen : a.length = b.length := by
      have h : (a.length : Int) = b.length := by simpa using hc
      omega
    refine ic_skip ?_
    refine ic_seq ?_
    refine ic_seq ?_
    refine ic_region ?_
    refine x_op ?_
    refine il_nil ?_
    refine ic_block ?_ -- 0
    refine x_loop [5] [4, 11, 12, 13, 14, 15, 16, 17, 18, 19, 20, 21, 22, 23, 24, 25, 26] (fun m vs σ => ∃ i : Nat, i ≤ a.length ∧ a.take i = b.take i ∧ m = a.length - i ∧ vs = [.int .i64 i] ∧ σ = []) ⟨0, Nat.zero_le _, rfl, rfl, rfl, rfl⟩ ?_
    rintro m vs σ ⟨i, hi, hpre, rfl, rfl, rfl⟩
    simp only [sets, nf]
    refine ic_seq ?_
    refine ic_seq ?_
    refine ic_region ?_
    refine x_op ?_
    refine x_op ?_
    refine x_op ?_
    refine x_op ?_
    refine il_nil ?_
    refine ic_cond rfl (fun hc => ?_) (fun hc => ?_) -- t14
    · -- true
      have hil : i < a.length := by have := of_decide_eq_true hc; omega
      have hib : i < b.length := by omega
      obtain ⟨x, hx⟩ : ∃ x, a[i] = x := ⟨_, rfl⟩
      obtain ⟨y, hy⟩ : ∃ y, b[i] = y := ⟨_, rfl⟩
      have hxa : (a.map eL)[((i : Nat) : Int).toNat]? = some (eL x) := by simp [hil, hx]
      have hxb : (b.map eL)[((i : Nat) : Int).toNat]? = some (eL y) := by simp [hib, hy]
      have hno : ¬ x = y → ¬ a = b := fun h e => by subst e; exact h (hx.symm.trans hy)
      have hxm : x ∈ a := hx ▸ List.getElem_mem hil
      refine ic_skip ?_
      refine ic_seq ?_
      refine ic_block ?_ -- 1
      refine ic_seq ?_
      refine ic_drawq 10 (by kernel_rfl) rfl rfl ?_
      refine q_op ?_
      refine q_op ?_
      refine q_op ?_
      refine q_op ?_
      refine q_op ?_
      refine q_op ?_
      refine q_op ?_
      refine q_op ?_
      refine q_cv (same06_calls x y (h1 x hxm) (h2 x hxm)) ?_
      refine q_op ?_
      refine iq_nil ?_
      refine d_done ?_
      refine ic_cond rfl (fun hc => ?_) (fun hc => ?_) -- t26
      · -- true
        have hne : ¬ a = b := hno (by simpa using hc)
        rw [decide_eq_false hne]
        refine ic_seq ?_
        refine ic_region ?_
        refine x_op ?_
        refine il_nil ?_
        refine ic_ret ?_
        repeat (first | with_reducible refine it_ret ?_ | with_reducible refine ib_ret ?_)
        exact x_res1 Tryz.results17 rfl
      · -- false
        have he : x = y := by simpa using hc
        refine ic_skip ?_
        refine ic_region ?_
        refine x_op ?_
        refine x_op ?_
        refine x_op ?_
        refine il_nil ?_
        exact x_next (a.length - (i + 1)) ⟨i + 1, by omega, take_next hpre hil hib (hx.trans (he.trans hy.symm)), rfl, rfl, rfl⟩ (by omega) -- round
    · -- false
      have he : a = b := take_all hpre (by have := of_decide_eq_false hc; omega) hlen
      rw [decide_eq_true he]
      refine ic_exit ?_ -- 0
      refine ic_seq ?_
      refine ic_region ?_
      refine x_op ?_
      refine il_nil ?_
      refine ic_ret ?_
      repeat (first | with_reducible refine it_ret ?_ | with_reducible refine ib_ret ?_)
      exact x_res1 Tryz.results17 rfl
end Go.Proofs.YtokbhcnomffopaaGreatDoor
end

section
/- The contracts of slices.Equal of attributes, attrs.Same. -/
set_option linter.unusedVariables false
set_option linter.unusedSimpArgs false
set_option maxHeartbeats 4000000
namespace Go.Proofs.YtokbhcnomffopaaGreatDoor
open Go Go.QL

theorem equalA_calls (a b : List At) (f g : Bool) (hl : a.length ≤ 1125899906842624) : ICalls Tryz.prog 69 [.sl f (a.map eA), .sl g (b.map eA)] [] (fun u _ => u = .bool (decide (a = b))) := by
  refine x_enter Tryz.func69 Tryz.ntmps69 ?_
  refine ic_seq ?_
  refine ic_region ?_
  refine x_op ?_
  refine il_nil ?_
  refine ic_seq ?_
  refine ic_seq ?_
  refine ic_region ?_
  refine x_op ?_
  refine x_op ?_
  refine x_op ?_
  refine x_op ?_
  refine x_op ?_
  refine il_nil ?_
  refine ic_cond rfl (fun hc => ?_) (fun hc => ?_) -- t10
  · -- true
    have hne : ¬ a = b := fun e => by subst e; simp at hc
    rw [decide_eq_false hne]
    refine ic_seq ?_
    refine ic_region ?_
    refine x_op ?_
    refine il_nil ?_
    refine ic_ret ?_
    repeat (first | with_reducible refine it_ret ?_ | with_reducible refine ib_ret ?_)
    exact x_res1 Tryz.results69 rfl
  · -- false
    have hlen : a.length = b.length := by
      have h : (a.length : Int) = b.length := by simpa using hc
      omega
    refine ic_skip ?_
    refine ic_seq ?_
    refine ic_seq ?_
    refine ic_region ?_
    refine x_op ?_
    refine x_op ?_
    refine x_op ?_
    refine il_nil ?_
    refine ic_block ?_ -- 0
    refine x_loop [13] [4, 5, 14, 15, 16, 17, 18, 19, 20, 21, 22, 23, 24, 25] (fun m vs σ => ∃ i : Nat, i ≤ a.length ∧ a.take i = b.take i ∧ m = a.length - i ∧ vs = [.int .i64 i] ∧ σ = []) ⟨0, Nat.zero_le _, rfl, rfl, rfl, rfl⟩ ?_
    rintro m vs σ ⟨i, hi, hpre, rfl, rfl, rfl⟩
    simp only [sets, nf]
    refine ic_seq ?_
    refine ic_region ?_
    refine x_op ?_
    refine il_nil ?_
    refine ic_seq ?_
    refine ic_cond rfl (fun hc => ?_) (fun hc => ?_) -- t14
    · -- true
      have hil : i < a.length := by have := of_decide_eq_true hc; omega
      have hib : i < b.length := by omega
      obtain ⟨x, hx⟩ : ∃ x, a[i] = x := ⟨_, rfl⟩
      obtain ⟨y, hy⟩ : ∃ y, b[i] = y := ⟨_, rfl⟩
      have hxa : (a.map eA)[((i : Nat) : Int).toNat]? = some (eA x) := by simp [hil, hx]
      have hxb : (b.map eA)[((i : Nat) : Int).toNat]? = some (eA y) := by simp [hib, hy]
      have hno : ¬ x = y → ¬ a = b := fun h e => by subst e; exact h (hx.symm.trans hy)
      refine ic_skip ?_
      refine ic_seq ?_
      refine ic_block ?_ -- 1
      refine ic_seq ?_
      refine ic_region ?_
      refine x_op ?_
      refine x_op ?_
      refine il_nil ?_
      refine ic_seq ?_
      refine ic_drawq 9 (by kernel_rfl) rfl rfl ?_
      refine q_op ?_
      refine q_op ?_
      refine q_op ?_
      refine q_op ?_
      refine q_op ?_
      refine q_op ?_
      refine q_op ?_
      refine q_op ?_
      refine q_op (h := by exact op_neqAt Tryz.underlying106 (by kernel_rfl) (by kernel_rfl) (by decide) (by decide) rfl rfl Tryz.underlying9 Tryz.underlying9 Tryz.isAgg9 Tryz.isAgg9 rfl rfl rfl) ?_
      refine iq_nil ?_
      refine d_done ?_
      refine ic_cond rfl (fun hc => ?_) (fun hc => ?_) -- t24
      · -- true
        have hne : ¬ a = b := hno (by simpa using hc)
        rw [decide_eq_false hne]
        refine ic_seq ?_
        refine ic_region ?_
        refine x_op ?_
        refine il_nil ?_
        refine ic_ret ?_
        repeat (first | with_reducible refine it_ret ?_ | with_reducible refine ib_ret ?_)
        exact x_res1 Tryz.results69 rfl
      · -- false
        have he : x = y := by simpa using hc
        refine ic_skip ?_
        refine ic_region ?_
        refine x_op ?_
        refine x_op ?_
        refine il_nil ?_
        exact x_next (a.length - (i + 1)) ⟨i + 1, by omega, take_next hpre hil hib (hx.trans (he.trans hy.symm)), rfl, rfl, rfl⟩ (by omega) -- round
    · -- false
      have he : a = b := take_all hpre (by have := of_decide_eq_false hc; omega) hlen
      rw [decide_eq_true he]
      refine ic_exit ?_ -- 0
      refine ic_seq ?_
      refine ic_region ?_
      refine x_op ?_
      refine il_nil ?_
      refine ic_ret ?_
      repeat (first | with_reducible refine it_ret ?_ | with_reducible refine ib_ret ?_)
      exact x_res1 Tryz.results69 rfl
theorem attrsSame_calls (a b : List At) (f g : Bool) (hl : a.length ≤ 1125899906842624) : ICalls Tryz.prog 42 [.sl f (a.map eA), .sl g (b.map eA)] [] (fun u _ => u = .bool (decide (a = b))) := by
  refine x_enter Tryz.func42 Tryz.ntmps42 ?_
  refine ic_seq ?_
  refine ic_region ?_
  refine x_op ?_
  refine il_nil ?_
  refine ic_seq ?_
  refine ic_region ?_
  refine x_op ?_
  refine x_op ?_
  refine x_cv (equalA_calls a b _ _ hl) ?_
  refine x_op ?_
  refine il_nil ?_
  refine ic_ret ?_
  repeat (first | with_reducible refine it_ret ?_ | with_reducible refine ib_ret ?_)
  exact x_res1 Tryz.results42 rfl
end Go.Proofs.YtokbhcnomffopaaGreatDoor
end

section
/- The contracts of law19.tidy, law19.RenderTidy. -/
set_option linter.unusedVariables false
set_option linter.unusedSimpArgs false
set_option maxHeartbeats 4000000
namespace Go.Proofs.YtokbhcnomffopaaGreatDoor
open Go Go.QL

theorem prev_next {α : Type} (l : List α) (i : Nat) (h : i < l.length) : (if i + 1 = 0 then none else l[i + 1 - 1]?) = some l[i] := by
  rw [if_neg (Nat.succ_ne_zero _), Nat.add_sub_cancel, List.getElem?_eq_getElem h]
theorem tidy_calls : ∀ (m : Nat) (n : Nd) (links : Int), n.sz ≤ m → n.sz ≤ 1073741824 → 0 ≤ links → links ≤ 1 → ICalls Tryz.prog 21 [eN n, .int .i64 links] [] (fun u _ => u = .bool (tidyV n links))
  | 0, n, links, hm, _, h0, h1 => by have := n.sz_eq; omega
  | m + 1, n, links, hm, hbig, h0, h1 => by
    have hsz := n.sz_eq
    have hkl := szl_len n.kids
    rw [tidyV_eq]
    refine x_enter Tryz.func21 Tryz.ntmps21 ?_
    refine ic_seq ?_
    refine ic_region ?_
    refine x_op ?_
    refine x_op ?_
    refine il_nil ?_
    refine x_mid [1] [9, 10, 11, 12, 13] (fun vs σ => vs = [.int .i64 (if n.tag = 10 then links + 1 else links)] ∧ σ = [.box 35 (ndc n)]) ?_ ?_
    ·
      refine ic_seq ?_
      refine ic_region ?_
      refine x_op ?_
      refine x_op ?_
      refine x_op ?_
      refine il_nil ?_
      refine ic_cond rfl (fun hc => ?_) (fun hc => ?_) -- t11
      · -- true
        rw [if_pos (of_decide_eq_true hc)]
        refine ic_region ?_
        refine x_op ?_
        refine x_op ?_
        refine x_op ?_
        refine il_nil ?_
        exact x_here ⟨rfl, rfl⟩
      · -- false
        rw [if_neg (of_decide_eq_false hc)]
        refine ic_skip ?_
        exact x_here ⟨rfl, rfl⟩
    rintro vs σ ⟨rfl, rfl⟩
    simp only [sets, nf, ndc]
    obtain ⟨L, hL⟩ : ∃ L, (if n.tag = 10 then links + 1 else links) = L := ⟨_, rfl⟩
    have hL0 : 0 ≤ L := by rw [← hL]; split <;> omega
    simp only [hL]
    refine ic_seq ?_
    refine ic_seq ?_
    refine ic_region ?_
    refine x_op ?_
    refine x_op ?_
    refine il_nil ?_
    refine ic_cond rfl (fun hc => ?_) (fun hc => ?_) -- t15
    · -- true
      rw [if_pos (of_decide_eq_true hc)]
      refine ic_seq ?_
      refine ic_region ?_
      refine x_op ?_
      refine il_nil ?_
      refine ic_ret ?_
      repeat (first | with_reducible refine it_ret ?_ | with_reducible refine ib_ret ?_)
      exact x_res1 Tryz.results21 rfl
    -- false
    have hL1 : ¬ 1 < L := of_decide_eq_false hc
    rw [if_neg hL1]
    refine ic_skip ?_
    refine ic_seq ?_
    refine ic_seq ?_
    refine ic_region ?_
    refine x_op ?_
    refine il_nil ?_
    refine ic_block ?_ -- 0
    refine x_loop [5] [4, 6, 7, 8, 9, 10, 11, 12, 13, 14, 15, 16, 17, 18, 19, 20, 21, 22, 23, 24, 25, 26, 27, 28, 29, 30, 31, 32, 33, 34, 35, 36, 37, 38, 39, 40, 41, 42, 43, 44, 45, 46, 47, 48, 49, 50, 51, 52, 53, 54, 55, 56, 57, 58, 59, 60, 61, 62, 63, 64, 65, 66, 67, 68, 69, 70, 71, 72, 73, 74, 75, 76, 77, 78, 79, 80, 81, 82] (fun m vs σ => ∃ i : Nat, i ≤ n.kids.length ∧ tidyL n.tag (if i = 0 then none else n.kids[i - 1]?) (n.kids.drop i) L = tidyL n.tag none n.kids L ∧ m = n.kids.length - i ∧ vs = [.int .i64 i] ∧ σ = [.box 35 (ndc n)]) ⟨0, Nat.zero_le _, rfl, rfl, rfl, rfl⟩ ?_
    rintro mm vs σ ⟨i, hi, hl, rfl, rfl, rfl⟩
    simp only [sets, nf, ndc]
    refine ic_seq ?_
    refine ic_seq ?_
    refine ic_region ?_
    refine x_op ?_
    refine x_op ?_
    refine x_op ?_
    refine x_op ?_
    refine x_op ?_
    refine il_nil ?_
    refine ic_cond rfl (fun hc => ?_) (fun hc => ?_) -- t20
    · -- true
      have hil : i < n.kids.length := by have := of_decide_eq_true hc; omega
      have hpn := prev_next n.kids i hil
      obtain ⟨k, hk⟩ : ∃ k, n.kids[i] = k := ⟨_, rfl⟩
      have hxi : (n.kids.map eN)[((i : Nat) : Int).toNat]? = some (eN k) := by simp [hil, hk]
      have hks : k.sz ≤ szl n.kids := szl_mem (hk ▸ List.getElem_mem hil)
      have hksz := k.sz_eq
      rw [List.drop_eq_getElem_cons hil, hk, tidyL] at hl
      rw [hk] at hpn
      refine ic_skip ?_
      refine x_mid [] [4, 6, 7, 8, 14, 15, 16, 17, 18, 19, 20, 21, 22, 23, 24, 25, 26, 27, 28, 29, 30, 31, 32, 33, 34, 35, 36, 37, 38, 39, 40, 41, 42, 43, 44, 45, 46, 47, 48, 49, 50, 51, 52, 53, 54, 55, 56, 57, 58, 59, 60, 61, 62, 63, 64, 65, 66, 67, 68, 69, 70, 71, 72, 73, 74, 75, 76, 77, 78, 79, 80, 81, 82] (fun vs σ => vs = [] ∧ σ = [.box 35 (ndc n)] ∧ tidyL n.tag (some k) (n.kids.drop (i + 1)) L = tidyL n.tag none n.kids L) ?_ ?_
      ·
        refine ic_block ?_ -- 1
        refine ic_seq ?_
        refine ic_region ?_
        refine x_op ?_
        refine x_op ?_
        refine x_op ?_
        refine x_op ?_
        refine x_op ?_
        refine x_op ?_
        refine x_op ?_
        refine il_nil ?_
        refine ic_seq ?_
        refine x_mid [49] [4, 7, 8, 14, 15, 16, 17, 18, 19, 20, 21, 22, 24, 25, 26, 27, 28, 29, 30, 31, 32, 33, 34, 35, 36, 37, 38, 39, 40, 41, 42, 43, 44, 45, 46, 47, 48] (fun vs σ => vs = [.bool (((!mayTag n.tag k.tag) || (decide (k.tag = 0) && decide (k.text = ⟨#[]⟩))) || !tidyV k L)] ∧ σ = [.box 35 (ndc n), .box 35 (ndc k)]) ?_ ?_
        · refine ic_region ?_
          refine x_op ?_
          refine x_op ?_
          refine x_op ?_
          refine x_op ?_
          refine x_cv (tagsMay_calls n.tag k.tag) ?_
          refine x_op ?_
          refine x_op ?_
          repeat' (first | refine x_op ?_ | refine n_op ?_ | refine x_cv (tidy_calls m k L (by omega) (by omega) hL0 (by omega)) ?_ | refine y_cv (tidy_calls m k L (by omega) (by omega) hL0 (by omega)) ?_ | refine y_op ?_ | refine il_split (fun _ => ?_) (fun _ => ?_) | refine il_nil ?_)
          all_goals exact x_there
        rintro vs σ ⟨rfl, rfl⟩
        simp only [sets, nf, ndc]
        rw [← Bool.or_assoc] at hl
        refine ic_cond rfl (fun hc => ?_) (fun hc => ?_) -- t49
        · -- true
          rw [if_pos hc] at hl
          rw [← hl]
          refine ic_seq ?_
          refine ic_region ?_
          refine x_op ?_
          refine il_nil ?_
          refine ic_ret ?_
          repeat (first | with_reducible refine it_ret ?_ | with_reducible refine ib_ret ?_)
          exact x_res1 Tryz.results21 rfl
        · -- false
          rw [if_neg (by rw [hc]; decide)] at hl
          refine ic_skip ?_
          refine ic_seq ?_
          refine ic_seq ?_
          refine ic_region ?_
          refine x_op ?_
          refine x_op ?_
          refine il_nil ?_
          refine ic_cond rfl (fun hc => ?_) (fun hc => ?_) -- t51
          · -- true
            have h00 : i = 0 := by have := of_decide_eq_true hc; omega
            rw [if_pos h00, if_neg (by simp [besideBad])] at hl
            refine ic_exit ?_ -- 1
            exact x_here ⟨rfl, rfl, hl⟩
          · -- false
            have h00 : ¬ i = 0 := by have := of_decide_eq_false hc; omega
            have hil2 : i - 1 < n.kids.length := by omega
            obtain ⟨q, hq⟩ : ∃ q, n.kids[i - 1] = q := ⟨_, rfl⟩
            have hxq : (n.kids.map eN)[(((i : Nat) : Int) - 1).toNat]? = some (eN q) := by
              have e : (((i : Nat) : Int) - 1).toNat = i - 1 := by omega
              rw [e]
              simp [hil2, hq]
            have hqs : q.sz ≤ szl n.kids := szl_mem (hq ▸ List.getElem_mem hil2)
            have hqsz := q.sz_eq
            rw [if_neg h00, List.getElem?_eq_getElem hil2, hq, beside_some] at hl
            refine ic_skip ?_
            refine ic_seq ?_
            refine ic_region ?_
            refine x_op ?_
            refine x_op ?_
            refine x_op ?_
            refine x_op ?_
            refine x_op ?_
            refine x_op ?_
            refine x_op ?_
            refine x_op ?_
            refine il_nil ?_
            refine ic_seq ?_
            refine ic_seq ?_
            refine ic_region ?_
            refine x_op ?_
            refine x_op ?_
            refine x_op ?_
            refine x_op ?_
            refine x_op ?_
            refine il_nil ?_
            refine ic_cond rfl (fun hc => ?_) (fun hc => ?_) -- t62
            · -- true
              have hne : ¬ q.tag = k.tag := by simpa using hc
              rw [decide_eq_false hne, Bool.false_and, if_neg (by decide)] at hl
              refine ic_exit ?_ -- 1
              exact x_here ⟨rfl, rfl, hl⟩
            · -- false
              have heq : q.tag = k.tag := by simpa using hc
              rw [decide_eq_true heq, Bool.true_and, ← Bool.or_assoc] at hl
              refine ic_skip ?_
              refine ic_seq ?_
              refine ic_region ?_
              refine x_op ?_
              refine x_op ?_
              refine x_cv (class_calls' k.tag) ?_
              refine x_op ?_
              refine il_nil ?_
              refine x_mid [82] [66, 67, 68, 69, 70, 71, 72, 73, 74, 75, 76, 77, 78, 79, 80, 81] (fun vs σ => vs = [.bool ((decide (clsV k.tag = 1) || decide (clsV k.tag = 2)) || (decide (clsV k.tag = 4) && decide (q.attrs = k.attrs)))] ∧ σ = [.box 35 (ndc n), .box 35 (ndc k), .box 35 (ndc q)]) ?_ ?_
              · refine ic_region ?_
                repeat' (first | refine x_op ?_ | refine n_op ?_ | refine x_cv (attrsSame_calls q.attrs k.attrs false false (by omega)) ?_ | refine y_cv (attrsSame_calls q.attrs k.attrs false false (by omega)) ?_ | refine y_op ?_ | refine il_split (fun _ => ?_) (fun _ => ?_) | refine il_nil ?_)
                all_goals exact x_there
              rintro vs σ ⟨rfl, rfl⟩
              simp only [sets, nf, ndc]
              refine ic_cond rfl (fun hc => ?_) (fun hc => ?_) -- t82
              · -- true
                rw [if_pos hc] at hl
                rw [← hl]
                refine ic_seq ?_
                refine ic_region ?_
                refine x_op ?_
                refine il_nil ?_
                refine ic_ret ?_
                repeat (first | with_reducible refine it_ret ?_ | with_reducible refine ib_ret ?_)
                exact x_res1 Tryz.results21 rfl
              · -- false
                rw [if_neg (by rw [hc]; decide)] at hl
                refine ic_skip ?_
                exact x_here ⟨rfl, rfl, hl⟩
      rintro vs σ ⟨rfl, rfl, hl⟩
      simp only [sets, nf, ndc]
      refine ic_region ?_
      refine x_op ?_
      refine x_op ?_
      refine x_op ?_
      refine il_nil ?_
      exact x_next (n.kids.length - (i + 1)) ⟨i + 1, by omega, by rw [hpn]; exact hl, rfl, rfl, rfl⟩ (by omega) -- round
    · -- false
      obtain rfl : i = n.kids.length := by have := of_decide_eq_false hc; omega
      rw [List.drop_length, tidyL] at hl
      rw [← hl]
      refine ic_exit ?_ -- 0
      refine ic_seq ?_
      refine ic_region ?_
      refine x_op ?_
      refine il_nil ?_
      refine ic_ret ?_
      repeat (first | with_reducible refine it_ret ?_ | with_reducible refine ib_ret ?_)
      exact x_res1 Tryz.results21 rfl
theorem docIn_of {d : List Lin} (h : longV d = false) : DocIn targetV d := by
  obtain ⟨h1, h2, h3⟩ := long_f h
  exact ⟨fun l hl c hc => targetOf_all _ (by have := (h3 l hl).2.2 c hc; omega), by omega, by omega, fun l hl => by have := (h3 l hl).2.1; omega⟩
theorem tidyLaw_calls (d : List Lin) (hd : Sane d) : ICalls Tryz.prog 5 [.sl false (d.map eL)] [] (fun u _ => u = .bool true) := by
  refine x_enter Tryz.func5 Tryz.ntmps5 ?_
  refine ic_seq ?_
  refine ic_region ?_
  refine x_op ?_
  refine il_nil ?_
  refine ic_seq ?_
  refine ic_seq ?_
  refine ic_region ?_
  refine x_op ?_
  refine x_cv (long_calls d false hd) ?_
  refine il_nil ?_
  refine ic_cond rfl (fun hc => ?_) (fun hc => ?_) -- t6
  · -- true
    refine ic_seq ?_
    refine ic_region ?_
    refine x_cv (awake_calls) ?_
    refine x_op ?_
    refine il_nil ?_
    refine ic_ret ?_
    repeat (first | with_reducible refine it_ret ?_ | with_reducible refine ib_ret ?_)
    exact x_res1 Tryz.results5 rfl
  -- false
  have dd := docIn_of hc
  obtain ⟨f1, f2, f3⟩ := long_f hc
  refine ic_skip ?_
  refine ic_seq ?_
  refine ic_region ?_
  refine x_op ?_
  refine x_cv (host_calls targetV d false dd) ?_
  refine x_op ?_
  refine x_op ?_
  refine x_op ?_
  refine x_op ?_
  refine x_op ?_
  refine x_op ?_
  refine il_nil ?_
  refine ic_seq ?_
  refine ic_seq ?_
  refine ic_region ?_
  refine x_op ?_
  refine x_op ?_
  refine il_nil ?_
  by_cases md : docMay targetV d = true
  · have he : (hostV targetV d).2 = 0 := by unfold hostV; rw [if_pos md]
    have ht := host_tidy md
    have hb := host_bounds md
    obtain ⟨h, hh⟩ : ∃ h, (hostV targetV d).1 = h := ⟨_, rfl⟩
    simp only [he, hh]
    rw [hh] at ht hb
    have hlen := List.length_pos_iff.2 ht.2.1
    have e1 : decide (h.tag = 1) = true := decide_eq_true ht.1
    have e2 : decide ((0 : Int) < (h.kids.length : Int)) = true := decide_eq_true (by omega)
    refine ic_cond rfl (fun hc => ?_) (fun hc => ?_) -- t14
    · cases hc
    · -- false
      refine ic_skip ?_
      refine ic_seq ?_
      refine ic_region ?_
      refine x_op ?_
      refine x_op ?_
      refine x_op ?_
      refine x_op ?_
      simp only [e1]
      refine y_op ?_
      refine y_op ?_
      refine y_op ?_
      refine y_op ?_
      refine x_op ?_
      refine x_op ?_
      simp only [e2]
      refine y_op ?_
      refine y_cv (tidy_calls h.sz h 0 (Nat.le_refl _) (by omega) (by decide) (by decide)) ?_
      refine x_op ?_
      refine x_op ?_
      simp only [ht.2.2]
      refine y_cv (awake_calls) ?_
      refine x_op ?_
      refine x_op ?_
      refine il_nil ?_
      refine ic_ret ?_
      repeat (first | with_reducible refine it_ret ?_ | with_reducible refine ib_ret ?_)
      exact x_res1 Tryz.results5 rfl
  · have he : (hostV targetV d).2 = 1 := by unfold hostV; rw [if_neg md]
    have hm : docMay targetV d = false := by simpa using md
    simp only [he]
    refine ic_cond rfl (fun hc => ?_) (fun hc => ?_) -- t14
    · -- true
      refine ic_seq ?_
      refine ic_region ?_
      refine x_op ?_
      refine x_op ?_
      refine x_op ?_
      refine y_op ?_
      refine y_cv (may7_calls d false (by omega) (by omega) (fun l hl => by have := (f3 l hl).1; omega) (fun l hl => by have := (f3 l hl).2.1; omega) (fun l hl c hc => by have := (f3 l hl).2.2 c hc; omega)) ?_
      simp only [hm]
      refine y_op ?_
      refine x_op ?_
      refine x_op ?_
      refine y_cv (awake_calls) ?_
      refine x_op ?_
      refine x_op ?_
      refine il_nil ?_
      refine ic_ret ?_
      repeat (first | with_reducible refine it_ret ?_ | with_reducible refine ib_ret ?_)
      exact x_res1 Tryz.results5 rfl
    · cases hc
end Go.Proofs.YtokbhcnomffopaaGreatDoor
end

section
/- In a host each kid may stand in its parent (RenderTidy): for every document the law answers true. The two tables of utf8 are tied to the text by the given card. -/
set_option linter.unusedVariables false
set_option linter.unusedSimpArgs false
namespace Go.Proofs.YtokbhcnomffopaaGreatDoor
open Go Go.QL
theorem tidy_proved : Rows.RenderTidyCardSaid := tidy_card (tidy_holds fun d hd => tidyLaw_calls d hd)
end Go.Proofs.YtokbhcnomffopaaGreatDoor
end

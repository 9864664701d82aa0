/- Part 4 of the texts below the theorem of the last part. -/
import Derived.Test.YtokbhcnomffopaaGreatDoorMint3
section
/- QL, part D: which elements may stand in which; what is tidy; a host is tidy. No program in sight. -/
set_option linter.unusedVariables false
set_option linter.unusedSimpArgs false
namespace Go.QL
open Go Go.RowKit
/-- P2.2. -/
def mayTag (p k : Int) : Bool :=
  if clsV p = 2 then
    (if p = 7 ∨ p = 8 then decide (k = 7 ∨ k = 8 ∨ k = 9)
     else if k = 1 ∨ k = 9 then false
     else decide (clsV k = 2 ∨ clsV k = 3))
  else if clsV p = 4 then (if p = 10 ∧ k = 10 then false else decide (clsV k = 4 ∨ clsV k = 5 ∨ clsV k = 1))
  else if clsV p = 3 then decide (clsV k = 4 ∨ clsV k = 5 ∨ clsV k = 1)
  else false
def besideBad : Option Nd → Nd → Bool
  | none, _ => false
  | some p, k => decide (p.tag = k.tag) && (decide (clsV k.tag = 1) || (decide (clsV k.tag = 2) || (decide (clsV k.tag = 4) && decide (p.attrs = k.attrs))))
theorem beside_some (p k : Nd) : besideBad (some p) k = (decide (p.tag = k.tag) && (decide (clsV k.tag = 1) || (decide (clsV k.tag = 2) || (decide (clsV k.tag = 4) && decide (p.attrs = k.attrs))))) := rfl
mutual
def tidyV : Nd → Int → Bool
  | .mk t _ _ k, links => if 1 < (if t = 10 then links + 1 else links) then false else tidyL t none k (if t = 10 then links + 1 else links)
def tidyL : Int → Option Nd → List Nd → Int → Bool
  | _, _, [], _ => true
  | t, prev, k :: ks, links =>
    if ((!mayTag t k.tag) || ((decide (k.tag = 0) && decide (k.text = ⟨#[]⟩)) || !tidyV k links)) = true then false
    else if besideBad prev k = true then false else tidyL t (some k) ks links
end
theorem tidyV_eq (n : Nd) (links : Int) : tidyV n links = if 1 < (if n.tag = 10 then links + 1 else links) then false else tidyL n.tag none n.kids (if n.tag = 10 then links + 1 else links) := by cases n; rw [tidyV]; rfl
def okKid (t links : Int) (k : Nd) : Bool := mayTag t k.tag && (!(decide (k.tag = 0) && decide (k.text = ⟨#[]⟩)) && tidyV k links)
def chn : Option Nd → List Nd → Bool
  | _, [] => true
  | p, k :: ks => !besideBad p k && chn (some k) ks
theorem tidyL_all (t links : Int) : ∀ (prev : Option Nd) (l : List Nd), tidyL t prev l links = (l.all (okKid t links) && chn prev l)
  | prev, [] => by rw [tidyL]; rfl
  | prev, k :: ks => by
    rw [tidyL, List.all_cons, chn, tidyL_all t links (some k) ks]
    unfold okKid
    cases mayTag t k.tag <;> cases (decide (k.tag = 0) && decide (k.text = ⟨#[]⟩)) <;> cases tidyV k links <;> cases besideBad prev k <;> simp
def lastO : Option Nd → List Nd → Option Nd
  | p, [] => p
  | _, k :: ks => lastO (some k) ks
theorem chn_append : ∀ (p : Option Nd) (a b : List Nd), chn p (a ++ b) = (chn p a && chn (lastO p a) b)
  | p, [], b => rfl
  | p, k :: ks, b => by rw [List.cons_append, chn, chn, lastO, chn_append (some k) ks b, Bool.and_assoc]
theorem lastO_mem : ∀ (p : Option Nd) (a : List Nd), a ≠ [] → ∃ x ∈ a, lastO p a = some x
  | p, [], h => absurd rfl h
  | p, [k], _ => ⟨k, List.mem_cons_self .., rfl⟩
  | p, k :: k2 :: ks, _ => by
    obtain ⟨x, hx, h⟩ := lastO_mem (some k) (k2 :: ks) (by simp)
    exact ⟨x, List.mem_cons_of_mem _ hx, h⟩
theorem chn_prev {p : Option Nd} {l : List Nd} (h : chn none l = true) (hb : ∀ b ∈ l, besideBad p b = false) : chn p l = true := by
  cases l with
  | nil => rfl
  | cons k ks =>
    rw [chn] at h ⊢
    rw [hb k (List.mem_cons_self ..)]
    simp only [besideBad, Bool.not_false, Bool.true_and] at h ⊢
    exact h
theorem dropWhile_head {α : Type} (p : α → Bool) : ∀ (l : List α) (y : α), (l.dropWhile p).head? = some y → p y = false
  | [], y, h => by simp at h
  | x :: l, y, h => by
    rw [List.dropWhile_cons] at h
    split at h
    · exact dropWhile_head p l y h
    · next hx => simp at h; subst h; simpa using hx
theorem grp_chn {α : Type} (al : α → α → Bool) (F : List α → List Nd) (Kd : α → Nd → Prop) (D : List α)
    (h1 : ∀ x p, (∀ y ∈ p, al x y = true) → (∀ y ∈ x :: p, y ∈ D) → chn none (F (x :: p)) = true ∧ F (x :: p) ≠ [] ∧ ∀ a ∈ F (x :: p), Kd x a)
    (h2 : ∀ x y a b, x ∈ D → y ∈ D → al x y = false → Kd x a → Kd y b → besideBad (some a) b = false) :
    ∀ (d : List α) (prev : Option Nd), (∀ y ∈ d, y ∈ D) → (prev = none ∨ ∃ x a, prev = some a ∧ x ∈ D ∧ Kd x a ∧ ∀ y, d.head? = some y → al x y = false) → chn prev ((grp al d).flatMap F) = true
  | [], prev, _, _ => by simp [grp, chn]
  | x :: tl, prev, hd, hp => by
    have htw : ∀ y ∈ tl.takeWhile (al x), al x y = true := fun y hy => List.all_eq_true.1 (List.all_takeWhile (p := al x) (l := tl)) y hy
    have hm : ∀ y ∈ x :: tl.takeWhile (al x), y ∈ D := fun y hy => by
      rcases List.mem_cons.1 hy with rfl | hy
      · exact hd _ (List.mem_cons_self ..)
      · exact hd _ (List.mem_cons_of_mem _ ((List.takeWhile_sublist _).subset hy))
    obtain ⟨c1, c2, c3⟩ := h1 x (tl.takeWhile (al x)) htw hm
    have hx : x ∈ D := hd _ (List.mem_cons_self ..)
    rw [grp, List.flatMap_cons, chn_append, Bool.and_eq_true]
    refine ⟨chn_prev c1 fun b hb => ?_, ?_⟩
    · rcases hp with rfl | ⟨x0, a, rfl, hx0, ha, hal⟩
      · rfl
      · exact h2 x0 x a b hx0 hx (hal x rfl) ha (c3 b hb)
    · refine grp_chn al F Kd D h1 h2 (tl.dropWhile (al x)) _ (fun y hy => hd y (List.mem_cons_of_mem _ (dropWhile_mem _ _ _ hy))) (.inr ?_)
      obtain ⟨a, ha, hl⟩ := lastO_mem prev (F (x :: tl.takeWhile (al x))) c2
      exact ⟨x, a, hl, hx, c3 a ha, fun y hy => dropWhile_head _ _ _ hy⟩
  termination_by d => d.length
  decreasing_by
    have := dropWhile_le (al x) tl
    simp
    omega
theorem grp_mem {α : Type} (al : α → α → Bool) (D : List α) (Q : List α → Prop) (h : ∀ x p, (∀ y ∈ p, al x y = true) → (∀ y ∈ x :: p, y ∈ D) → Q (x :: p)) : ∀ d : List α, (∀ y ∈ d, y ∈ D) → ∀ g ∈ grp al d, Q g
  | [], _, g, hg => by simp [grp] at hg
  | x :: tl, hd, g, hg => by
    rw [grp] at hg
    rcases List.mem_cons.1 hg with rfl | hg
    · exact h x _ (fun y hy => List.all_eq_true.1 (List.all_takeWhile (p := al x) (l := tl)) y hy) fun y hy => by
        rcases List.mem_cons.1 hy with rfl | hy
        · exact hd _ (List.mem_cons_self ..)
        · exact hd _ (List.mem_cons_of_mem _ ((List.takeWhile_sublist _).subset hy))
    · exact grp_mem al D Q h (tl.dropWhile (al x)) (fun y hy => hd y (List.mem_cons_of_mem _ (dropWhile_mem _ _ _ hy))) g hg
  termination_by d => d.length
  decreasing_by
    have := dropWhile_le (al x) tl
    simp
    omega
theorem grp_ne {α : Type} (al : α → α → Bool) (F : List α → List Nd) (d : List α) (hd : d ≠ []) (h : ∀ x p, F (x :: p) ≠ []) : (grp al d).flatMap F ≠ [] := by
  cases d with
  | nil => exact absurd rfl hd
  | cons x tl =>
    rw [grp, List.flatMap_cons]
    intro e
    exact h _ _ (List.append_eq_nil_iff.1 e).1
theorem map_flat {α : Type} (F : List α → Nd) : ∀ l : List (List α), l.map F = l.flatMap fun p => [F p]
  | [] => rfl
  | p :: l => by rw [List.map_cons, List.flatMap_cons, map_flat F l]; rfl
/-! ### a row is tidy -/
/-- What is so of the nodes within a line, or an inline: tags are told by S. -/
structure RowTidy (S : Int → Prop) (l : List Nd) : Prop where
  kid : ∀ k ∈ l, ∀ t links, (clsV t = 3 ∨ clsV t = 4) → links ≤ 1 → ¬ (k.tag = 10 ∧ (t = 10 ∨ 0 < links)) → okKid t links k = true
  tag : ∀ k ∈ l, S k.tag
  beside : chn none l = true
  some : l ≠ []
theorem strOf_ne (l : List Int) (h : l ≠ []) : strOf l ≠ ⟨#[]⟩ := by
  intro e
  rw [strOf_list] at e
  have e2 := congrArg (fun x : ByteArray => x.data.toList.length) e
  cases l with
  | nil => exact h rfl
  | cons r l =>
    have h1 := encL_pos r
    rw [List.flatMap_cons] at e2
    have h2 : (encL r ++ l.flatMap encL).length = 0 := e2
    rw [List.length_append] at h2
    omega
theorem may_row (t k : Int) (ht : clsV t = 3 ∨ clsV t = 4) (hk : clsV k = 4 ∨ clsV k = 5 ∨ clsV k = 1) (h10 : ¬ (t = 10 ∧ k = 10)) : mayTag t k = true := by
  unfold mayTag
  rcases ht with h | h
  · rw [h, if_neg (by decide), if_neg (by decide), if_pos rfl, decide_eq_true hk]
  · rw [h, if_neg (by decide), if_pos rfl, if_neg h10, decide_eq_true hk]
theorem leaves_tidy (l : List Cel) (hl : l ≠ []) : RowTidy (fun t => t = 0 ∨ t = 16) (leavesV l) := by
  have e : leavesV l = (grp alLeaf l).flatMap fun p => [leafV p] := map_flat leafV _
  have hleaf : ∀ x p, (leafV (x :: p) = .mk 16 [] ⟨#[]⟩ [] ∧ x.r = 10) ∨ (leafV (x :: p) = .mk 0 [] (strOf ((x :: p).map (·.r))) [] ∧ ¬ x.r = 10) := fun x p => by
    unfold leafV
    by_cases h : x.r = 10
    · exact .inl ⟨if_pos h, h⟩
    · exact .inr ⟨if_neg h, h⟩
  rw [e]
  have hall := grp_mem alLeaf l (fun g => ∀ k ∈ [leafV g], (k.tag = 0 ∨ k.tag = 16) ∧ ∀ t links, (clsV t = 3 ∨ clsV t = 4) → links ≤ 1 → okKid t links k = true) (fun x p hp hm k hk => by
    rw [List.mem_singleton] at hk
    rcases hleaf x p with ⟨h, _⟩ | ⟨h, _⟩
    · rw [h] at hk
      subst hk
      refine ⟨.inr rfl, fun t links ht hlk => ?_⟩
      unfold okKid
      rw [show (Nd.mk 16 [] ⟨#[]⟩ []).tag = 16 from rfl, may_row t 16 ht (.inr (.inl rfl)) (by omega), tidyV, if_neg (by rw [if_neg (by decide)]; omega), tidyL]
      rfl
    · rw [h] at hk
      subst hk
      refine ⟨.inl rfl, fun t links ht hlk => ?_⟩
      unfold okKid
      rw [show (Nd.mk 0 [] (strOf ((x :: p).map (·.r))) []).tag = 0 from rfl, may_row t 0 ht (.inr (.inr rfl)) (by omega), tidyV, if_neg (by rw [if_neg (by decide)]; omega), tidyL]
      have := strOf_ne ((x :: p).map (·.r)) (by simp)
      show (true && (!(true && decide (strOf ((x :: p).map (·.r)) = ⟨#[]⟩)) && true)) = true
      rw [decide_eq_false this]
      rfl) l (fun y hy => hy)
  refine ⟨fun k hk t links ht hlk _ => ?_, fun k hk => ?_, ?_, grp_ne _ _ _ hl (fun _ _ => by simp)⟩
  · obtain ⟨g, hg, hk⟩ := List.mem_flatMap.1 hk
    exact (hall g hg k hk).2 t links ht hlk
  · obtain ⟨g, hg, hk⟩ := List.mem_flatMap.1 hk
    exact (hall g hg k hk).1
  · refine grp_chn alLeaf (fun p => [leafV p]) (fun x a => (x.r = 10 → a.tag = 16) ∧ (¬ x.r = 10 → a.tag = 0)) l (fun x p hp hm => ⟨rfl, by simp, fun a ha => ?_⟩) (fun x y a b hx hy hal ha hb => ?_) l none (fun y hy => hy) (.inl rfl)
    · rw [List.mem_singleton] at ha
      subst ha
      rcases hleaf x p with ⟨h, hr⟩ | ⟨h, hr⟩
      · rw [h]; exact ⟨fun _ => rfl, fun h => absurd hr h⟩
      · rw [h]; exact ⟨fun h => absurd h hr, fun _ => rfl⟩
    · rw [beside_some]
      by_cases h1 : x.r = 10
      · rw [ha.1 h1]
        by_cases h2 : y.r = 10
        · rw [hb.1 h2]; rfl
        · rw [hb.2 h2]; rfl
      · rw [ha.2 h1]
        by_cases h2 : y.r = 10
        · rw [hb.1 h2]; rfl
        · simp [alLeaf, h1, h2] at hal
theorem inline_ok {S : Int → Prop} {l : List Nd} (h : RowTidy S l) (hS : ∀ t, S t → t ≠ 10) (tag : Int) (ht : clsV tag = 4) (ats : List At) (t links : Int) (htt : clsV t = 3 ∨ clsV t = 4) (hl : links ≤ 1) (h10 : ¬ (tag = 10 ∧ (t = 10 ∨ 0 < links))) : okKid t links (.mk tag ats ⟨#[]⟩ l) = true := by
  unfold okKid
  have htag : (Nd.mk tag ats ⟨#[]⟩ l).tag = tag := rfl
  have h0 : ¬ tag = 0 := fun e => by rw [e] at ht; exact absurd ht (by decide)
  rw [htag, may_row t tag htt (.inl ht) (fun e => h10 ⟨e.2, .inl e.1⟩), decide_eq_false h0, tidyV]
  have hlk : (if tag = 10 then links + 1 else links) ≤ 1 := by
    split
    · next e => have : ¬ 0 < links := fun h => h10 ⟨e, .inr h⟩; omega
    · exact hl
  rw [if_neg (by omega), tidyL_all, h.beside]
  have : l.all (okKid tag (if tag = 10 then links + 1 else links)) = true := List.all_eq_true.2 fun k hk => h.kid k hk tag _ (.inr ht) hlk fun e => absurd e.1 (hS _ (h.tag k hk))
  rw [this]
  rfl
/-- One level more. -/
theorem styled_step (S : Int → Prop) (n : Nat) (bit tag : Int) (hS : ∀ t, S t → t ≠ 10) (hS2 : ∀ t, S t → t ≠ tag) (ht : clsV tag = 4) (ht10 : tag ≠ 10)
    (hbit : ∀ x : Int, 0 ≤ x → x ≤ 15 → bitI .and .i64 x bit = 0 ∨ bitI .and .i64 x bit = bit) (hb0 : bit ≠ 0)
    (hw0 : ∀ l : List Nd, wrapV 0 ⟨#[]⟩ l = l) (hw1 : ∀ l : List Nd, wrapV bit ⟨#[]⟩ l = [.mk tag [] ⟨#[]⟩ l])
    (sub : ∀ p : List Cel, p ≠ [] → (∀ c ∈ p, 0 ≤ c.bits ∧ c.bits ≤ 15) → RowTidy S (styledV n (IntKind.i64.wrap (bit * 2 ^ min (1 : Int).toNat IntKind.i64.bits)) p))
    (l : List Cel) (hl : l ≠ []) (hb : ∀ c ∈ l, 0 ≤ c.bits ∧ c.bits ≤ 15) : RowTidy (fun t => S t ∨ t = tag) (styledV (n + 1) bit l) := by
  simp only [styledV]
  have hone : ∀ x p, (∀ y ∈ x :: p, y ∈ l) → RowTidy S (styledV n (IntKind.i64.wrap (bit * 2 ^ min (1 : Int).toNat IntKind.i64.bits)) (x :: p)) ∧
      ((wrapV (bitI .and .i64 (hdBits (x :: p)) bit) ⟨#[]⟩ (styledV n (IntKind.i64.wrap (bit * 2 ^ min (1 : Int).toNat IntKind.i64.bits)) (x :: p)) = styledV n (IntKind.i64.wrap (bit * 2 ^ min (1 : Int).toNat IntKind.i64.bits)) (x :: p) ∧ bitI .and .i64 x.bits bit = 0) ∨
        (wrapV (bitI .and .i64 (hdBits (x :: p)) bit) ⟨#[]⟩ (styledV n (IntKind.i64.wrap (bit * 2 ^ min (1 : Int).toNat IntKind.i64.bits)) (x :: p)) = [.mk tag [] ⟨#[]⟩ (styledV n (IntKind.i64.wrap (bit * 2 ^ min (1 : Int).toNat IntKind.i64.bits)) (x :: p))] ∧ bitI .and .i64 x.bits bit = bit)) := fun x p hm => by
    refine ⟨sub _ (by simp) fun c hc => hb c (hm c hc), ?_⟩
    have hx := hb x (hm x (List.mem_cons_self ..))
    show (wrapV (bitI .and .i64 x.bits bit) _ _ = _ ∧ _) ∨ _
    rcases hbit x.bits hx.1 hx.2 with h | h
    · exact .inl ⟨by rw [h]; exact hw0 _, h⟩
    · refine .inr ⟨?_, h⟩
      show wrapV (bitI .and .i64 x.bits bit) _ _ = _
      rw [h]; exact hw1 _
  have hall := grp_mem (alBit bit) l (fun g => ∀ k ∈ wrapV (bitI .and .i64 (hdBits g) bit) ⟨#[]⟩ (styledV n (IntKind.i64.wrap (bit * 2 ^ min (1 : Int).toNat IntKind.i64.bits)) g), (S k.tag ∨ k.tag = tag) ∧ ∀ t links, (clsV t = 3 ∨ clsV t = 4) → links ≤ 1 → okKid t links k = true) (fun x p hp hm k hk => by
    obtain ⟨h0, ⟨h1, _⟩ | ⟨h1, _⟩⟩ := hone x p hm
    · rw [h1] at hk
      exact ⟨.inl (h0.tag k hk), fun t links ht hlk => h0.kid k hk t links ht hlk fun e => absurd e.1 (hS _ (h0.tag k hk))⟩
    · rw [h1, List.mem_singleton] at hk
      subst hk
      exact ⟨.inr rfl, fun t links htt hlk => inline_ok h0 hS tag ht [] t links htt hlk fun e => ht10 e.1⟩) l (fun y hy => hy)
  refine ⟨fun k hk t links ht hlk _ => ?_, fun k hk => ?_, ?_, ?_⟩
  · obtain ⟨g, hg, hk⟩ := List.mem_flatMap.1 hk
    exact (hall g hg k hk).2 t links ht hlk
  · obtain ⟨g, hg, hk⟩ := List.mem_flatMap.1 hk
    exact (hall g hg k hk).1
  · refine grp_chn (alBit bit) _ (fun x a => (bitI .and .i64 x.bits bit = 0 → a.tag ≠ tag) ∧ (bitI .and .i64 x.bits bit ≠ 0 → a.tag = tag)) l (fun x p hp hm => ?_) (fun x y a b hx hy hal ha hb' => ?_) l none (fun y hy => hy) (.inl rfl)
    · obtain ⟨h0, ⟨h1, h2⟩ | ⟨h1, h2⟩⟩ := hone x p hm
      · rw [h1]
        exact ⟨h0.beside, h0.some, fun a ha => ⟨fun _ => hS2 _ (h0.tag a ha), fun h => absurd h2 h⟩⟩
      · rw [h1]
        refine ⟨rfl, by simp, fun a ha => ?_⟩
        rw [List.mem_singleton] at ha
        subst ha
        exact ⟨fun h => absurd (h2.symm.trans h) hb0, fun _ => rfl⟩
    · unfold alBit at hal
      have hne := of_decide_eq_false hal
      have hbx := hbit x.bits (hb x hx).1 (hb x hx).2
      have hby := hbit y.bits (hb y hy).1 (hb y hy).2
      rw [beside_some]
      have : ¬ a.tag = b.tag := by
        by_cases h1 : bitI .and .i64 x.bits bit = 0
        · have h2 : bitI .and .i64 y.bits bit ≠ 0 := fun h => hne (h1.trans h.symm)
          rw [hb'.2 h2]; exact ha.1 h1
        · have h2 : bitI .and .i64 y.bits bit = 0 := by
            rcases hby with h | h
            · exact h
            · rcases hbx with h' | h'
              · exact absurd h' h1
              · exact absurd (h'.trans h.symm) hne
          rw [ha.2 h1]; exact fun e => hb'.1 h2 e.symm
      rw [decide_eq_false this]; rfl
  · refine grp_ne _ _ _ hl fun x p => ?_
    unfold wrapV
    rw [if_pos rfl]
    intro e
    have hsz : ∀ (v : Int) (L : List Nd) (i : Nat), L ≠ [] → wrapN v L i ≠ [] := fun v L i hL => by
      induction i with
      | zero => exact hL
      | succ i ih => unfold wrapN wrap1; split; exact ih; simp
    have hsub : styledV n (IntKind.i64.wrap (bit * 2 ^ min (1 : Int).toNat IntKind.i64.bits)) (x :: p) ≠ [] := by
      have key : ∀ (n : Nat) (b : Int) (q : List Cel), q ≠ [] → styledV n b q ≠ [] := fun n => by
        induction n with
        | zero => intro b q hq; rw [styledV]; unfold leavesV; rw [map_flat]; exact grp_ne _ _ _ hq fun _ _ => by simp
        | succ n ih =>
          intro b q hq
          simp only [styledV]
          refine grp_ne _ _ _ hq fun y r => ?_
          unfold wrapV
          rw [if_pos rfl]
          exact hsz _ _ _ (ih _ _ (by simp))
      exact key _ _ _ (by simp)
    exact hsz _ _ _ hsub e
theorem RowTidy.mono {S S' : Int → Prop} {l : List Nd} (h : RowTidy S l) (hs : ∀ t, S t → S' t) : RowTidy S' l := ⟨h.kid, fun k hk => hs _ (h.tag k hk), h.beside, h.some⟩
theorem styled_tidy (l : List Cel) (hl : l ≠ []) (hb : ∀ c ∈ l, 0 ≤ c.bits ∧ c.bits ≤ 15) : RowTidy (fun t => t ≠ 10) (styledV 4 1 l) := by
  have hbit : ∀ k : Fin 4, ∀ n : Fin 16, bitI .and .i64 (n.val : Int) (2 ^ k.val) = 0 ∨ bitI .and .i64 (n.val : Int) (2 ^ k.val) = 2 ^ k.val := by decide +kernel
  have hbit' : ∀ k : Fin 4, ∀ x : Int, 0 ≤ x → x ≤ 15 → bitI .and .i64 x (2 ^ k.val) = 0 ∨ bitI .and .i64 x (2 ^ k.val) = 2 ^ k.val := fun k x h0 h1 => by
    have := hbit k ⟨x.toNat, by omega⟩
    simp only at this
    rwa [Int.toNat_of_nonneg h0] at this
  have h0 : ∀ b (p : List Cel), p ≠ [] → RowTidy (fun t => t = 0 ∨ t = 16) (styledV 0 b p) := fun b p hp => leaves_tidy p hp
  have h1 : ∀ p : List Cel, p ≠ [] → (∀ c ∈ p, 0 ≤ c.bits ∧ c.bits ≤ 15) → RowTidy (fun t => (t = 0 ∨ t = 16) ∨ t = 14) (styledV 1 8 p) := fun p hp hb =>
    styled_step _ 0 8 14 (by rintro t (h | h) <;> omega) (by rintro t (h | h) <;> omega) rfl (by decide) (hbit' 3) (by decide) (fun _ => rfl) (fun _ => rfl) (fun p hp _ => h0 _ p hp) p hp hb
  have h2 : ∀ p : List Cel, p ≠ [] → (∀ c ∈ p, 0 ≤ c.bits ∧ c.bits ≤ 15) → RowTidy (fun t => ((t = 0 ∨ t = 16) ∨ t = 14) ∨ t = 13) (styledV 2 4 p) := fun p hp hb =>
    styled_step _ 1 4 13 (by rintro t ((h | h) | h) <;> omega) (by rintro t ((h | h) | h) <;> omega) rfl (by decide) (hbit' 2) (by decide) (fun _ => rfl) (fun _ => rfl) (fun p hp hb => h1 p hp hb) p hp hb
  have h3 : ∀ p : List Cel, p ≠ [] → (∀ c ∈ p, 0 ≤ c.bits ∧ c.bits ≤ 15) → RowTidy (fun t => (((t = 0 ∨ t = 16) ∨ t = 14) ∨ t = 13) ∨ t = 12) (styledV 3 2 p) := fun p hp hb =>
    styled_step _ 2 2 12 (by rintro t (((h | h) | h) | h) <;> omega) (by rintro t (((h | h) | h) | h) <;> omega) rfl (by decide) (hbit' 1) (by decide) (fun _ => rfl) (fun _ => rfl) (fun p hp hb => h2 p hp hb) p hp hb
  have h4 := styled_step _ 3 1 11 (by rintro t ((((h | h) | h) | h) | h) <;> omega) (by rintro t ((((h | h) | h) | h) | h) <;> omega) rfl (by decide) (hbit' 0) (by decide) (fun _ => rfl) (fun _ => rfl) (fun p hp hb => h3 p hp hb) l hl hb
  exact h4.mono (by rintro t (((((h | h) | h) | h) | h) | h) <;> omega)
theorem row_tidy (l : List Cel) (hb : ∀ c ∈ l, 0 ≤ c.bits ∧ c.bits ≤ 15) (t : Int) (ht : clsV t = 3) : tidyL t none (rowV l) 0 = true := by
  have t10 : t ≠ 10 := fun e => by rw [e] at ht; exact absurd ht (by decide)
  have hone : ∀ x p, (∀ y ∈ x :: p, y ∈ l) → RowTidy (fun t => t ≠ 10) (styledV 4 1 (x :: p)) ∧
      ((wrapV 0 (hdHref (x :: p)) (styledV 4 1 (x :: p)) = styledV 4 1 (x :: p) ∧ x.href = ⟨#[]⟩) ∨ (wrapV 0 (hdHref (x :: p)) (styledV 4 1 (x :: p)) = [.mk 10 [hrefAt x.href] ⟨#[]⟩ (styledV 4 1 (x :: p))] ∧ x.href ≠ ⟨#[]⟩)) := fun x p hm => by
    refine ⟨styled_tidy _ (by simp) fun c hc => hb c (hm c hc), ?_⟩
    show (wrapV 0 x.href _ = _ ∧ _) ∨ _
    unfold wrapV
    by_cases h : x.href = ⟨#[]⟩
    · exact .inl ⟨by rw [if_pos h]; rfl, h⟩
    · refine .inr ⟨?_, h⟩
      show (if x.href = ⟨#[]⟩ then _ else _) = _
      rw [if_neg h]; rfl
  rw [tidyL_all, Bool.and_eq_true]
  unfold rowV
  constructor
  · refine List.all_eq_true.2 fun k hk0 => ?_
    obtain ⟨g, hg, hk⟩ := List.mem_flatMap.1 hk0
    clear hk0
    revert hk
    revert k
    refine grp_mem alHref l (fun g => ∀ k ∈ wrapV 0 (hdHref g) (styledV 4 1 g), okKid t 0 k = true) (fun x p hp hm k hk => ?_) l (fun y hy => hy) g hg
    obtain ⟨h0, ⟨h1, _⟩ | ⟨h1, _⟩⟩ := hone x p hm
    · rw [h1] at hk
      exact h0.kid k hk t 0 (.inl ht) (by decide) fun e => t10 (e.2.resolve_right (by decide))
    · rw [h1, List.mem_singleton] at hk
      subst hk
      exact inline_ok h0 (fun _ h => h) 10 rfl _ t 0 (.inl ht) (by decide) fun e => t10 (e.2.resolve_right (by decide))
  · refine grp_chn alHref _ (fun x a => (x.href = ⟨#[]⟩ → a.tag ≠ 10) ∧ (x.href ≠ ⟨#[]⟩ → a.tag = 10 ∧ a.attrs = [hrefAt x.href])) l (fun x p hp hm => ?_) (fun x y a b hx hy hal ha hb' => ?_) l none (fun y hy => hy) (.inl rfl)
    · obtain ⟨h0, ⟨h1, h2⟩ | ⟨h1, h2⟩⟩ := hone x p hm
      · rw [h1]
        exact ⟨h0.beside, h0.some, fun a ha => ⟨fun _ => h0.tag a ha, fun h => absurd h2 h⟩⟩
      · rw [h1]
        refine ⟨rfl, by simp, fun a ha => ?_⟩
        rw [List.mem_singleton] at ha
        subst ha
        exact ⟨fun h => absurd h h2, fun _ => ⟨rfl, rfl⟩⟩
    · have hne := of_decide_eq_false hal
      rw [beside_some]
      by_cases h1 : x.href = ⟨#[]⟩
      · have h2 : y.href ≠ ⟨#[]⟩ := fun h => hne (h1.trans h.symm)
        have : ¬ a.tag = b.tag := by rw [(hb'.2 h2).1]; exact ha.1 h1
        rw [decide_eq_false this]; rfl
      · by_cases h2 : y.href = ⟨#[]⟩
        · have : ¬ a.tag = b.tag := by rw [(ha.2 h1).1]; exact fun e => hb'.1 h2 e.symm
          rw [decide_eq_false this]; rfl
        · have : ¬ a.attrs = b.attrs := by
            rw [(ha.2 h1).2, (hb'.2 h2).2]
            intro e
            simp only [hrefAt, List.cons.injEq, At.mk.injEq, and_true, true_and] at e
            exact hne e
          rw [decide_eq_false this, (hb'.2 h2).1]
          simp [clsV]
/-! ### a host is tidy -/
theorem lists_tag (l : List Int) (i : Nat) : (i < l.length ∧ ((l.map lstTag).getD i 0 = 7 ∨ (l.map lstTag).getD i 0 = 8)) ∨ (l.length ≤ i ∧ (l.map lstTag).getD i 0 = 0) := by
  rcases Nat.lt_or_ge i l.length with h | h
  · refine .inl ⟨h, ?_⟩
    rw [List.getD_eq_getElem?_getD, List.getElem?_eq_getElem (by simpa using h), Option.getD_some, List.getElem_map]
    unfold lstTag
    split
    · exact .inl rfl
    · exact .inr rfl
  · refine .inr ⟨h, ?_⟩
    rw [List.getD_eq_getElem?_getD, List.getElem?_eq_none (by simpa using h)]
    rfl
theorem step_eq (l : Lin) (i : Nat) : (i < qN l.quote ∧ stepV l i = 6) ∨ (qN l.quote ≤ i ∧ stepV l i = (l.lists.map lstTag).getD (i - qN l.quote) 0) := by
  unfold stepV wayV
  rcases Nat.lt_or_ge i (qN l.quote) with h | h
  · refine .inl ⟨h, ?_⟩
    rw [List.getD_eq_getElem?_getD, List.getElem?_append_left (by simpa using h)]
    simp [h]
  · refine .inr ⟨h, ?_⟩
    rw [List.getD_eq_getElem?_getD, List.getElem?_append_right (by simpa using h)]
    simp [List.getD_eq_getElem?_getD]
/-- What stands around a line at a level. -/
def ParOk (t : Int) (level : Nat) (l : Lin) : Prop := (level = 0 ∧ t = 1) ∨ (0 < level ∧ t = stepV l (level - 1) ∧ t ≠ 0)
theorem line_tag {l : Lin} (hk : 0 ≤ l.kind ∧ l.kind ≤ 3) : (l.lists = [] ∧ 2 ≤ (nodeV l).tag ∧ (nodeV l).tag ≤ 5) ∨ (0 < l.lists.length ∧ (nodeV l).tag = 9) := by
  unfold nodeV
  by_cases h : 0 < l.lists.length
  · refine .inr ⟨h, ?_⟩
    show (if 0 < l.lists.length then (9 : Int) else lineTag l.kind) = 9
    rw [if_pos h]
  · refine .inl ⟨List.eq_nil_of_length_eq_zero (by omega), ?_⟩
    show 2 ≤ (if 0 < l.lists.length then (9 : Int) else lineTag l.kind) ∧ (if 0 < l.lists.length then (9 : Int) else lineTag l.kind) ≤ 5
    rw [if_neg h]
    unfold lineTag
    rw [if_neg (by omega)]
    omega
theorem line_cls {l : Lin} (hk : 0 ≤ l.kind ∧ l.kind ≤ 3) : clsV (nodeV l).tag = 3 := by
  have key : ∀ t : Int, (2 ≤ t ∧ t ≤ 5) ∨ t = 9 → clsV t = 3 := fun t h => by
    have : t = 2 ∨ t = 3 ∨ t = 4 ∨ t = 5 ∨ t = 9 := by omega
    rcases this with rfl | rfl | rfl | rfl | rfl <;> rfl
  rcases line_tag hk with ⟨_, h1, h2⟩ | ⟨_, h⟩
  · exact key _ (.inl ⟨h1, h2⟩)
  · exact key _ (.inr h)
theorem may_line {l : Lin} (hk : 0 ≤ l.kind ∧ l.kind ≤ 3) {t : Int} {level : Nat} (hp : ParOk t level l) (hs : stepV l level = 0) : mayTag t (nodeV l).tag = true := by
  have a1 : ∀ k : Int, 2 ≤ k ∧ k ≤ 5 → mayTag 1 k = true ∧ mayTag 6 k = true := fun k h => by
    have : k = 2 ∨ k = 3 ∨ k = 4 ∨ k = 5 := by omega
    rcases this with rfl | rfl | rfl | rfl <;> exact ⟨rfl, rfl⟩
  have h0 := step_eq l level
  rcases hp with ⟨rfl, rfl⟩ | ⟨hl, rfl, hne⟩
  · rcases line_tag hk with ⟨_, h1, h2⟩ | ⟨h, _⟩
    · exact (a1 _ ⟨h1, h2⟩).1
    · exfalso
      have := lists_tag l.lists (0 - qN l.quote)
      omega
  · have h3 := step_eq l (level - 1)
    have h4 := lists_tag l.lists (level - 1 - qN l.quote)
    have h5 := lists_tag l.lists (level - qN l.quote)
    rcases line_tag hk with ⟨he, h1, h2⟩ | ⟨h, h9⟩
    · have hlen : l.lists.length = 0 := by rw [he]; rfl
      have : stepV l (level - 1) = 6 := by omega
      rw [this]
      exact (a1 _ ⟨h1, h2⟩).2
    · rw [h9]
      have : stepV l (level - 1) = 7 ∨ stepV l (level - 1) = 8 := by omega
      rcases this with h | h <;> rw [h] <;> rfl
theorem may_box {l : Lin} {t : Int} {level : Nat} (hp : ParOk t level l) (hs : stepV l level ≠ 0) : mayTag t (stepV l level) = true := by
  have a1 : ∀ k : Int, 6 ≤ k ∧ k ≤ 8 → mayTag 1 k = true ∧ mayTag 6 k = true := fun k h => by
    have : k = 6 ∨ k = 7 ∨ k = 8 := by omega
    rcases this with rfl | rfl | rfl <;> exact ⟨rfl, rfl⟩
  have h0 := step_eq l level
  have h5 := lists_tag l.lists (level - qN l.quote)
  have hr : 6 ≤ stepV l level ∧ stepV l level ≤ 8 := by omega
  rcases hp with ⟨rfl, rfl⟩ | ⟨hl, rfl, hne⟩
  · exact (a1 _ hr).1
  · have h3 := step_eq l (level - 1)
    have h4 := lists_tag l.lists (level - 1 - qN l.quote)
    by_cases h6 : stepV l (level - 1) = 6
    · rw [h6]; exact (a1 _ hr).2
    · have h7 : stepV l (level - 1) = 7 ∨ stepV l (level - 1) = 8 := by omega
      have h8 : stepV l level = 7 ∨ stepV l level = 8 := by omega
      rcases h7 with h | h <;> rcases h8 with h' | h' <;> rw [h, h'] <;> rfl
structure LineOk (l : Lin) : Prop where
  kind : 0 ≤ l.kind ∧ l.kind ≤ 3
  bits : ∀ c ∈ l.cells, 0 ≤ c.bits ∧ c.bits ≤ 15
theorem node_tidy {l : Lin} (h : LineOk l) : tidyV (nodeV l) 0 = true := by
  have hc := line_cls h.kind
  have h10 : ¬ (nodeV l).tag = 10 := fun e => by rw [e] at hc; exact absurd hc (by decide)
  rw [tidyV_eq, if_neg h10, if_neg (by decide)]
  exact row_tidy l.cells h.bits _ hc
theorem box_cls {l : Lin} {level : Nat} (hs : stepV l level ≠ 0) : clsV (stepV l level) = 2 := by
  rcases step_way l level with ⟨h, _⟩ | ⟨h1, h2, _⟩
  · exact absurd h hs
  · have : stepV l level = 6 ∨ stepV l level = 7 ∨ stepV l level = 8 := by omega
    rcases this with h | h | h <;> rw [h] <;> rfl
theorem grp_tidy (sub : List Lin → List Nd) (level : Nat) (t : Int) (d : List Lin) (hok : ∀ l ∈ d, LineOk l) (hp : ∀ l ∈ d, ParOk t level l)
    (hsub : ∀ x p, (∀ y ∈ x :: p, y ∈ d) → stepV x level ≠ 0 → (∀ y ∈ x :: p, stepV y level = stepV x level) → tidyL (stepV x level) none (sub (x :: p)) 0 = true) :
    tidyL t none ((grp (alLine level) d).map (grpN sub level)) 0 = true := by
  have hone : ∀ x p, (grpN sub level (x :: p) = nodeV x ∧ stepV x level = 0) ∨ (grpN sub level (x :: p) = .mk (stepV x level) [] ⟨#[]⟩ (sub (x :: p)) ∧ stepV x level ≠ 0) := fun x p => by
    unfold grpN
    by_cases h : stepV x level = 0
    · exact .inl ⟨if_pos h, h⟩
    · exact .inr ⟨if_neg h, h⟩
  rw [tidyL_all, Bool.and_eq_true, map_flat]
  constructor
  · refine List.all_eq_true.2 fun k hk0 => ?_
    obtain ⟨g, hg, hk⟩ := List.mem_flatMap.1 hk0
    clear hk0
    revert hk
    revert k
    refine grp_mem (alLine level) d (fun g => ∀ k ∈ [grpN sub level g], okKid t 0 k = true) (fun x p hal hm k hk => ?_) d (fun y hy => hy) g hg
    rw [List.mem_singleton] at hk
    have hx := hm x (List.mem_cons_self ..)
    rcases hone x p with ⟨h1, h2⟩ | ⟨h1, h2⟩
    · rw [h1] at hk
      subst hk
      unfold okKid
      have hc := line_cls (hok x hx).kind
      have h0 : ¬ (nodeV x).tag = 0 := fun e => by rw [e] at hc; exact absurd hc (by decide)
      rw [may_line (hok x hx).kind (hp x hx) h2, node_tidy (hok x hx), decide_eq_false h0]
      rfl
    · rw [h1] at hk
      subst hk
      unfold okKid
      have hc := box_cls h2
      have h10 : ¬ stepV x level = 10 := fun e => by rw [e] at hc; exact absurd hc (by decide)
      have hst : ∀ y ∈ x :: p, stepV y level = stepV x level := fun y hy => by
        rcases List.mem_cons.1 hy with rfl | hy
        · rfl
        · have := hal y hy
          simp only [alLine, Bool.and_eq_true, decide_eq_true_eq] at this
          exact this.2.symm
      rw [show (Nd.mk (stepV x level) [] ⟨#[]⟩ (sub (x :: p))).tag = stepV x level from rfl, may_box (hp x hx) h2, decide_eq_false h2, tidyV, if_neg h10, if_neg (by decide), hsub x p hm h2 hst]
      rfl
  · refine grp_chn (alLine level) (fun p => [grpN sub level p]) (fun x a => (stepV x level = 0 → clsV a.tag = 3) ∧ (stepV x level ≠ 0 → a.tag = stepV x level)) d (fun x p hal hm => ⟨rfl, by simp, fun a ha => ?_⟩) (fun x y a b hx hy hal ha hb => ?_) d none (fun y hy => hy) (.inl rfl)
    · rw [List.mem_singleton] at ha
      subst ha
      rcases hone x p with ⟨h1, h2⟩ | ⟨h1, h2⟩
      · rw [h1]
        exact ⟨fun _ => line_cls (hok x (hm x (List.mem_cons_self ..))).kind, fun h => absurd h2 h⟩
      · rw [h1]
        exact ⟨fun h => absurd h h2, fun _ => rfl⟩
    · rw [beside_some]
      by_cases h2 : stepV y level = 0
      · have h3 := hb.1 h2
        by_cases he : a.tag = b.tag
        · simp [h3]
        · rw [decide_eq_false he]; rfl
      · have h3 := hb.2 h2
        have : ¬ a.tag = b.tag := by
          by_cases h1 : stepV x level = 0
          · intro e
            have h4 := ha.1 h1
            rw [e, h3, box_cls h2] at h4
            exact absurd h4 (by decide)
          · rw [ha.2 h1, h3]
            intro e
            simp [alLine, h1, e] at hal
            exact h2 hal
        rw [decide_eq_false this]; rfl
theorem nodes_tidy : ∀ (f level : Nat) (t : Int) (d : List Lin), (∀ l ∈ d, (wayV l).length ≤ level + f) → (∀ l ∈ d, LineOk l) → (∀ l ∈ d, ParOk t level l) → tidyL t none (nodesV f level d) 0 = true
  | 0, level, t, d, hw, hok, hp => by
    have h0 : ∀ l ∈ d, stepV l level = 0 := fun l hl => by
      rcases step_way l level with ⟨h1, _⟩ | ⟨h1, _, h3⟩
      · exact h1
      · have := hw l hl
        rw [List.drop_eq_nil_of_le (by omega)] at h3
        cases h3
    rw [nodesV_0 level d h0]
    exact grp_tidy _ level t d hok hp fun x p hm hs _ => absurd (h0 x (hm x (List.mem_cons_self ..))) hs
  | f + 1, level, t, d, hw, hok, hp => by
    rw [nodesV_eq]
    refine grp_tidy _ level t d hok hp fun x p hm hs hst => ?_
    refine nodes_tidy f (level + 1) _ (x :: p) (fun l hl => by have := hw l (hm l hl); omega) (fun l hl => hok l (hm l hl)) fun l hl => .inr ⟨Nat.succ_pos _, ?_, hs⟩
    rw [Nat.add_sub_cancel]
    exact (hst l hl).symm
theorem nodes_ne (level f : Nat) (d : List Lin) (h : d ≠ []) : nodesV f level d ≠ [] := by
  cases d with
  | nil => exact absurd rfl h
  | cons x tl =>
    cases f <;> (unfold nodesV; rw [grp]; simp)
theorem host_tidy {T : Str → Bool} {d : List Lin} (h : docMay T d = true) : (hostV T d).1.tag = 1 ∧ (hostV T d).1.kids ≠ [] ∧ tidyV (hostV T d).1 0 = true := by
  have hd : d ≠ [] := by
    intro e
    subst e
    simp [docMay] at h
  unfold hostV
  rw [if_pos h]
  refine ⟨rfl, nodes_ne 0 12 d hd, ?_⟩
  rw [tidyV, if_neg (by decide), if_neg (by decide)]
  refine nodes_tidy 12 0 1 d (host_way h) (fun l hl => ?_) (fun l hl => .inl ⟨rfl, rfl⟩)
  have := lin_may (docMay_lines h l hl)
  exact ⟨⟨this.2.2.1, this.2.2.2.1⟩, fun c hc => (may_cells (this.2.2.2.2.2.2 c hc)).2⟩
end Go.QL
end

section
/- The contracts of ref03.Target, ref05.Link, May, ref06.May, ref07.Size, May, tags.May. -/
set_option linter.unusedVariables false
set_option linter.unusedSimpArgs false
set_option maxHeartbeats 4000000
namespace Go.Proofs.YtokbhcnomffopaaGreatDoor
open Go Go.QL

theorem target3_calls (s : Str) (hs : s.size ≤ 1073741824) : ICalls Tryz.prog 108 [.str s] [] (fun u _ => u = .bool (targetR s)) := by
  refine x_enter Tryz.func108 Tryz.ntmps108 ?_
  refine ic_seq ?_
  refine ic_region ?_
  refine x_op ?_
  refine il_nil ?_
  refine ic_seq ?_
  refine x_mid [26] [7, 8, 9, 10, 11, 12, 13, 14, 15, 16, 17, 18, 19, 20, 21, 22, 23, 24, 25] (fun vs σ => vs = [.bool ((((!valueR s) || decide (s = ⟨#[]⟩)) || decide (sbyte s 0 = 32)) || decide (sbyte s (s.size - 1) = 32))] ∧ σ = []) ?_ ?_
  · refine ic_region ?_
    refine x_op ?_
    refine x_cv (value3_calls s hs) ?_
    refine x_op ?_
    refine x_op ?_
    rcases Bool.eq_false_or_eq_true (!valueR s) with h | h
    · simp only [h]
      first | refine n_op ?_ | refine y_op ?_
      first | refine n_op ?_ | refine y_op ?_
      refine x_op ?_
      refine x_op ?_
      first | refine n_op ?_ | refine y_op ?_
      first | refine n_op ?_ | refine y_op ?_
      first | refine n_op ?_ | refine y_op ?_
      refine x_op ?_
      refine x_op ?_
      first | refine n_op ?_ | refine y_op ?_
      first | refine n_op ?_ | refine y_op ?_
      first | refine n_op ?_ | refine y_op ?_
      first | refine n_op ?_ | refine y_op ?_
      first | refine n_op ?_ | refine y_op ?_
      first | refine n_op ?_ | refine y_op ?_
      refine x_op ?_
      refine il_nil ?_
      exact x_there
    simp only [h]
    refine y_op ?_
    refine y_op ?_
    refine x_op ?_
    refine x_op ?_
    by_cases he : s = ⟨#[]⟩
    · have hd : decide (s = (⟨#[]⟩ : ByteArray)) = true := decide_eq_true he
      simp only [hd]
      first | refine n_op ?_ | refine y_op ?_
      first | refine n_op ?_ | refine y_op ?_
      first | refine n_op ?_ | refine y_op ?_
      refine x_op ?_
      refine x_op ?_
      first | refine n_op ?_ | refine y_op ?_
      first | refine n_op ?_ | refine y_op ?_
      first | refine n_op ?_ | refine y_op ?_
      first | refine n_op ?_ | refine y_op ?_
      first | refine n_op ?_ | refine y_op ?_
      first | refine n_op ?_ | refine y_op ?_
      refine x_op ?_
      refine il_nil ?_
      exact x_there
    have hd : decide (s = (⟨#[]⟩ : ByteArray)) = false := decide_eq_false he
    have hpos : 0 < s.size := by
      rcases Nat.eq_zero_or_pos s.size with h | h
      · exact absurd (ByteArray.ext (Array.eq_empty_of_size_eq_zero h)) he
      · exact h
    have e : ((s.size : Int) - 1).toNat = s.size - 1 := by omega
    simp only [hd]
    refine y_op ?_
    refine y_op ?_
    refine y_op ?_
    refine x_op ?_
    refine x_op ?_
    rcases Bool.eq_false_or_eq_true (decide (sbyte s 0 = 32)) with h1 | h1
    · simp only [Int.toNat_zero, h1]
      first | refine n_op ?_ | refine y_op ?_
      first | refine n_op ?_ | refine y_op ?_
      first | refine n_op ?_ | refine y_op ?_
      first | refine n_op ?_ | refine y_op ?_
      first | refine n_op ?_ | refine y_op ?_
      first | refine n_op ?_ | refine y_op ?_
      refine x_op ?_
      refine il_nil ?_
      exact x_there
    simp only [Int.toNat_zero, h1]
    refine y_op ?_
    refine y_op ?_
    refine y_op ?_
    refine y_op ?_
    refine y_op ?_
    refine y_op ?_
    refine x_op ?_
    refine il_nil ?_
    simp only [e]
    exact x_there
  rintro vs σ ⟨rfl, rfl⟩
  simp only [sets, nf]
  refine ic_cond rfl (fun hc => ?_) (fun hc => ?_) -- t26
  · -- true
    have ht : targetR s = false := by
      simp only [Bool.or_eq_true, Bool.not_eq_true'] at hc
      rcases hc with ((h | h) | h) | h <;> simp [targetR, h]
    rw [ht]
    refine ic_seq ?_
    refine ic_region ?_
    refine x_op ?_
    refine il_nil ?_
    refine ic_ret ?_
    repeat (first | with_reducible refine it_ret ?_ | with_reducible refine ib_ret ?_)
    exact x_res1 Tryz.results108 rfl
  have ht : targetR s = !scriptR s := by
    simp only [Bool.or_eq_false_iff, Bool.not_eq_false'] at hc
    obtain ⟨⟨⟨h1, h2⟩, h3⟩, h4⟩ := hc
    simp [targetR, h1, h2, h3, h4]
  rw [ht]
  refine ic_skip ?_
  refine ic_seq ?_
  refine ic_region ?_
  refine x_op ?_
  refine il_nil ?_
  refine ic_seq ?_
  refine ic_region ?_
  refine x_op ?_
  refine il_nil ?_
  refine ic_seq ?_
  refine ic_block ?_ -- 0
  refine x_loop [4] [7, 8, 9, 10, 11, 12, 13, 14, 15, 16, 17, 18, 19, 20, 21, 22, 23, 24, 25, 26, 27, 28, 29, 30, 31, 32, 33, 34, 35, 36, 37, 38] (fun m vs σ => ∃ i : Nat, i ≤ s.size ∧ (∀ j, j < i → sbyte s j ≠ 58) ∧ m = s.size - i ∧ vs = [.int .i64 i] ∧ σ = []) ⟨0, Nat.zero_le _, fun j h => absurd h (Nat.not_lt_zero _), rfl, rfl, rfl⟩ ?_
  rintro m vs σ ⟨i, hi, hpre, rfl, rfl, rfl⟩
  simp only [sets, nf]
  refine ic_seq ?_
  refine x_mid [36] [27, 28, 29, 30, 31, 32, 33, 34, 35] (fun vs σ => vs = [.bool (decide ((i : Int) < (s.size : Int)) && !decide (sbyte s i = 58))] ∧ σ = []) ?_ ?_
  · refine ic_region ?_
    refine x_op ?_
    refine x_op ?_
    refine x_op ?_
    refine x_op ?_
    refine x_op ?_
    by_cases hil : i < s.size
    · have hd : decide ((i : Int) < (s.size : Int)) = true := decide_eq_true (by omega)
      simp only [hd]
      refine y_op ?_
      refine y_op ?_
      refine y_op ?_
      refine y_op ?_
      refine x_op ?_
      refine il_nil ?_
      simp only [Int.toNat_natCast]
      exact x_there
    · have hd : decide ((i : Int) < (s.size : Int)) = false := decide_eq_false (by omega)
      simp only [hd]
      refine n_op ?_
      refine n_op ?_
      refine n_op ?_
      refine n_op ?_
      refine x_op ?_
      refine il_nil ?_
      exact x_there
  rintro vs σ ⟨rfl, rfl⟩
  simp only [sets, nf]
  refine ic_cond rfl (fun hc => ?_) (fun hc => ?_) -- t36
  · -- true
    rw [Bool.and_eq_true, Bool.not_eq_true'] at hc
    have hil : i < s.size := by have := of_decide_eq_true hc.1; omega
    have hne := of_decide_eq_false hc.2
    refine ic_skip ?_
    refine ic_block ?_ -- 1
    refine ic_region ?_
    refine x_op ?_
    refine x_op ?_
    refine x_op ?_
    refine il_nil ?_
    exact x_next (s.size - (i + 1)) ⟨i + 1, by omega, fun j hj => (by
      rcases Nat.lt_or_ge j i with h | h
      · exact hpre j h
      · obtain rfl : j = i := by omega
        exact hne), rfl, rfl, rfl⟩ (by omega) -- round
  -- false
  have hend : i = s.size ∨ sbyte s i = 58 := by
    rw [Bool.and_eq_false_iff, Bool.not_eq_false'] at hc
    rcases hc with h | h
    · exact .inl (by have := of_decide_eq_false h; omega)
    · exact .inr (of_decide_eq_true h)
  have hh := head_len s i hi hpre hend
  refine ic_exit ?_ -- 0
  refine ic_seq ?_
  refine ic_seq ?_
  refine ic_region ?_
  refine x_op ?_
  refine x_op ?_
  refine x_op ?_
  refine x_op ?_
  refine il_nil ?_
  have e10 : (ByteArray.size ⟨#[106, 97, 118, 97, 115, 99, 114, 105, 112, 116]⟩) = 10 := rfl
  simp only [e10]
  refine ic_cond rfl (fun hc => ?_) (fun hc => ?_) -- t42
  · -- true
    have hne : i ≠ 10 := fun e => by subst e; simp at hc
    rw [script_len s i hi hh hne]
    refine ic_seq ?_
    refine ic_region ?_
    refine x_op ?_
    refine il_nil ?_
    refine ic_ret ?_
    repeat (first | with_reducible refine it_ret ?_ | with_reducible refine ib_ret ?_)
    exact x_res1 Tryz.results108 rfl
  obtain rfl : i = 10 := by
    have h : (i : Int) = ((10 : Nat) : Int) := by simpa using hc
    omega
  -- false
  refine ic_skip ?_
  refine ic_seq ?_
  refine ic_seq ?_
  refine ic_region ?_
  refine x_op ?_
  refine il_nil ?_
  refine ic_block ?_ -- 2
  refine x_loop [5] [2, 6, 27, 28, 29, 30, 31, 32, 33, 34, 35, 36, 37, 38, 39, 40, 41, 42, 43, 44, 45, 46, 47, 48, 49, 50, 51, 52, 53, 54, 55, 56, 57, 58, 59, 60, 61, 62, 63] (fun m vs σ => ∃ k : Nat, k ≤ 10 ∧ (∀ j, j < k → lowI (sbyte s j) = sbyte wordS j) ∧ m = 10 - k ∧ vs = [.int .i64 k] ∧ σ = []) ⟨0, Nat.zero_le _, fun j h => absurd h (Nat.not_lt_zero _), rfl, rfl, rfl⟩ ?_
  rintro m vs σ ⟨k, hk, hlow, rfl, rfl, rfl⟩
  simp only [sets, nf]
  refine ic_seq ?_
  refine ic_seq ?_
  refine ic_region ?_
  refine x_op ?_
  refine x_op ?_
  refine x_op ?_
  refine il_nil ?_
  refine ic_cond rfl (fun hc => ?_) (fun hc => ?_) -- t45
  · -- true
    have hkl : k < 10 := by have := of_decide_eq_true hc; omega
    have hw10 : (k : Int) < ((ByteArray.size ⟨#[106, 97, 118, 97, 115, 99, 114, 105, 112, 116]⟩ : Nat) : Int) := by rw [e10]; omega
    have hr := sbyte_range s k
    refine ic_skip ?_
    refine ic_seq ?_
    refine ic_block ?_ -- 3
    refine ic_seq ?_
    refine ic_region ?_
    refine x_op ?_
    refine x_op ?_
    refine x_op ?_
    refine x_op ?_
    refine il_nil ?_
    simp only [Int.toNat_natCast]
    refine x_mid [6] [46, 47, 48, 49, 50, 51, 52, 53, 54, 55, 56, 57, 58] (fun vs σ => vs = [.int .u8 (lowI (sbyte s k))] ∧ σ = []) ?_ ?_
    · refine x_mid [56] [46, 47, 48, 49, 50, 51, 52, 53, 54, 55] (fun vs σ => vs = [.bool (decide (65 ≤ sbyte s k) && decide (sbyte s k ≤ 90))] ∧ σ = []) ?_ ?_
      · refine ic_region ?_
        repeat' (first | refine x_op ?_ | refine n_op ?_ | refine y_op ?_ | refine il_split (fun _ => ?_) (fun _ => ?_) | refine il_nil ?_)
        all_goals exact x_there
      rintro vs σ ⟨rfl, rfl⟩
      simp only [sets, nf]
      refine ic_cond rfl (fun hc => ?_) (fun hc => ?_) -- t56
      · -- true
        simp only [Bool.and_eq_true, decide_eq_true_eq] at hc
        have e2 : IntKind.wrap .u8 (sbyte s k + 32) = lowI (sbyte s k) := by
          unfold lowI
          rw [if_pos hc]
          rw [IntKind.wrap_u8]
          omega
        refine ic_region ?_
        refine x_op ?_
        refine x_op ?_
        refine x_op ?_
        refine il_nil ?_
        simp only [e2]
        exact x_there
      · -- false
        simp only [Bool.and_eq_false_iff, decide_eq_false_iff_not] at hc
        have e2 : sbyte s k = lowI (sbyte s k) := by
          unfold lowI
          rw [if_neg (by omega)]
        refine ic_skip ?_
        rw [← e2]
        exact x_there
    rintro vs σ ⟨rfl, rfl⟩
    simp only [sets, nf]
    refine ic_seq ?_
    refine ic_region ?_
    refine x_op ?_
    refine x_op ?_
    refine x_op ?_
    refine x_op ?_
    refine x_op ?_
    refine il_nil ?_
    simp only [Int.toNat_natCast]
    refine ic_cond rfl (fun hc => ?_) (fun hc => ?_) -- t63
    · -- true
      rw [script_byte s hi hh k hkl (fun e => by
        have hc : (!decide (lowI (sbyte s k) = sbyte wordS k)) = true := hc
        rw [decide_eq_true e] at hc
        cases hc)]
      refine ic_seq ?_
      refine ic_region ?_
      refine x_op ?_
      refine il_nil ?_
      refine ic_ret ?_
      repeat (first | with_reducible refine it_ret ?_ | with_reducible refine ib_ret ?_)
      exact x_res1 Tryz.results108 rfl
    · -- false
      have he : lowI (sbyte s k) = sbyte wordS k := by
        have hc : (!decide (lowI (sbyte s k) = sbyte wordS k)) = false := hc
        simpa using hc
      refine ic_skip ?_
      refine ic_region ?_
      refine x_op ?_
      refine x_op ?_
      refine x_op ?_
      refine il_nil ?_
      exact x_next (10 - (k + 1)) ⟨k + 1, by omega, fun j hj => (by
        rcases Nat.lt_or_ge j k with h | h
        · exact hlow j h
        · obtain rfl : j = k := by omega
          exact he), rfl, rfl, rfl⟩ (by omega) -- round
  · -- false
    obtain rfl : k = 10 := by have := of_decide_eq_false hc; omega
    rw [script_all s hi hh hlow]
    refine ic_exit ?_ -- 2
    refine ic_seq ?_
    refine ic_region ?_
    refine x_op ?_
    refine il_nil ?_
    refine ic_ret ?_
    repeat (first | with_reducible refine it_ret ?_ | with_reducible refine ib_ret ?_)
    exact x_res1 Tryz.results108 rfl
theorem link5_calls (h : Str) (hs : h.size ≤ 1073741824) : ICalls Tryz.prog 84 [.str h] [] (fun u _ => u = .bool (linkMay targetV h)) := by
  refine x_enter Tryz.func84 Tryz.ntmps84 ?_
  refine ic_seq ?_
  refine ic_region ?_
  refine x_op ?_
  refine il_nil ?_
  refine x_mid [2] [3, 4, 5, 6, 7, 8] (fun vs σ => vs = [.bool (decide (h = ⟨#[]⟩) || targetR h)] ∧ σ = []) ?_ ?_
  · refine ic_region ?_
    repeat' (first | refine x_op ?_ | refine n_op ?_ | refine x_cv (target3_calls h hs) ?_ | refine y_cv (target3_calls h hs) ?_ | refine y_op ?_ | refine il_split (fun _ => ?_) (fun _ => ?_) | refine il_nil ?_)
    all_goals exact x_there
  rintro vs σ ⟨rfl, rfl⟩
  simp only [sets, nf]
  refine ic_ret ?_
  repeat (first | with_reducible refine it_ret ?_ | with_reducible refine ib_ret ?_)
  exact x_ret1v Tryz.results84 (he := by rw [targetR_eq]; rfl)
theorem may5_calls (l : List Cel) (b : Bool) (hl : l.length ≤ 1125899906842624) (hh : ∀ c ∈ l, c.href.size ≤ 1073741824) : ICalls Tryz.prog 67 [.sl b (l.map eC)] [] (fun u _ => u = .bool (!l.any (celNot targetV))) := by
  refine x_enter Tryz.func67 Tryz.ntmps67 ?_
  refine ic_seq ?_
  refine ic_region ?_
  refine x_op ?_
  refine il_nil ?_
  refine ic_seq ?_
  refine ic_seq ?_
  refine ic_region ?_
  refine x_op ?_
  refine il_nil ?_
  refine ic_block ?_ -- 0
  refine x_loop [3] [2, 4, 5, 6, 7, 8, 9, 10, 11, 12, 13, 14, 15, 16, 17, 18, 19, 20, 21, 22, 23, 24, 25, 26, 27, 28, 29, 30, 31, 32, 33, 34, 35, 36, 37, 38, 39] (fun m vs σ => ∃ i : Nat, i ≤ l.length ∧ (l.drop i).any (celNot targetV) = l.any (celNot targetV) ∧ m = l.length - i ∧ vs = [.int .i64 i] ∧ σ = []) ⟨0, Nat.zero_le _, rfl, rfl, rfl, rfl⟩ ?_
  rintro m vs σ ⟨i, hi, hany, rfl, rfl, rfl⟩
  simp only [sets, nf]
  refine ic_seq ?_
  refine ic_seq ?_
  refine ic_region ?_
  refine x_op ?_
  refine x_op ?_
  refine x_op ?_
  refine x_op ?_
  refine il_nil ?_
  refine ic_cond rfl (fun hc => ?_) (fun hc => ?_) -- t8
  · -- true
    have hil : i < l.length := by have := of_decide_eq_true hc; omega
    obtain ⟨c, hcc⟩ : ∃ c, l[i] = c := ⟨_, rfl⟩
    have hix : (l.map eC)[((i : Nat) : Int).toNat]? = some (eC c) := by simp [hil, hcc]
    have hcm := hh c (hcc ▸ List.getElem_mem hil)
    rw [List.drop_eq_getElem_cons hil, List.any_cons, hcc] at hany
    refine ic_skip ?_
    refine ic_seq ?_
    refine ic_block ?_ -- 1
    refine ic_seq ?_
    refine ic_region ?_
    refine x_op ?_
    refine x_op ?_
    refine x_op ?_
    refine x_op ?_
    refine x_op ?_
    refine x_op ?_
    refine il_nil ?_
    refine x_mid [39] [4, 5, 6, 7, 8, 9, 10, 11, 12, 14, 15, 16, 17, 18, 19, 20, 21, 22, 23, 24, 25, 26, 27, 28, 29, 30, 31, 32, 33, 34, 35, 36, 37, 38] (fun vs σ => vs = [.bool (celNot targetV c)] ∧ σ = [.box 57 (clc c)]) ?_ ?_
    · unfold celNot
      refine ic_region ?_
      repeat' (first | refine x_op ?_ | refine n_op ?_ | refine x_cv (may1_calls c.r) ?_ | refine y_cv (may1_calls c.r) ?_ | refine x_cv (link5_calls c.href hcm) ?_ | refine y_cv (link5_calls c.href hcm) ?_ | refine y_op ?_ | refine il_split (fun _ => ?_) (fun _ => ?_) | refine il_nil ?_)
      all_goals exact x_there
    rintro vs σ ⟨rfl, rfl⟩
    simp only [sets, nf]
    refine ic_cond rfl (fun hc => ?_) (fun hc => ?_) -- t39
    · -- true
      rw [hc, Bool.true_or] at hany
      rw [← hany]
      refine ic_seq ?_
      refine ic_region ?_
      refine x_op ?_
      refine il_nil ?_
      refine ic_ret ?_
      repeat (first | with_reducible refine it_ret ?_ | with_reducible refine ib_ret ?_)
      exact x_res1 Tryz.results67 rfl
    · -- false
      rw [hc, Bool.false_or] at hany
      refine ic_skip ?_
      refine ic_region ?_
      refine x_op ?_
      refine x_op ?_
      refine x_op ?_
      refine il_nil ?_
      exact x_next (l.length - (i + 1)) ⟨i + 1, by omega, hany, rfl, rfl, rfl⟩ (by omega) -- round
  · -- false
    obtain rfl : i = l.length := by have := of_decide_eq_false hc; omega
    rw [List.drop_length] at hany
    rw [← hany]
    refine ic_exit ?_ -- 0
    refine ic_seq ?_
    refine ic_region ?_
    refine x_op ?_
    refine il_nil ?_
    refine ic_ret ?_
    repeat (first | with_reducible refine it_ret ?_ | with_reducible refine ib_ret ?_)
    exact x_res1 Tryz.results67 rfl
theorem may6_calls (l : Lin) (hl : l.cells.length ≤ 1125899906842624) (hl2 : l.lists.length ≤ 1125899906842624) (hh : ∀ c ∈ l.cells, c.href.size ≤ 1073741824) : ICalls Tryz.prog 39 [eL l] [] (fun u _ => u = .bool (linMay targetV l)) := by
  refine x_enter Tryz.func39 Tryz.ntmps39 ?_
  refine ic_seq ?_
  refine ic_region ?_
  refine x_op ?_
  refine x_op ?_
  refine il_nil ?_
  refine ic_seq ?_
  refine x_mid [27] [4, 5, 6, 7, 8, 9, 10, 11, 12, 13, 14, 15, 16, 17, 18, 19, 20, 21, 22, 23, 24, 25, 26] (fun vs σ => vs = [.bool (lin1 l)] ∧ σ = [.box 31 (lnc l)]) ?_ ?_
  · unfold lin1
    refine ic_region ?_
    repeat' (first | refine x_op ?_ | refine n_op ?_ | refine y_op ?_ | refine il_split (fun _ => ?_) (fun _ => ?_) | refine il_nil ?_)
    all_goals exact x_there
  rintro vs σ ⟨rfl, rfl⟩
  simp only [sets, nf, lnc]
  refine ic_cond rfl (fun h1 => ?_) (fun h1 => ?_) -- t27
  · -- true
    rw [show linMay targetV l = false by rw [linMay, h1]; rfl]
    refine ic_seq ?_
    refine ic_region ?_
    refine x_op ?_
    refine il_nil ?_
    refine ic_ret ?_
    repeat (first | with_reducible refine it_ret ?_ | with_reducible refine ib_ret ?_)
    exact x_res1 Tryz.results39 rfl
  refine ic_skip ?_
  refine ic_seq ?_
  refine ic_seq ?_
  refine ic_region ?_
  refine x_op ?_
  refine il_nil ?_
  refine ic_block ?_ -- 0
  refine x_loop [3] [2, 4, 5, 6, 7, 8, 9, 10, 11, 12, 13, 14, 15, 16, 17, 18, 19, 20, 21, 22, 23, 24, 25, 26, 27, 28, 29, 30, 31, 32, 33, 34, 35, 36, 37, 38, 39, 40, 41, 42, 43, 44, 45, 46, 47, 48, 49, 50, 51, 52, 53] (fun m vs σ => ∃ i : Nat, i ≤ l.lists.length ∧ (l.lists.drop i).any (fun k => lstNot k || !decide (l.kind = 0)) = l.lists.any (fun k => lstNot k || !decide (l.kind = 0)) ∧ m = l.lists.length - i ∧ vs = [.int .i64 i] ∧ σ = [.box 31 (lnc l)]) ⟨0, Nat.zero_le _, rfl, rfl, rfl, rfl⟩ ?_
  rintro m vs σ ⟨i, hi, hany, rfl, rfl, rfl⟩
  simp only [sets, nf, lnc]
  refine ic_seq ?_
  refine ic_seq ?_
  refine ic_region ?_
  refine x_op ?_
  refine x_op ?_
  refine x_op ?_
  refine x_op ?_
  refine x_op ?_
  refine il_nil ?_
  have hsplit : l.lists.any (fun k => lstNot k || !decide (l.kind = 0)) = (lin2 l || l.lists.any lstNot) := by
    unfold lin2
    rcases Bool.eq_false_or_eq_true (!decide (l.kind = 0)) with h | h
    · rw [h]
      simp only [Bool.or_true, Bool.and_true]
      cases l.lists with
      | nil => rfl
      | cons x xs => simp
    · rw [h]
      simp only [Bool.or_false, Bool.and_false, Bool.false_or]
  refine ic_cond rfl (fun hc => ?_) (fun hc => ?_) -- t32
  · -- true
    have hil : i < l.lists.length := by have := of_decide_eq_true hc; omega
    obtain ⟨k, hk⟩ : ∃ k, l.lists[i] = k := ⟨_, rfl⟩
    have hix : (l.lists.map eI)[((i : Nat) : Int).toNat]? = some (eI k) := by simp [hil, hk]
    rw [List.drop_eq_getElem_cons hil, List.any_cons, hk] at hany
    refine ic_skip ?_
    refine ic_seq ?_
    refine ic_block ?_ -- 1
    refine x_mid [53] [28, 29, 30, 31, 32, 33, 34, 35, 36, 37, 38, 39, 40, 41, 42, 43, 44, 45, 46, 47, 48, 49, 50, 51, 52] (fun vs σ => vs = [.bool ((!decide (k = 0) && !decide (k = 1)) || !decide (l.kind = 0))] ∧ σ = [.box 31 (lnc l)]) ?_ ?_
    · refine ic_region ?_
      repeat' (first | refine x_op ?_ | refine n_op ?_ | refine y_op ?_ | refine il_split (fun _ => ?_) (fun _ => ?_) | refine il_nil ?_)
      all_goals exact x_there
    rintro vs σ ⟨rfl, rfl⟩
    simp only [sets, nf, lnc]
    have hany : (((!decide (k = 0) && !decide (k = 1)) || !decide (l.kind = 0)) || (l.lists.drop (i + 1)).any (fun k => lstNot k || !decide (l.kind = 0))) = l.lists.any (fun k => lstNot k || !decide (l.kind = 0)) := hany
    refine ic_cond rfl (fun hc => ?_) (fun hc => ?_) -- t53
    · -- true
      rw [hc, Bool.true_or, hsplit] at hany
      rw [show linMay targetV l = false by
        rw [linMay]
        rcases Bool.or_eq_true _ _ ▸ hany.symm with h | h
        · rw [h]; simp
        · rw [h]; simp]
      refine ic_seq ?_
      refine ic_region ?_
      refine x_op ?_
      refine il_nil ?_
      refine ic_ret ?_
      repeat (first | with_reducible refine it_ret ?_ | with_reducible refine ib_ret ?_)
      exact x_res1 Tryz.results39 rfl
    · -- false
      rw [hc, Bool.false_or] at hany
      refine ic_skip ?_
      refine ic_region ?_
      refine x_op ?_
      refine x_op ?_
      refine x_op ?_
      refine il_nil ?_
      exact x_next (l.lists.length - (i + 1)) ⟨i + 1, by omega, hany, rfl, rfl, rfl⟩ (by omega) -- round
  · -- false
    obtain rfl : i = l.lists.length := by have := of_decide_eq_false hc; omega
    rw [List.drop_length, hsplit] at hany
    have h2 : lin2 l = false ∧ l.lists.any lstNot = false := by
      have : (lin2 l || l.lists.any lstNot) = false := hany.symm
      rwa [Bool.or_eq_false_iff] at this
    rw [show linMay targetV l = !l.cells.any (celNot targetV) by rw [linMay, h1, h2.1, h2.2]; simp]
    refine ic_exit ?_ -- 0
    refine ic_seq ?_
    refine ic_region ?_
    refine x_op ?_
    refine x_op ?_
    refine x_cv (may5_calls l.cells false hl hh) ?_
    refine x_op ?_
    refine il_nil ?_
    refine ic_ret ?_
    repeat (first | with_reducible refine it_ret ?_ | with_reducible refine ib_ret ?_)
    exact x_res1 Tryz.results39 rfl
theorem size7_calls (d : List Lin) (b : Bool) (hl : d.length ≤ 4294967296) (hs : dsize d ≤ 1099511627776) : ICalls Tryz.prog 8 [.sl b (d.map eL)] [] (fun u _ => u = .int .i64 (dsize d : Nat)) := by
  refine x_enter Tryz.func8 Tryz.ntmps8 ?_
  refine ic_seq ?_
  refine ic_region ?_
  refine x_op ?_
  refine il_nil ?_
  refine ic_seq ?_
  refine ic_region ?_
  refine x_op ?_
  refine il_nil ?_
  refine ic_seq ?_
  refine ic_seq ?_
  refine ic_region ?_
  refine x_op ?_
  refine il_nil ?_
  refine ic_block ?_ -- 0
  refine x_loop [3, 4] [5, 6, 7, 8, 9, 10, 11, 12, 13, 14, 15, 16, 17, 18] (fun m vs σ => ∃ i : Nat, i ≤ d.length ∧ m = d.length - i ∧ vs = [.int .i64 (dsize (d.take i) : Nat), .int .i64 i] ∧ σ = []) ⟨0, Nat.zero_le _, rfl, rfl, rfl⟩ ?_
  rintro m vs σ ⟨i, hi, rfl, rfl, rfl⟩
  simp only [sets, nf]
  refine ic_seq ?_
  refine ic_seq ?_
  refine ic_region ?_
  refine x_op ?_
  refine x_op ?_
  refine x_op ?_
  refine x_op ?_
  refine il_nil ?_
  refine ic_cond rfl (fun hc => ?_) (fun hc => ?_) -- t8
  · -- true
    have hil : i < d.length := by have := of_decide_eq_true hc; omega
    have hix : (d.map eL)[((i : Nat) : Int).toNat]? = some (eL d[i]) := by simp [hil]
    have h1 := dsize_take d i hil
    have h2 := dsize_take_le d (i + 1)
    refine ic_skip ?_
    refine ic_seq ?_
    refine ic_block ?_ -- 1
    refine ic_region ?_
    refine x_op ?_
    refine x_op ?_
    refine x_op ?_
    refine x_op ?_
    refine x_op ?_
    refine x_op ?_
    refine x_op ?_
    refine x_op ?_
    refine x_op ?_
    refine il_nil ?_
    refine ic_region ?_
    refine x_op ?_
    refine x_op ?_
    refine x_op ?_
    refine il_nil ?_
    rw [show ((dsize (d.take i) : Nat) : Int) + (d[i].cells.length : Int) = ((dsize (d.take (i + 1)) : Nat) : Int) by omega]
    exact x_next (d.length - (i + 1)) ⟨i + 1, by omega, rfl, rfl, rfl⟩ (by omega) -- round
  · -- false
    obtain rfl : i = d.length := by have := of_decide_eq_false hc; omega
    rw [List.take_length]
    refine ic_exit ?_ -- 0
    refine ic_seq ?_
    refine ic_region ?_
    refine x_op ?_
    refine x_op ?_
    refine il_nil ?_
    refine ic_ret ?_
    repeat (first | with_reducible refine it_ret ?_ | with_reducible refine ib_ret ?_)
    exact x_res1 Tryz.results8 rfl
theorem may7_calls (d : List Lin) (b : Bool) (hl : d.length ≤ 4294967296) (hs : dsize d ≤ 1099511627776) (h1 : ∀ l ∈ d, l.cells.length ≤ 1125899906842624) (h2 : ∀ l ∈ d, l.lists.length ≤ 1125899906842624) (hh : ∀ l ∈ d, ∀ c ∈ l.cells, c.href.size ≤ 1073741824) : ICalls Tryz.prog 20 [.sl b (d.map eL)] [] (fun u _ => u = .bool (docMay targetV d)) := by
  refine x_enter Tryz.func20 Tryz.ntmps20 ?_
  refine ic_seq ?_
  refine ic_region ?_
  refine x_op ?_
  refine il_nil ?_
  refine ic_seq ?_
  refine x_mid [16] [4, 5, 6, 7, 8, 9, 10, 11, 12, 13, 14, 15] (fun vs σ => vs = [.bool ((decide ((d.length : Int) < 1) || decide (200 < (d.length : Int))) || decide (4000 < (dsize d : Int)))] ∧ σ = []) ?_ ?_
  · refine ic_region ?_
    repeat' (first | refine x_op ?_ | refine n_op ?_ | refine x_cv (size7_calls d b hl hs) ?_ | refine y_cv (size7_calls d b hl hs) ?_ | refine y_op ?_ | refine il_split (fun _ => ?_) (fun _ => ?_) | refine il_nil ?_)
    all_goals exact x_there
  rintro vs σ ⟨rfl, rfl⟩
  simp only [sets, nf]
  have hfirst : docMay targetV d = (!((decide ((d.length : Int) < 1) || decide (200 < (d.length : Int))) || decide (4000 < (dsize d : Int))) && !(d.any fun l => !linMay targetV l)) := by
    unfold docMay
    congr 1
    rw [Bool.eq_iff_iff]
    simp only [Bool.and_eq_true, decide_eq_true_eq, Bool.not_eq_true', Bool.or_eq_false_iff, decide_eq_false_iff_not]
    omega
  refine ic_cond rfl (fun hc => ?_) (fun hc => ?_) -- t16
  · -- true
    rw [hfirst, hc]
    refine ic_seq ?_
    refine ic_region ?_
    refine x_op ?_
    refine il_nil ?_
    refine ic_ret ?_
    repeat (first | with_reducible refine it_ret ?_ | with_reducible refine ib_ret ?_)
    exact x_res1 Tryz.results20 rfl
  rw [hfirst, hc, Bool.not_false, Bool.true_and]
  refine ic_skip ?_
  refine ic_seq ?_
  refine ic_seq ?_
  refine ic_region ?_
  refine x_op ?_
  refine il_nil ?_
  refine ic_block ?_ -- 0
  refine x_loop [3] [2, 4, 5, 6, 7, 8, 9, 10, 11, 12, 13, 14, 15, 16, 17, 18, 19, 20, 21, 22, 23, 24, 25, 26, 27, 28] (fun m vs σ => ∃ i : Nat, i ≤ d.length ∧ (d.drop i).any (fun l => !linMay targetV l) = d.any (fun l => !linMay targetV l) ∧ m = d.length - i ∧ vs = [.int .i64 i] ∧ σ = []) ⟨0, Nat.zero_le _, rfl, rfl, rfl, rfl⟩ ?_
  rintro m vs σ ⟨i, hi, hany, rfl, rfl, rfl⟩
  simp only [sets, nf]
  refine ic_seq ?_
  refine ic_seq ?_
  refine ic_region ?_
  refine x_op ?_
  refine x_op ?_
  refine x_op ?_
  refine x_op ?_
  refine il_nil ?_
  refine ic_cond rfl (fun hc => ?_) (fun hc => ?_) -- t20
  · -- true
    have hil : i < d.length := by have := of_decide_eq_true hc; omega
    obtain ⟨l, hll⟩ : ∃ l, d[i] = l := ⟨_, rfl⟩
    have hix : (d.map eL)[((i : Nat) : Int).toNat]? = some (eL l) := by simp [hil, hll]
    have hm : l ∈ d := hll ▸ List.getElem_mem hil
    rw [List.drop_eq_getElem_cons hil, List.any_cons, hll] at hany
    refine ic_skip ?_
    refine ic_seq ?_
    refine ic_block ?_ -- 1
    refine ic_seq ?_
    refine ic_region ?_
    refine x_op ?_
    refine x_op ?_
    refine x_op ?_
    refine x_op ?_
    refine x_cv (may6_calls l (h1 l hm) (h2 l hm) (hh l hm)) ?_
    refine x_op ?_
    refine il_nil ?_
    refine ic_cond rfl (fun hc => ?_) (fun hc => ?_) -- t28
    · -- true
      rw [hc, Bool.true_or] at hany
      rw [← hany]
      refine ic_seq ?_
      refine ic_region ?_
      refine x_op ?_
      refine il_nil ?_
      refine ic_ret ?_
      repeat (first | with_reducible refine it_ret ?_ | with_reducible refine ib_ret ?_)
      exact x_res1 Tryz.results20 rfl
    · -- false
      rw [hc, Bool.false_or] at hany
      refine ic_skip ?_
      refine ic_region ?_
      refine x_op ?_
      refine x_op ?_
      refine x_op ?_
      refine il_nil ?_
      exact x_next (d.length - (i + 1)) ⟨i + 1, by omega, hany, rfl, rfl, rfl⟩ (by omega) -- round
  · -- false
    obtain rfl : i = d.length := by have := of_decide_eq_false hc; omega
    rw [List.drop_length] at hany
    rw [← hany]
    refine ic_exit ?_ -- 0
    refine ic_seq ?_
    refine ic_region ?_
    refine x_op ?_
    refine il_nil ?_
    refine ic_ret ?_
    repeat (first | with_reducible refine it_ret ?_ | with_reducible refine ib_ret ?_)
    exact x_res1 Tryz.results20 rfl
end Go.Proofs.YtokbhcnomffopaaGreatDoor
end

section
/- QL, part F: a row by parts is the row leaf by leaf. No program in sight. -/
set_option linter.unusedVariables false
set_option linter.unusedSimpArgs false
namespace Go.QL
open Go Go.RowKit
/-- The last part takes what is like its head. -/
theorem grp_snoc {α : Type} (al : α → α → Bool) : ∀ (l : List α) (p c : α), l.getLast? = some p → ∃ G h t, grp al l = G ++ [h :: t] ∧ (∀ y ∈ t, al h y = true) ∧ (h :: t).getLast? = some p ∧ (∀ y ∈ h :: t, y ∈ l) ∧ grp al (l ++ [c]) = (if al h c = true then G ++ [h :: t ++ [c]] else G ++ [h :: t] ++ [[c]])
  | [], p, c, hl => by simp at hl
  | x :: tl, p, c, hl => by
    have hsp := List.takeWhile_append_dropWhile (p := al x) (l := tl)
    have hall : ∀ y ∈ tl.takeWhile (al x), al x y = true := fun y hy => List.all_eq_true.1 (List.all_takeWhile (p := al x) (l := tl)) y hy
    by_cases hd : tl.dropWhile (al x) = []
    · rw [hd, List.append_nil] at hsp
      rw [hsp] at hall
      refine ⟨[], x, tl, ?_, hall, hl, fun y hy => hy, ?_⟩
      · rw [grp, hsp, hd, grp]; rfl
      · rw [List.cons_append, grp, List.takeWhile_append_of_pos (fun y hy => hall y hy), List.dropWhile_append_of_pos (fun y hy => hall y hy)]
        by_cases hc : al x c = true
        · rw [List.takeWhile_cons, List.dropWhile_cons, if_pos hc, if_pos hc, if_pos hc, List.takeWhile_nil, List.dropWhile_nil, grp]; rfl
        · rw [List.takeWhile_cons, List.dropWhile_cons, if_neg hc, if_neg hc, if_neg hc, List.append_nil, grp, List.takeWhile_nil, List.dropWhile_nil, grp]; rfl
    · have hl2 : (tl.dropWhile (al x)).getLast? = some p := by
        have h2 : tl.getLast? = some p := by
          cases tl with
          | nil => exact absurd rfl hd
          | cons y r => rw [List.getLast?_cons_cons] at hl; exact hl
        rw [← hsp, List.getLast?_append] at h2
        cases hg : (tl.dropWhile (al x)).getLast? with
        | none => exact absurd (List.getLast?_eq_none_iff.1 hg) hd
        | some q => rw [hg] at h2; simpa using h2
      obtain ⟨G, h, t, e1, e2, e3, e4, e5⟩ := grp_snoc al (tl.dropWhile (al x)) p c hl2
      have ha : (tl ++ [c]).dropWhile (al x) = tl.dropWhile (al x) ++ [c] ∧ (tl ++ [c]).takeWhile (al x) = tl.takeWhile (al x) := by
        obtain ⟨y, r, hy⟩ := List.exists_cons_of_ne_nil hd
        have hny := dropWhile_head (al x) tl y (by rw [hy]; rfl)
        have e : tl ++ [c] = tl.takeWhile (al x) ++ (y :: (r ++ [c])) := by
          conv => lhs; rw [← hsp, hy]
          simp
        rw [e, List.dropWhile_append_of_pos (fun z hz => hall z hz), List.takeWhile_append_of_pos (fun z hz => hall z hz), List.dropWhile_cons, List.takeWhile_cons, if_neg (by simp [hny]), if_neg (by simp [hny]), hy]
        simp
      refine ⟨(x :: tl.takeWhile (al x)) :: G, h, t, ?_, e2, e3, fun y hy => List.mem_cons_of_mem _ (dropWhile_mem _ _ _ (e4 y hy)), ?_⟩
      · rw [grp, e1]; rfl
      · rw [List.cons_append, grp, ha.1, ha.2, e5]
        split <;> rfl
  termination_by l => l.length
  decreasing_by
    have := dropWhile_le (al x) tl
    simp
    omega
/-- A level: what is around some cells. -/
structure Lev where
  tag : Int
  w : Cel → Option (List At)
def Lev.nd (L : Lev) (c : Cel) (k : List Nd) : List Nd := match L.w c with
  | none => k
  | some a => [.mk L.tag a ⟨#[]⟩ k]
def Lev.el (L : Lev) (c : Cel) : List Nd := match L.w c with
  | none => []
  | some a => [.mk L.tag a ⟨#[]⟩ []]
def Lev.al (L : Lev) (x y : Cel) : Bool := decide (L.w x = L.w y)
def hdC : List Cel → Cel
  | [] => default
  | c :: _ => c
def lv : List Lev → List Cel → List Nd
  | [], l => leavesV l
  | L :: Ls, l => (grp L.al l).flatMap fun p => L.nd (hdC p) (lv Ls p)
def lvW : List Lev → Cel → List Nd
  | [], _ => []
  | L :: Ls, c => L.el c ++ lvW Ls c
theorem lvW_cons (L : Lev) (Ls : List Lev) (c : Cel) : lvW (L :: Ls) c = L.el c ++ lvW Ls c := rfl
def leafC (c : Cel) : Nd := if c.r = 10 then brN else chN c.r
theorem grp_one {α : Type} (al : α → α → Bool) (c : α) : grp al [c] = [[c]] := by rw [grp, List.takeWhile_nil, List.dropWhile_nil, grp]
theorem lv_one : ∀ (Ls : List Lev) (c : Cel), lv Ls [c] = [nest (lvW Ls c) (leafC c)]
  | [], c => by
    unfold lv leavesV
    rw [grp_one, List.map_cons, List.map_nil]
    unfold leafV leafC lvW nest brN chN
    rfl
  | L :: Ls, c => by
    have ih := lv_one Ls c
    unfold lv lvW
    rw [grp_one, List.flatMap_cons, List.flatMap_nil, List.append_nil, ih]
    unfold Lev.nd Lev.el hdC
    simp only
    cases L.w c with
    | none => rfl
    | some a => rfl
theorem lv_ne : ∀ (Ls : List Lev) (l : List Cel), l ≠ [] → lv Ls l ≠ []
  | [], l, h => by
    unfold lv leavesV
    rw [map_flat]
    exact grp_ne _ _ _ h fun _ _ => by simp
  | L :: Ls, l, h => by
    unfold lv
    refine grp_ne _ _ _ h fun x p => ?_
    have := lv_ne Ls (x :: p) (by simp)
    unfold Lev.nd
    split
    · exact this
    · simp
theorem putR_app (A B : List Nd) (hB : B ≠ []) (s : Nat) (W : List Nd) (leaf : Nd) : putR s (A ++ B) W leaf = A ++ putR s B W leaf := by
  cases s with
  | zero => simp [putR, List.append_assoc]
  | succ s =>
    obtain ⟨i, x, rfl⟩ := snoc_of hB
    rw [← List.append_assoc, putR_S, putR_S, List.append_assoc]
theorem growR_app (A B : List Nd) (hB : B ≠ []) (d : Nat) (c : Int) : growR d (A ++ B) c = A ++ growR d B c := by
  obtain ⟨i, x, rfl⟩ := snoc_of hB
  cases d with
  | zero => rw [← List.append_assoc, growR_0, growR_0, List.append_assoc]
  | succ d => rw [← List.append_assoc, growR_S, growR_S, List.append_assoc]
/-- One cell more. -/
def stepW (p c : Cel) (Wp W nodes : List Nd) : List Nd :=
  if c.r = 10 then putR (sharedR Wp W) nodes W brN
  else if (!decide (p.r = 10) && (decide (sharedR Wp W = W.length) && decide (sharedR Wp W = Wp.length))) = true then growR W.length nodes c.r
  else putR (sharedR Wp W) nodes W (chN c.r)
theorem stepW_app (p c : Cel) (Wp W A B : List Nd) (hB : B ≠ []) : stepW p c Wp W (A ++ B) = A ++ stepW p c Wp W B := by
  unfold stepW
  split
  · exact putR_app A B hB _ _ _
  · split
    · exact growR_app A B hB _ _
    · exact putR_app A B hB _ _ _
theorem stepW_el (p c : Cel) (Wp W A K : List Nd) (t : Int) (a : List At) : stepW p c (.mk t a ⟨#[]⟩ [] :: Wp) (.mk t a ⟨#[]⟩ [] :: W) (A ++ [.mk t a ⟨#[]⟩ K]) = A ++ [.mk t a ⟨#[]⟩ (stepW p c Wp W K)] := by
  have hs : sharedR (.mk t a ⟨#[]⟩ [] :: Wp) (.mk t a ⟨#[]⟩ [] :: W) = sharedR Wp W + 1 := by rw [sharedR, if_pos rfl]
  unfold stepW
  rw [hs]
  split
  · rw [putR_S]; rfl
  · have e : (!decide (p.r = 10) && (decide (sharedR Wp W + 1 = (Nd.mk t a ⟨#[]⟩ [] :: W).length) && decide (sharedR Wp W + 1 = (Nd.mk t a ⟨#[]⟩ [] :: Wp).length))) = (!decide (p.r = 10) && (decide (sharedR Wp W = W.length) && decide (sharedR Wp W = Wp.length))) := by
      simp only [List.length_cons, Nat.add_right_cancel_iff]
    rw [e]
    split
    · rw [List.length_cons, growR_S]; rfl
    · rw [putR_S]; rfl
theorem stepW_0 (p c : Cel) (Wp W nodes : List Nd) (hs : sharedR Wp W = 0) (hne : ¬ (W = [] ∧ Wp = [])) : stepW p c Wp W nodes = nodes ++ [nest W (leafC c)] := by
  unfold stepW leafC
  rw [hs]
  split
  · rfl
  · rw [if_neg]
    · rfl
    · simp only [Bool.and_eq_true, decide_eq_true_eq]
      rintro ⟨_, h1, h2⟩
      exact hne ⟨List.eq_nil_of_length_eq_zero h1.symm, List.eq_nil_of_length_eq_zero h2.symm⟩
theorem strOf_snoc (l : List Int) (c : Int) : strOf (l ++ [c]) = strOf l ++ strOf [c] := by
  have e : ∀ a b : List UInt8, (⟨a.toArray⟩ : ByteArray) ++ ⟨b.toArray⟩ = ⟨(a ++ b).toArray⟩ := fun a b => by
    apply ByteArray.ext
    simp
  rw [strOf_list, strOf_list, strOf_list, e]
  simp
theorem al_last {α : Type} {al : α → α → Bool} {h p : α} {t : List α} (ht : ∀ y ∈ t, al h y = true) (hl : (h :: t).getLast? = some p) : p = h ∨ al h p = true := by
  have hm := List.mem_of_getLast? hl
  rcases List.mem_cons.1 hm with h1 | h1
  · exact .inl h1
  · exact .inr (ht p h1)
theorem leaves_snoc (l : List Cel) (p c : Cel) (hl : l.getLast? = some p) : leavesV (l ++ [c]) = stepW p c [] [] (leavesV l) := by
  obtain ⟨G, h, t, e1, e2, e3, _, e5⟩ := grp_snoc alLeaf l p c hl
  have hp := al_last e2 e3
  unfold leavesV
  rw [e1, e5, List.map_append]
  by_cases hc : alLeaf h c = true
  · rw [if_pos hc, List.map_append]
    simp only [alLeaf, Bool.and_eq_true, Bool.not_eq_true', decide_eq_false_iff_not] at hc
    have hp10 : ¬ p.r = 10 := by
      rcases hp with rfl | hp
      · exact hc.1
      · simp only [alLeaf, Bool.and_eq_true, Bool.not_eq_true', decide_eq_false_iff_not] at hp
        exact hp.2
    unfold stepW
    rw [if_neg hc.2, if_pos (by simp [hp10, sharedR])]
    simp only [List.map_cons, List.map_nil, List.length_nil]
    rw [growR_0]
    congr 1
    simp only [leafV, List.cons_append]
    rw [if_neg hc.1, if_neg hc.1]
    simp only [Nd.tag, Nd.attrs, Nd.text, Nd.kids]
    rw [← strOf_snoc]
    simp
  · rw [if_neg hc, List.map_append, List.map_append]
    have hlc : ∀ x, [leafV [x]] = [nest [] (leafC x)] := fun x => rfl
    simp only [List.map_cons, List.map_nil]
    rw [hlc c]
    unfold stepW
    have hs : sharedR [] [] = 0 := rfl
    rw [hs]
    unfold leafC
    split
    · rfl
    · next h10 =>
      have hh10 : h.r = 10 := by
        by_cases hh : h.r = 10
        · exact hh
        · exact absurd (by simp [alLeaf, hh, h10]) hc
      have hp10 : p.r = 10 := by
        rcases hp with rfl | hp
        · exact hh10
        · simp [alLeaf, hh10] at hp
      rw [if_neg (by simp [hp10])]
      rfl
/-- The tags of levels are not alike. -/
def Apart : List Lev → Prop
  | [] => True
  | L :: Ls => (∀ M ∈ Ls, M.tag ≠ L.tag) ∧ Apart Ls
theorem lvW_tag : ∀ (Ls : List Lev) (c : Cel) (x : Nd), x ∈ lvW Ls c → ∃ M ∈ Ls, x.tag = M.tag
  | [], c, x, h => by cases h
  | L :: Ls, c, x, h => by
    unfold lvW at h
    rcases List.mem_append.1 h with h | h
    · unfold Lev.el at h
      split at h
      · cases h
      · rw [List.mem_singleton] at h
        exact ⟨L, List.mem_cons_self .., by rw [h]; rfl⟩
    · obtain ⟨M, hM, e⟩ := lvW_tag Ls c x h
      exact ⟨M, List.mem_cons_of_mem _ hM, e⟩
theorem shared_apart (L : Lev) (Ls : List Lev) (ha : ∀ M ∈ Ls, M.tag ≠ L.tag) (p c : Cel) (hne : L.w p ≠ L.w c) : sharedR (lvW (L :: Ls) p) (lvW (L :: Ls) c) = 0 ∧ ¬ (lvW (L :: Ls) c = [] ∧ lvW (L :: Ls) p = []) := by
  have hno : ∀ (a : List At) (x : Cel) (r : List Nd), sharedR (.mk L.tag a ⟨#[]⟩ [] :: r) (lvW Ls x) = 0 ∧ sharedR (lvW Ls x) (.mk L.tag a ⟨#[]⟩ [] :: r) = 0 := fun a x r => by
    cases hx : lvW Ls x with
    | nil => exact ⟨rfl, rfl⟩
    | cons y ys =>
      obtain ⟨M, hM, e⟩ := lvW_tag Ls x y (by rw [hx]; exact List.mem_cons_self ..)
      have hy : y.tag ≠ L.tag := by rw [e]; exact ha M hM
      constructor
      · rw [sharedR, if_neg fun h => hy (by rw [← h]; rfl)]
      · rw [sharedR, if_neg fun h => hy (by rw [h]; rfl)]
  rw [lvW_cons, lvW_cons]
  unfold Lev.el
  cases hp : L.w p with
  | none =>
    cases hc : L.w c with
    | none => exact absurd (hp.trans hc.symm) hne
    | some b => exact ⟨(hno b p _).2, fun h => by simp at h⟩
  | some a =>
    cases hc : L.w c with
    | none => exact ⟨(hno a c _).1, fun h => by simp at h⟩
    | some b =>
      refine ⟨?_, fun h => by simp at h⟩
      have hab : ¬ a = b := fun e => hne (by rw [hp, hc, e])
      show sharedR (Nd.mk L.tag a ⟨#[]⟩ [] :: _) (Nd.mk L.tag b ⟨#[]⟩ [] :: _) = 0
      rw [sharedR, if_neg]
      intro h
      simp only [Nd.mk.injEq, true_and, and_true] at h
      exact hab h
theorem lv_snoc : ∀ (Ls : List Lev), Apart Ls → ∀ (l : List Cel) (p c : Cel), l.getLast? = some p → lv Ls (l ++ [c]) = stepW p c (lvW Ls p) (lvW Ls c) (lv Ls l)
  | [], _, l, p, c, hl => leaves_snoc l p c hl
  | L :: Ls, hap, l, p, c, hl => by
    obtain ⟨G, h, t, e1, e2, e3, _, e5⟩ := grp_snoc L.al l p c hl
    have hp : L.w h = L.w p := by
      rcases al_last e2 e3 with rfl | h
      · rfl
      · exact of_decide_eq_true h
    have ih := lv_snoc Ls hap.2 (h :: t) p c e3
    have hk := lv_ne Ls (h :: t) (by simp)
    simp only [lv]
    rw [e1, e5, List.flatMap_append]
    by_cases hc : L.al h c = true
    · have hwc : L.w p = L.w c := hp.symm.trans (of_decide_eq_true hc)
      rw [if_pos hc, List.flatMap_append]
      simp only [List.flatMap_cons, List.flatMap_nil, List.append_nil]
      have hh1 : hdC (h :: t) = h := rfl
      have hh2 : hdC (h :: t ++ [c]) = h := rfl
      rw [hh1, hh2, ih]
      rw [lvW_cons, lvW_cons]
      unfold Lev.nd Lev.el
      cases hw : L.w h with
      | none =>
        rw [← hwc, ← hp, hw]
        simp only [List.nil_append]
        rw [stepW_app _ _ _ _ _ _ hk]
      | some a =>
        rw [← hwc, ← hp, hw]
        simp only [List.cons_append, List.nil_append]
        rw [stepW_el]
    · have hwc : L.w p ≠ L.w c := fun e => hc (decide_eq_true (hp.trans e))
      obtain ⟨s1, s2⟩ := shared_apart L Ls hap.1 p c hwc
      rw [if_neg hc, stepW_0 _ _ _ _ _ s1 s2, List.flatMap_append, List.flatMap_append]
      congr 1
      have := lv_one (L :: Ls) c
      unfold lv at this
      rw [grp_one] at this
      exact this
/-! ### the levels of a row -/
def levH : Lev := ⟨10, fun c => if c.href = ⟨#[]⟩ then none else some [hrefAt c.href]⟩
def levB (k : Nat) : Lev := ⟨11 + k, fun c => if bitI .and .i64 c.bits (2 ^ k) = 0 then none else some []⟩
theorem levH_w (c : Cel) : levH.w c = if c.href = ⟨#[]⟩ then none else some [hrefAt c.href] := rfl
theorem levB_w (k : Nat) (c : Cel) : (levB k).w c = if bitI .and .i64 c.bits (2 ^ k) = 0 then none else some [] := rfl
def rowLs : List Lev := [levH, levB 0, levB 1, levB 2, levB 3]
theorem and_bit (v : Int) (k : Fin 4) : bitI .and .i64 v (2 ^ k.val) = if v / 2 ^ k.val % 2 = 1 then 2 ^ k.val else 0 := by
  have h1 : (BitVec.ofInt 64 v &&& BitVec.ofInt 64 (2 ^ k.val)) = if (BitVec.ofInt 64 v).getLsbD k.val then BitVec.twoPow 64 k.val else 0#64 := by
    have : BitVec.ofInt 64 (2 ^ k.val) = BitVec.twoPow 64 k.val := by
      have : ∀ k : Fin 4, BitVec.ofInt 64 (2 ^ k.val) = BitVec.twoPow 64 k.val := by decide
      exact this k
    rw [this, BitVec.and_twoPow]
  have h2 : (BitVec.ofInt 64 v).getLsbD k.val = decide (v / 2 ^ k.val % 2 = 1) := by
    rw [BitVec.getLsbD, BitVec.toNat_ofInt, Nat.testBit_eq_decide_div_mod_eq, decide_eq_decide]
    rcases k with ⟨k, hk⟩
    have : k = 0 ∨ k = 1 ∨ k = 2 ∨ k = 3 := by omega
    rcases this with rfl | rfl | rfl | rfl <;> simp only [Nat.reducePow, Int.reducePow] <;> omega
  have hw : ∀ k : Fin 4, IntKind.wrap .i64 ((BitVec.twoPow 64 k.val).toNat : Int) = 2 ^ k.val := by decide
  unfold bitI
  simp only
  show IntKind.wrap .i64 (((BitVec.ofInt 64 v &&& BitVec.ofInt 64 (2 ^ k.val)).toNat : Nat) : Int) = _
  rw [h1, h2]
  by_cases hv : v / 2 ^ k.val % 2 = 1
  · rw [if_pos (decide_eq_true hv), if_pos hv]; exact hw k
  · rw [if_neg (by simp [hv]), if_neg hv]; rfl
theorem bitOn_eq (v : Int) (k : Fin 4) : bitOn v (k.val : Int) = !decide (bitI .and .i64 v (2 ^ k.val) = 0) := by
  have h0 := and_bit (v / 2 ^ k.val) 0
  have hp : (0 : Int) < 2 ^ k.val := Int.pow_pos (by decide)
  unfold bitOn
  have e : (min ((k.val : Int)).toNat IntKind.i64.bits) = k.val := by have := k.isLt; simp [IntKind.bits]; omega
  rw [e, Int.fdiv_eq_ediv_of_nonneg _ (by omega)]
  have h1 : bitI .and .i64 (v / 2 ^ k.val) 1 = if v / 2 ^ k.val % 2 = 1 then 1 else 0 := by
    have e0 : ((0 : Fin 4) : Fin 4).val = 0 := rfl
    rw [e0, Int.pow_zero, Int.ediv_one] at h0
    exact h0
  rw [h1, and_bit v k]
  by_cases hv : v / 2 ^ k.val % 2 = 1
  · rw [if_pos hv, if_pos hv, decide_eq_true rfl, decide_eq_false (by omega)]; rfl
  · rw [if_neg hv, if_neg hv, decide_eq_true rfl]; rfl
theorem al_href : alHref = levH.al := by
  funext x y
  unfold alHref Lev.al
  rw [decide_eq_decide, levH_w, levH_w]
  by_cases hx : x.href = ⟨#[]⟩ <;> by_cases hy : y.href = ⟨#[]⟩
  · simp [hx, hy]
  · rw [if_pos hx, if_neg hy]
    exact ⟨fun e => absurd (e.symm.trans hx) hy, fun e => by cases e⟩
  · rw [if_neg hx, if_pos hy]
    exact ⟨fun e => absurd (e.trans hy) hx, fun e => by cases e⟩
  · rw [if_neg hx, if_neg hy]
    simp [hrefAt]
theorem and_cases (v : Int) (k : Fin 4) : bitI .and .i64 v (2 ^ k.val) = 0 ∨ bitI .and .i64 v (2 ^ k.val) = 2 ^ k.val := by
  rw [and_bit]
  split
  · exact .inr rfl
  · exact .inl rfl
theorem al_bit (k : Fin 4) : alBit (2 ^ k.val) = (levB k.val).al := by
  funext x y
  have hp : (0 : Int) < 2 ^ k.val := Int.pow_pos (by decide)
  unfold alBit Lev.al
  rw [decide_eq_decide, levB_w, levB_w]
  rcases and_cases x.bits k with hx | hx <;> rcases and_cases y.bits k with hy | hy
  · simp [hx, hy]
  · rw [hx, hy, if_pos rfl, if_neg (by omega)]
    exact ⟨fun e => absurd e (by omega), fun e => by cases e⟩
  · rw [hx, hy, if_pos rfl, if_neg (by omega)]
    exact ⟨fun e => absurd e (by omega), fun e => by cases e⟩
  · simp [hx, hy]
theorem hd_bits (p : List Cel) : hdBits p = (hdC p).bits := by cases p <;> rfl
theorem hd_href (p : List Cel) : hdHref p = (hdC p).href := by cases p <;> rfl
theorem styled_lv (k : Fin 4) (n : Nat) (Ls : List Lev) (hsub : ∀ p, styledV n (IntKind.i64.wrap (2 ^ k.val * 2 ^ min (1 : Int).toNat IntKind.i64.bits)) p = lv Ls p) (l : List Cel) : styledV (n + 1) (2 ^ k.val) l = lv (levB k.val :: Ls) l := by
  have hp : (0 : Int) < 2 ^ k.val := Int.pow_pos (by decide)
  have hw : ∀ (k : Fin 4) (x : List Nd), wrapV (2 ^ k.val) ⟨#[]⟩ x = [.mk (11 + k.val) [] ⟨#[]⟩ x] := fun k x => by
    rcases k with ⟨k, hk⟩
    have : k = 0 ∨ k = 1 ∨ k = 2 ∨ k = 3 := by omega
    have e0 : (2 : Int) ^ (0 : Nat) = 1 := by decide
    have e1 : (2 : Int) ^ (1 : Nat) = 2 := by decide
    have e2 : (2 : Int) ^ (2 : Nat) = 4 := by decide
    have e3 : (2 : Int) ^ (3 : Nat) = 8 := by decide
    rcases this with rfl | rfl | rfl | rfl
    · show wrapV (2 ^ (0 : Nat)) _ _ = _; rw [e0]; rfl
    · show wrapV (2 ^ (1 : Nat)) _ _ = _; rw [e1]; rfl
    · show wrapV (2 ^ (2 : Nat)) _ _ = _; rw [e2]; rfl
    · show wrapV (2 ^ (3 : Nat)) _ _ = _; rw [e3]; rfl
  simp only [styledV, lv, al_bit]
  congr 1
  funext p
  rw [hsub, hd_bits]
  unfold Lev.nd
  rw [levB_w]
  rcases and_cases (hdC p).bits k with h | h
  · rw [h, if_pos rfl]; rfl
  · rw [h, if_neg (by omega)]; exact hw k _
theorem row_lv (l : List Cel) : rowV l = lv rowLs l := by
  have h0 : ∀ b p, styledV 0 b p = lv [] p := fun b p => rfl
  have h1 : ∀ p, styledV 1 8 p = lv [levB 3] p := fun p => styled_lv 3 0 [] (h0 _) p
  have h2 : ∀ p, styledV 2 4 p = lv [levB 2, levB 3] p := fun p => styled_lv 2 1 _ h1 p
  have h3 : ∀ p, styledV 3 2 p = lv [levB 1, levB 2, levB 3] p := fun p => styled_lv 1 2 _ h2 p
  have h4 : ∀ p, styledV 4 1 p = lv [levB 0, levB 1, levB 2, levB 3] p := fun p => styled_lv 0 3 _ h3 p
  unfold rowV rowLs
  rw [lv, al_href]
  congr 1
  funext p
  rw [h4, hd_href]
  unfold wrapV Lev.nd
  rw [levH_w]
  by_cases h : (hdC p).href = ⟨#[]⟩
  · rw [if_pos h, if_pos h]; rfl
  · rw [if_neg h, if_neg h]; rfl
theorem wraps_lv (c : Cel) : wrapsR c = lvW rowLs c := by
  have hb : ∀ k : Fin 4, (if bitOn c.bits (k.val : Int) = true then [Nd.mk (11 + (k.val : Int)) [] ⟨#[]⟩ []] else []) = (levB k.val).el c := fun k => by
    rw [bitOn_eq]
    unfold Lev.el
    rw [levB_w]
    by_cases h : bitI .and .i64 c.bits (2 ^ k.val) = 0
    · rw [if_pos h, decide_eq_true h, if_neg (by decide)]
    · rw [if_neg h, decide_eq_false h, if_pos (by decide)]; rfl
  have h0 := hb 0
  have h1 := hb 1
  have h2 := hb 2
  have h3 := hb 3
  have hh : (if c.href = ⟨#[]⟩ then [] else [Nd.mk 10 [hrefAt c.href] ⟨#[]⟩ []]) = levH.el c := by
    unfold Lev.el
    rw [levH_w]
    by_cases h : c.href = ⟨#[]⟩
    · rw [if_pos h, if_pos h]
    · rw [if_neg h, if_neg h]; rfl
  unfold wrapsR rowLs
  simp only [wrapsN, lvW, List.append_nil, List.append_assoc]
  rw [hh]
  congr 1
  congr 1
  congr 1
  congr 1
theorem apart_row : Apart rowLs := by
  have key : ∀ M : Lev, M ∈ rowLs → M.tag = 10 ∨ M.tag = 11 ∨ M.tag = 12 ∨ M.tag = 13 ∨ M.tag = 14 := fun M h => by
    simp only [rowLs, List.mem_cons, List.not_mem_nil, or_false] at h
    rcases h with rfl | rfl | rfl | rfl | rfl <;> simp [levH, levB]
  refine ⟨fun M h => ?_, fun M h => ?_, fun M h => ?_, fun M h => ?_, fun M h => ?_, trivial⟩ <;> simp only [List.mem_cons, List.not_mem_nil, or_false] at h
  · rcases h with rfl | rfl | rfl | rfl <;> simp [levH, levB]
  · rcases h with rfl | rfl | rfl <;> simp [levB]
  · rcases h with rfl | rfl <;> simp [levB]
  · rcases h with rfl; simp [levB]
/-- The row by parts is the row leaf by leaf. -/
theorem rowN_take (l : List Cel) : ∀ i, i ≤ l.length → rowN l i = rowV (l.take i)
  | 0, _ => by
    rw [rowN, List.take_zero, row_lv]
    unfold rowLs lv
    rw [grp]; rfl
  | i + 1, hi => by
    have hil : i < l.length := by omega
    have ih := rowN_take l i (by omega)
    have htk : l.take (i + 1) = l.take i ++ [l[i]] := List.take_succ_eq_append_getElem hil
    rw [rowN, List.getElem?_eq_getElem hil]
    simp only
    rw [ih, htk, row_lv, row_lv]
    by_cases h0 : i = 0
    · subst h0
      rw [if_pos rfl, List.take_zero, List.nil_append, lv_one, ← wraps_lv]
      have e0 : lv rowLs [] = [] := by unfold rowLs lv; rw [grp]; rfl
      rw [e0]
      unfold rowStep rowStepS leafC
      simp only [shareC, goesOn]
      split
      · rfl
      · rfl
    · have hp : i - 1 < l.length := by omega
      have hlast : (l.take i).getLast? = some l[i - 1] := by
        obtain ⟨j, rfl⟩ : ∃ j, i = j + 1 := ⟨i - 1, by omega⟩
        have e : l.take (j + 1) = l.take j ++ [l[j]] := List.take_succ_eq_append_getElem (by omega)
        rw [e, List.getLast?_concat]
        rfl
      rw [if_neg h0, List.getElem?_eq_getElem hp, lv_snoc rowLs apart_row _ _ _ hlast, ← wraps_lv, ← wraps_lv]
      rfl
theorem row_eq (l : List Cel) : rowR l = rowV l := by
  unfold rowR
  rw [rowN_take l l.length (Nat.le_refl _), List.take_length]
end Go.QL
end

section
/- QL, part G: a host by parts is the host line by line. No program in sight. -/
set_option linter.unusedVariables false
set_option linter.unusedSimpArgs false
namespace Go.QL
open Go Go.RowKit
def bx (t : Int) : Nd := .mk t [] ⟨#[]⟩ []
/-- The boxes of a line, from a level on. -/
def bxs (l : Lin) (level : Nat) : List Nd := ((wayV l).drop level).map bx
theorem bxs_step (l : Lin) (level : Nat) : (stepV l level = 0 ∧ bxs l level = []) ∨ (stepV l level ≠ 0 ∧ bxs l level = bx (stepV l level) :: bxs l (level + 1)) := by
  unfold bxs
  rcases step_way l level with ⟨h1, h2⟩ | ⟨h1, h2, h3⟩
  · exact .inl ⟨h1, by rw [h2]; rfl⟩
  · exact .inr ⟨by omega, by rw [h3]; rfl⟩
theorem nodes_one : ∀ (f level : Nat) (l : Lin), (wayV l).length ≤ level + f → nodesV f level [l] = [nest (bxs l level) (nodeV l)]
  | 0, level, l, hw => by
    have hd : (wayV l).drop level = [] := List.drop_eq_nil_of_le (by omega)
    unfold nodesV bxs
    rw [grp_one, hd]
    rfl
  | f + 1, level, l, hw => by
    rw [nodesV_eq, grp_one, List.map_cons, List.map_nil]
    unfold grpN
    rcases bxs_step l level with ⟨h1, h2⟩ | ⟨h1, h2⟩
    · rw [if_pos (show stepV (hdL [l]) level = 0 from h1), h2]; rfl
    · rw [if_neg (show ¬ stepV (hdL [l]) level = 0 from h1), h2, nodes_one f (level + 1) l (by omega)]; rfl
theorem step_last {level : Nat} {h p : Lin} {t : List Lin} (ht : ∀ y ∈ t, alLine level h y = true) (hl : (h :: t).getLast? = some p) : stepV p level = stepV h level ∧ (stepV h level = 0 → p = h) := by
  rcases al_last ht hl with rfl | h1
  · exact ⟨rfl, fun _ => rfl⟩
  · simp only [alLine, Bool.and_eq_true, Bool.not_eq_true', decide_eq_false_iff_not, decide_eq_true_eq] at h1
    exact ⟨h1.2.symm, fun e => absurd e h1.1⟩
theorem nodes_snoc : ∀ (f level : Nat) (d : List Lin) (p c : Lin), d.getLast? = some p → (∀ l ∈ d, (wayV l).length ≤ level + f) → (wayV c).length ≤ level + f →
    nodesV f level (d ++ [c]) = putR (sharedR (bxs p level) (bxs c level)) (nodesV f level d) (bxs c level) (nodeV c)
  | 0, level, d, p, c, hl, hw, hc => by
    have hz : ∀ l : Lin, (wayV l).length ≤ level → stepV l level = 0 ∧ bxs l level = [] := fun l h => by
      have hd : (wayV l).drop level = [] := List.drop_eq_nil_of_le h
      rcases bxs_step l level with h1 | ⟨_, h2⟩
      · exact h1
      · unfold bxs at h2; rw [hd] at h2; cases h2
    have h0 : ∀ l ∈ d, stepV l level = 0 := fun l hl => (hz l (hw l hl)).1
    obtain ⟨G, h, t, e1, e2, e3, e4, e5⟩ := grp_snoc (alLine level) d p c hl
    have hh : stepV h level = 0 := h0 h (e4 h (List.mem_cons_self ..))
    rw [nodesV_0 level d h0, nodesV_0 level (d ++ [c]) (fun l hl => by
      rcases List.mem_append.1 hl with hl | hl
      · exact h0 l hl
      · rw [List.mem_singleton.1 hl]; exact (hz c hc).1), e5, if_neg (by simp [alLine, hh]), e1, (hz c hc).2]
    have hs : sharedR (bxs p level) [] = 0 := by cases bxs p level <;> rfl
    rw [hs, List.map_append]
    have : grpN (fun _ => []) level [c] = nodeV c := by unfold grpN; rw [if_pos (show stepV (hdL [c]) level = 0 from (hz c hc).1)]; rfl
    rw [List.map_cons, List.map_nil, this]
    rfl
  | f + 1, level, d, p, c, hl, hw, hc => by
    obtain ⟨G, h, t, e1, e2, e3, e4, e5⟩ := grp_snoc (alLine level) d p c hl
    obtain ⟨hp, hp0⟩ := step_last e2 e3
    have hone := nodes_one (f + 1) level c hc
    rw [nodesV_eq, grp_one, List.map_cons, List.map_nil] at hone
    rw [nodesV_eq, nodesV_eq, e1, e5, List.map_append]
    by_cases hal : alLine level h c = true
    · rw [if_pos hal, List.map_append]
      simp only [alLine, Bool.and_eq_true, Bool.not_eq_true', decide_eq_false_iff_not, decide_eq_true_eq] at hal
      obtain ⟨hne, hsc⟩ := hal
      have ih := nodes_snoc f (level + 1) (h :: t) p c e3 (fun l hl => by have := hw l (e4 l hl); omega) (by omega)
      have bp : bxs p level = bx (stepV h level) :: bxs p (level + 1) := by
        rcases bxs_step p level with ⟨h1, _⟩ | ⟨_, h2⟩
        · exact absurd (hp ▸ h1) hne
        · rw [hp] at h2; exact h2
      have bc : bxs c level = bx (stepV h level) :: bxs c (level + 1) := by
        rcases bxs_step c level with ⟨h1, _⟩ | ⟨_, h2⟩
        · exact absurd (hsc.trans h1) hne
        · rw [← hsc] at h2; exact h2
      have hs : sharedR (bxs p level) (bxs c level) = sharedR (bxs p (level + 1)) (bxs c (level + 1)) + 1 := by rw [bp, bc, sharedR, if_pos rfl]
      have g1 : grpN (nodesV f (level + 1)) level (h :: t) = .mk (stepV h level) [] ⟨#[]⟩ (nodesV f (level + 1) (h :: t)) := by unfold grpN; exact if_neg hne
      have g2 : grpN (nodesV f (level + 1)) level (h :: t ++ [c]) = .mk (stepV h level) [] ⟨#[]⟩ (nodesV f (level + 1) (h :: t ++ [c])) := by unfold grpN; exact if_neg hne
      rw [List.map_cons, List.map_nil, List.map_cons, List.map_nil, g1, g2, hs, putR_S, ih, bc]
      rfl
    · have hs : sharedR (bxs p level) (bxs c level) = 0 := by
        rcases bxs_step p level with ⟨_, h2⟩ | ⟨h1, h2⟩
        · rw [h2]; rfl
        · rcases bxs_step c level with ⟨_, h4⟩ | ⟨h3, h4⟩
          · rw [h4, h2]; rfl
          · rw [h2, h4, sharedR, if_neg]
            intro e
            have e2 : stepV p level = stepV c level := by
              have := congrArg Nd.tag e
              exact this
            rw [hp] at h1 e2
            exact hal (by simp [alLine, h1, h3, e2])
      rw [if_neg hal, hs, List.map_append, List.map_append]
      show _ = _ ++ [nest (bxs c level) (nodeV c)]
      congr 1
/-! ### the document's answer -/
def nodeR (l : Lin) : Nd := .mk (if 0 < l.lists.length then 9 else 2 + l.kind) [] ⟨#[]⟩ (rowR l.cells)
theorem nodeR_eq {l : Lin} (h : 0 ≤ l.kind ∧ l.kind ≤ 3) : nodeR l = nodeV l := by
  unfold nodeR nodeV lineTag
  rw [row_eq, if_neg (show ¬ (l.kind < 0 ∨ 3 < l.kind) by omega)]
def boxesR (l : Lin) : List Nd := (wayV l).map bx
/-- How much of a line's boxes is that of the line ahead. -/
def shareL (prev : Option Lin) (l : Lin) : Nat := match prev with
  | none => 0
  | some p => sharedR (boxesR p) (boxesR l)
def hostsN (d : List Lin) : Nat → List Nd
  | 0 => []
  | i + 1 => match d[i]? with
    | none => hostsN d i
    | some l => putR (shareL (if i = 0 then none else d[i - 1]?) l) (hostsN d i) (boxesR l) (nodeR l)
def pathsN (d : List Lin) : Nat → List (List Int)
  | 0 => []
  | i + 1 => match d[i]? with
    | none => pathsN d i
    | some l => pathsN d i ++ [(rsp ((boxesR l).length + 1) (hostsN d (i + 1))).1]
def hostR (T : Str → Bool) (d : List Lin) : Nd × Int := if docMay T d = true then (.mk 1 [] ⟨#[]⟩ (hostsN d d.length), 0) else (zeroN, 1)
/-- What is asked of a line. -/
def LinOk (l : Lin) : Prop := (0 ≤ l.kind ∧ l.kind ≤ 3) ∧ (wayV l).length ≤ 12
theorem boxes_bxs (l : Lin) : boxesR l = bxs l 0 := by unfold boxesR bxs; rw [List.drop_zero]
theorem take_last {α : Type} (l : List α) (i : Nat) (h : i ≤ l.length) (h0 : i ≠ 0) : ∃ p, l[i - 1]? = some p ∧ (l.take i).getLast? = some p ∧ p ∈ l := by
  obtain ⟨j, rfl⟩ : ∃ j, i = j + 1 := ⟨i - 1, by omega⟩
  have e : l.take (j + 1) = l.take j ++ [l[j]] := List.take_succ_eq_append_getElem (by omega)
  exact ⟨l[j], List.getElem?_eq_getElem _, by rw [e, List.getLast?_concat], List.getElem_mem _⟩
theorem hostsN_take (d : List Lin) (hd : ∀ l ∈ d, LinOk l) : ∀ i, i ≤ d.length → hostsN d i = nodesV 12 0 (d.take i)
  | 0, _ => by
    rw [hostsN, List.take_zero, nodesV_eq, grp]; rfl
  | i + 1, hi => by
    have hil : i < d.length := by omega
    have ih := hostsN_take d hd i (by omega)
    have htk : d.take (i + 1) = d.take i ++ [d[i]] := List.take_succ_eq_append_getElem hil
    obtain ⟨l, hl⟩ : ∃ l, d[i] = l := ⟨_, rfl⟩
    have hlo := hd l (hl ▸ List.getElem_mem hil)
    rw [hostsN, List.getElem?_eq_getElem hil]
    simp only
    rw [ih, htk, hl, nodeR_eq hlo.1, boxes_bxs]
    by_cases h0 : i = 0
    · subst h0
      rw [if_pos rfl, List.take_zero, List.nil_append, nodes_one 12 0 l (by have := hlo.2; omega), nodesV_eq, grp]
      rfl
    · obtain ⟨p, h1, h2, h3⟩ := take_last d i (by omega) h0
      rw [if_neg h0, h1, nodes_snoc 12 0 (d.take i) p l h2 (fun x hx => by have := (hd x ((List.take_sublist i d).subset hx)).2; omega) (by have := hlo.2; omega), shareL, boxes_bxs, boxes_bxs]
theorem hosts_eq (d : List Lin) (hd : ∀ l ∈ d, LinOk l) : hostsN d d.length = nodesV 12 0 d := by
  rw [hostsN_take d hd d.length (Nat.le_refl _), List.take_length]
theorem may_ok {T : Str → Bool} {d : List Lin} (h : docMay T d = true) : ∀ l ∈ d, LinOk l := fun l hl => by
  have := lin_may (docMay_lines h l hl)
  have hw := host_way h l hl
  exact ⟨⟨this.2.2.1, this.2.2.2.1⟩, by omega⟩
theorem hostR_eq (T : Str → Bool) (d : List Lin) : hostR T d = hostV T d := by
  unfold hostR hostV
  by_cases h : docMay T d = true
  · rw [if_pos h, if_pos h, hosts_eq d (may_ok h)]
  · rw [if_neg h, if_neg h]
/-! ### the lines of a host, with their paths -/
mutual
def lnN : Nd → List Int → List (List Int × Nd)
  | .mk _ _ _ kids, path => lnL kids 0 path
def lnL : List Nd → Int → List Int → List (List Int × Nd)
  | [], _, _ => []
  | k :: ks, i, path => (if clsV k.tag = 3 then [(path ++ [i], k)] else lnN k (path ++ [i])) ++ lnL ks (i + 1) path
end
theorem lnN_eq (n : Nd) (path : List Int) : lnN n path = lnL n.kids 0 path := by cases n; rw [lnN]; rfl
def lnFound (l : List (List Int × Nd)) (c : Nat) : Option (List Int × Nd) × Int := match l[c]? with
  | some r => (some r, 0)
  | none => (none, ((c - l.length : Nat) : Int))
theorem lnFound_append (a b : List (List Int × Nd)) (c : Nat) : lnFound (a ++ b) c = if c < a.length then lnFound a c else lnFound b (c - a.length) := by
  unfold lnFound
  by_cases h : c < a.length
  · rw [if_pos h, List.getElem?_append_left h, List.getElem?_eq_getElem h]
  · rw [if_neg h, List.getElem?_append_right (by omega), List.length_append]
    cases b[c - a.length]? with
    | some r => rfl
    | none => simp only; congr 2; omega
theorem lnFound_none {a : List (List Int × Nd)} {c : Nat} (h : ¬ c < a.length) : lnFound a c = (none, ((c - a.length : Nat) : Int)) := by
  unfold lnFound; rw [List.getElem?_eq_none (by omega)]
theorem lnFound_some {a : List (List Int × Nd)} {c : Nat} (h : c < a.length) : lnFound a c = (some a[c], 0) := by
  unfold lnFound; rw [List.getElem?_eq_getElem h]
mutual
theorem lineF_ln : ∀ (n : Nd) (path : List Int) (c : Nat), lineF n path c = lnFound (lnN n path) c
  | .mk _ _ _ kids, path, c => by rw [lineF, lnN]; exact lineL_ln kids 0 path c
theorem lineL_ln : ∀ (l : List Nd) (i : Int) (path : List Int) (c : Nat), lineL l i path c = lnFound (lnL l i path) c
  | [], i, path, c => by rw [lineL, lnL]; rfl
  | k :: ks, i, path, c => by
    rw [lineL, lnL, lnFound_append]
    by_cases h3 : clsV k.tag = 3
    · rw [if_pos h3, if_pos h3]
      rcases c with _ | c
      · rw [if_pos (by simp), if_pos (by simp)]; rfl
      · have e : ((c + 1 : Nat) : Int) - 1 = (c : Int) := by omega
        rw [if_neg (by omega), if_neg (by simp), e, lineL_ln ks (i + 1) path c]
        rfl
    · rw [if_neg h3, if_neg h3, lineF_ln k (path ++ [i]) c]
      by_cases hlt : c < (lnN k (path ++ [i])).length
      · rw [if_pos hlt, lnFound_some hlt]
      · rw [if_neg hlt, lnFound_none hlt]
        exact lineL_ln ks (i + 1) path _
end
theorem lnL_append : ∀ (a b : List Nd) (i : Int) (path : List Int), lnL (a ++ b) i path = lnL a i path ++ lnL b (i + a.length) path
  | [], b, i, path => by simp [lnL]
  | k :: ks, b, i, path => by
    rw [List.cons_append, lnL, lnL, lnL_append ks b (i + 1) path, List.append_assoc]
    have e : i + 1 + (ks.length : Int) = i + ((k :: ks).length : Int) := by simp only [List.length_cons]; omega
    rw [e]
/-- The last ones, so deep, are no lines. -/
def SpCls : Nat → List Nd → Prop
  | 0, _ => True
  | s + 1, nodes => ∃ i x, nodes = i ++ [x] ∧ clsV x.tag ≠ 3 ∧ SpCls s x.kids
theorem nest_ln (leaf : Nd) (hleaf : clsV leaf.tag = 3) : ∀ (W : List Nd) (i : Int) (path : List Int), (∀ x ∈ W, clsV x.tag ≠ 3) → lnL [nest W leaf] i path = [(path ++ i :: (rsp W.length (nest W leaf).kids).1, leaf)]
  | [], i, path, _ => by
    rw [lnL, lnL, show nest [] leaf = leaf from rfl, if_pos hleaf]
    rfl
  | x :: r, i, path, h => by
    have hx := h x (List.mem_cons_self ..)
    have ih := nest_ln leaf hleaf r 0 (path ++ [i]) fun y hy => h y (List.mem_cons_of_mem _ hy)
    rw [lnL, lnL, lnN_eq]
    have ht : (nest (x :: r) leaf).tag = x.tag := rfl
    have hk : (nest (x :: r) leaf).kids = [nest r leaf] := rfl
    rw [ht, if_neg hx, hk, ih, List.length_cons]
    have := rsp_S r.length [] (nest r leaf)
    rw [List.nil_append] at this
    rw [this]
    simp
theorem put_ln (leaf : Nd) (hleaf : clsV leaf.tag = 3) : ∀ (s : Nat) (nodes W : List Nd) (path : List Int), (∀ x ∈ W, clsV x.tag ≠ 3) → SpCls s nodes → s ≤ W.length →
    lnL (putR s nodes W leaf) 0 path = lnL nodes 0 path ++ [(path ++ (rsp (W.length + 1) (putR s nodes W leaf)).1, leaf)]
  | 0, nodes, W, path, hW, _, _ => by
    rw [putR, lnL_append, nest_ln leaf hleaf W _ path hW, rsp_S]
    simp
  | s + 1, nodes, W, path, hW, hsp, hle => by
    obtain ⟨i, x, rfl, hx, hk⟩ := hsp
    obtain ⟨w, W', rfl⟩ : ∃ w W', W = w :: W' := by
      cases W with
      | nil => simp at hle
      | cons w W' => exact ⟨w, W', rfl⟩
    have ih := put_ln leaf hleaf s x.kids W' (path ++ [(i.length : Int)]) (fun y hy => hW y (List.mem_cons_of_mem _ hy)) hk (by simpa using hle)
    rw [putR_S, lnL_append, lnL_append, List.tail_cons]
    have e0 : (0 : Int) + (i.length : Int) = (i.length : Int) := by omega
    rw [e0, lnL, lnL, lnL, lnL, lnN_eq, lnN_eq]
    have ht : (Nd.mk x.tag x.attrs x.text (putR s x.kids W' leaf)).tag = x.tag := rfl
    have hkk : (Nd.mk x.tag x.attrs x.text (putR s x.kids W' leaf)).kids = putR s x.kids W' leaf := rfl
    rw [ht, if_neg hx, if_neg hx, hkk, ih, rsp_S, hkk, List.length_cons]
    simp
theorem nodes_sp : ∀ (f level : Nat) (d : List Lin) (p : Lin) (s : Nat), d.getLast? = some p → (∀ l ∈ d, (wayV l).length ≤ level + f) → s ≤ (bxs p level).length → SpCls s (nodesV f level d)
  | _, _, _, _, 0, _, _, _ => trivial
  | 0, level, d, p, s + 1, hl, hw, hs => by
    have hd : (wayV p).drop level = [] := List.drop_eq_nil_of_le (by have := hw p (List.mem_of_getLast? hl); omega)
    unfold bxs at hs
    rw [hd] at hs
    simp at hs
  | f + 1, level, d, p, s + 1, hl, hw, hs => by
    obtain ⟨G, h, t, e1, e2, e3, e4, _⟩ := grp_snoc (alLine level) d p p hl
    obtain ⟨hp, _⟩ := step_last e2 e3
    rcases bxs_step p level with ⟨_, h2⟩ | ⟨h1, h2⟩
    · rw [h2] at hs; simp at hs
    · rw [h2, List.length_cons] at hs
      rw [hp] at h1
      refine ⟨G.map (grpN (nodesV f (level + 1)) level), grpN (nodesV f (level + 1)) level (h :: t), by rw [nodesV_eq, e1, List.map_append]; rfl, ?_⟩
      have g1 : grpN (nodesV f (level + 1)) level (h :: t) = .mk (stepV h level) [] ⟨#[]⟩ (nodesV f (level + 1) (h :: t)) := by unfold grpN; exact if_neg h1
      rw [g1]
      refine ⟨?_, nodes_sp f (level + 1) (h :: t) p s e3 (fun l hl => by have := hw l (e4 l hl); omega) (by omega)⟩
      show clsV (stepV h level) ≠ 3
      rw [box_cls h1]
      decide
theorem hosts_ln (d : List Lin) (hd : ∀ l ∈ d, LinOk l) : ∀ i, i ≤ d.length → (pathsN d i).length = i ∧ lnL (hostsN d i) 0 [] = (pathsN d i).zip ((d.take i).map nodeV)
  | 0, _ => by simp [pathsN, hostsN, lnL]
  | i + 1, hi => by
    have hil : i < d.length := by omega
    obtain ⟨ih1, ih2⟩ := hosts_ln d hd i (by omega)
    have htk : d.take (i + 1) = d.take i ++ [d[i]] := List.take_succ_eq_append_getElem hil
    obtain ⟨l, hl⟩ : ∃ l, d[i] = l := ⟨_, rfl⟩
    have hlo := hd l (hl ▸ List.getElem_mem hil)
    have hH : hostsN d (i + 1) = putR (shareL (if i = 0 then none else d[i - 1]?) l) (hostsN d i) (boxesR l) (nodeR l) := by
      rw [hostsN, List.getElem?_eq_getElem hil, hl]
    have hP : pathsN d (i + 1) = pathsN d i ++ [(rsp ((boxesR l).length + 1) (hostsN d (i + 1))).1] := by
      rw [pathsN, List.getElem?_eq_getElem hil, hl]
    have hsp : SpCls (shareL (if i = 0 then none else d[i - 1]?) l) (hostsN d i) ∧ shareL (if i = 0 then none else d[i - 1]?) l ≤ (boxesR l).length := by
      by_cases h0 : i = 0
      · rw [if_pos h0]; exact ⟨trivial, Nat.zero_le _⟩
      · obtain ⟨p, h1, h2, h3⟩ := take_last d i (by omega) h0
        rw [if_neg h0, h1, hostsN_take d hd i (by omega)]
        have hsh := sharedR_le (boxesR p) (boxesR l)
        refine ⟨nodes_sp 12 0 (d.take i) p _ h2 (fun x hx => by have := (hd x ((List.take_sublist i d).subset hx)).2; omega) ?_, hsh.2⟩
        rw [← boxes_bxs]
        exact hsh.1
    have hcls : clsV (nodeR l).tag = 3 := by rw [nodeR_eq hlo.1]; exact line_cls hlo.1
    have hW : ∀ x ∈ boxesR l, clsV x.tag ≠ 3 := fun x hx => by
      obtain ⟨t, ht, rfl⟩ := List.mem_map.1 hx
      have := way_mem ht
      show clsV t ≠ 3
      have ht : t = 6 ∨ t = 7 ∨ t = 8 := by omega
      rcases ht with rfl | rfl | rfl <;> decide
    have key := put_ln (nodeR l) hcls _ (hostsN d i) (boxesR l) [] hW hsp.1 hsp.2
    refine ⟨by rw [hP, List.length_append, ih1]; rfl, ?_⟩
    rw [hP, htk, List.map_append, List.zip_append (by rw [ih1, List.length_map, List.length_take]; omega), ← ih2, hH, key, hl, nodeR_eq hlo.1]
    rfl
theorem host_line (d : List Lin) (hd : ∀ l ∈ d, LinOk l) (i : Nat) (hi : i < d.length) : ∃ path, (pathsN d d.length)[i]? = some path ∧ lineL (nodesV 12 0 d) 0 [] (i : Int) = (some (path, nodeV d[i]), 0) := by
  obtain ⟨h1, h2⟩ := hosts_ln d hd d.length (Nat.le_refl _)
  rw [hosts_eq d hd, List.take_length] at h2
  have hp : i < (pathsN d d.length).length := by omega
  refine ⟨_, List.getElem?_eq_getElem hp, ?_⟩
  rw [lineL_ln, h2, lnFound_some (by rw [List.length_zip, List.length_map]; omega)]
  simp
end Go.QL
end

section
/- QL, part H: the places of a row; the point of a place. No program in sight. -/
set_option linter.unusedVariables false
set_option linter.unusedSimpArgs false
namespace Go.QL
open Go Go.RowKit
theorem runeCount_B (s : ByteArray) : ∀ (n i : Nat), Lib.runeCountFrom s n i = (runesB n (s.data.toList.drop i)).length
  | 0, i => rfl
  | n + 1, i => by
    unfold Lib.runeCountFrom runesB
    by_cases h : i < s.size
    · rw [if_pos h, if_neg (fun e => (drop_ne s i).1 e h), Lib.decodeL_drop, List.drop_drop, runeCount_B s n, List.length_cons]
      omega
    · rw [if_neg h, if_pos ((drop_ne s i).2 h)]
      rfl
theorem runeCount_len (s : ByteArray) : Lib.runeCount s = (runesL s).length := by
  rw [Lib.runeCount, runeCount_B, List.drop_zero, runesL_B]
mutual
/-- The places behind the characters of nodes. -/
def lfN : Nd → List Int → List (List Int × Int)
  | .mk _ _ _ kids, path => lfL kids 0 path
def lfL : List Nd → Int → List Int → List (List Int × Int)
  | [], _, _ => []
  | k :: ks, i, path => (if k.tag = 16 then [(path, i + 1)] else if k.tag = 0 then (List.range (Lib.runeCount k.text)).map (fun j => (path ++ [i], ((j : Nat) : Int) + 1)) else lfN k (path ++ [i])) ++ lfL ks (i + 1) path
end
theorem lfN_eq (n : Nd) (path : List Int) : lfN n path = lfL n.kids 0 path := by cases n; rw [lfN]; rfl
/-- It finds a place, or is so far. -/
def LfFound (l : List (List Int × Int)) (m : Nat) (r : Option (List Int × Int) × Int) : Prop := (∀ h : m < l.length, r.1 = some l[m]) ∧ (l.length ≤ m → r = (none, ((m - l.length : Nat) : Int) + 1))
mutual
theorem leafF_lf : ∀ (n : Nd) (path : List Int) (m : Nat), LfFound (lfN n path) m (leafF n path ((m : Int) + 1))
  | .mk _ _ _ kids, path, m => by rw [leafF, lfN]; exact leafL_lf kids 0 path m
theorem leafL_lf : ∀ (l : List Nd) (i : Int) (path : List Int) (m : Nat), LfFound (lfL l i path) m (leafL l i path ((m : Int) + 1))
  | [], i, path, m => by
    rw [leafL, lfL]
    exact ⟨fun h => absurd h (Nat.not_lt_zero _), fun _ => by simp⟩
  | k :: ks, i, path, m => by
    rw [leafL, lfL]
    have happ : ∀ (a : List (List Int × Int)) (r : Option (List Int × Int) × Int), a.length ≤ m → LfFound (lfL ks (i + 1) path) (m - a.length) r → LfFound (a ++ lfL ks (i + 1) path) m r := fun a r ha h => by
      refine ⟨fun hm => ?_, fun hm => ?_⟩
      · rw [List.length_append] at hm
        rw [h.1 (by omega), List.getElem_append_right ha]
      · rw [List.length_append] at hm
        rw [h.2 (by omega), List.length_append, Nat.sub_sub]
    have hhit : ∀ (a : List (List Int × Int)) (r : Option (List Int × Int) × Int) (h : m < a.length), r.1 = some a[m] → LfFound (a ++ lfL ks (i + 1) path) m r := fun a r h hr => by
      refine ⟨fun hm => by rw [hr, List.getElem_append_left h], fun hm => ?_⟩
      rw [List.length_append] at hm
      omega
    by_cases h16 : k.tag = 16
    · rw [if_pos h16, if_pos h16]
      rcases m with _ | m
      · rw [if_pos (by simp)]
        exact hhit _ _ (by simp) rfl
      · have e : ((m + 1 : Nat) : Int) + 1 - 1 = (m : Int) + 1 := by omega
        rw [if_neg (by omega), e]
        exact happ _ _ (by simp) (by simpa using leafL_lf ks (i + 1) path m)
    rw [if_neg h16, if_neg h16]
    by_cases h0 : k.tag = 0
    · rw [if_pos h0, if_pos h0]
      by_cases hc : m < Lib.runeCount k.text
      · rw [if_pos (by omega)]
        exact hhit _ _ (by simpa using hc) (by simp)
      · rw [if_neg (by omega)]
        have e : (m : Int) + 1 - (Lib.runeCount k.text : Int) = ((m - Lib.runeCount k.text : Nat) : Int) + 1 := by omega
        rw [e]
        exact happ _ _ (by simp; omega) (by simpa using leafL_lf ks (i + 1) path (m - Lib.runeCount k.text))
    · rw [if_neg h0, if_neg h0]
      have hk := leafF_lf k (path ++ [i]) m
      rcases hr : leafF k (path ++ [i]) ((m : Int) + 1) with ⟨_ | r, c⟩
      · rw [hr] at hk
        have hle : (lfN k (path ++ [i])).length ≤ m := by
          rcases Nat.lt_or_ge m (lfN k (path ++ [i])).length with h | h
          · have := hk.1 h; cases this
          · exact h
        have h2 := hk.2 hle
        simp only [Prod.mk.injEq, true_and] at h2
        subst h2
        exact happ _ _ hle (leafL_lf ks (i + 1) path (m - (lfN k (path ++ [i])).length))
      · rw [hr] at hk
        have hlt : m < (lfN k (path ++ [i])).length := by
          rcases Nat.lt_or_ge m (lfN k (path ++ [i])).length with h | h
          · exact h
          · have := hk.2 h; cases this
        exact hhit _ _ hlt (hk.1 hlt)
end
theorem lfL_append : ∀ (a b : List Nd) (i : Int) (path : List Int), lfL (a ++ b) i path = lfL a i path ++ lfL b (i + a.length) path
  | [], b, i, path => by simp [lfL]
  | k :: ks, b, i, path => by
    rw [List.cons_append, lfL, lfL, lfL_append ks b (i + 1) path, List.append_assoc]
    have e : i + 1 + (ks.length : Int) = i + ((k :: ks).length : Int) := by simp only [List.length_cons]; omega
    rw [e]
def Inner (x : Nd) : Prop := x.tag ≠ 16 ∧ x.tag ≠ 0
theorem lf_inner {x : Nd} (h : Inner x) (i : Int) (path : List Int) : lfL [x] i path = lfL x.kids 0 (path ++ [i]) := by
  rw [lfL, lfL, if_neg h.1, if_neg h.2, lfN_eq, List.append_nil]
/-- A leaf of one character. -/
def Leaf1 (x : Nd) : Prop := x.tag = 16 ∨ (x.tag = 0 ∧ (runesL x.text).length = 1)
/-- The place behind the last of nodes. -/
def ptAt (path : List Int) (q : Pnt) : List Int × Int := (path ++ q.path, q.at_)
theorem leaf1_lf {leaf : Nd} (h : Leaf1 leaf) (nodes : List Nd) (path : List Int) : lfL (nodes ++ [leaf]) 0 path = lfL nodes 0 path ++ [ptAt path (behindR 0 (nodes ++ [leaf]))] := by
  rw [lfL_append, behindR]
  simp only [List.getLast?_concat]
  have e0 : (0 : Int) + (nodes.length : Int) = (nodes.length : Int) := by omega
  rw [e0, lfL, lfL, List.append_nil]
  rcases h with h | ⟨h, h1⟩
  · rw [if_pos h, if_pos h]
    simp [ptAt]
  · rw [if_neg (by rw [h]; decide), if_pos h, if_neg (by rw [h]; decide), runeCount_len, h1]
    simp [ptAt]
theorem nest_lf {leaf : Nd} (h : Leaf1 leaf) : ∀ (W nodes : List Nd) (path : List Int), (∀ x ∈ W, Inner x) → lfL (nodes ++ [nest W leaf]) 0 path = lfL nodes 0 path ++ [ptAt path (behindR W.length (nodes ++ [nest W leaf]))]
  | [], nodes, path, _ => leaf1_lf h nodes path
  | x :: r, nodes, path, hW => by
    have hx := hW x (List.mem_cons_self ..)
    have hk : (nest (x :: r) leaf).kids = [nest r leaf] := rfl
    have hin : Inner (nest (x :: r) leaf) := hx
    have ih := nest_lf h r [] (path ++ [(nodes.length : Int)]) fun y hy => hW y (List.mem_cons_of_mem _ hy)
    rw [List.nil_append] at ih
    have e0 : (0 : Int) + (nodes.length : Int) = (nodes.length : Int) := by omega
    rw [lfL_append, e0, lf_inner hin, hk, ih, List.length_cons, behindR_S, hk, lfL, List.nil_append]
    simp [ptAt]
/-- The last ones, so deep, are inlines. -/
def SpIn : Nat → List Nd → Prop
  | 0, _ => True
  | s + 1, nodes => ∃ i x, nodes = i ++ [x] ∧ Inner x ∧ SpIn s x.kids
theorem put_lf {leaf : Nd} (h : Leaf1 leaf) : ∀ (s : Nat) (nodes W : List Nd) (path : List Int), (∀ x ∈ W, Inner x) → SpIn s nodes → s ≤ W.length →
    lfL (putR s nodes W leaf) 0 path = lfL nodes 0 path ++ [ptAt path (behindR W.length (putR s nodes W leaf))]
  | 0, nodes, W, path, hW, _, _ => nest_lf h W nodes path hW
  | s + 1, nodes, W, path, hW, hsp, hle => by
    obtain ⟨i, x, rfl, hx, hk⟩ := hsp
    obtain ⟨w, W', rfl⟩ : ∃ w W', W = w :: W' := by
      cases W with
      | nil => simp at hle
      | cons w W' => exact ⟨w, W', rfl⟩
    have ih := put_lf h s x.kids W' (path ++ [(i.length : Int)]) (fun y hy => hW y (List.mem_cons_of_mem _ hy)) hk (by simpa using hle)
    have hin : Inner (Nd.mk x.tag x.attrs x.text (putR s x.kids W' leaf)) := hx
    have hkk : (Nd.mk x.tag x.attrs x.text (putR s x.kids W' leaf)).kids = putR s x.kids W' leaf := rfl
    have e0 : (0 : Int) + (i.length : Int) = (i.length : Int) := by omega
    rw [putR_S, List.tail_cons, lfL_append, lfL_append, e0, lf_inner hx, lf_inner hin, hkk, ih, List.length_cons, behindR_S, hkk]
    simp [ptAt]
/-- The last leaf, so deep, is a text. -/
def SpTx : Nat → List Nd → Prop
  | 0, nodes => ∃ i x l, nodes = i ++ [x] ∧ x.tag = 0 ∧ x.text = strOf l ∧ ∀ r ∈ l, vrune r = true
  | s + 1, nodes => ∃ i x, nodes = i ++ [x] ∧ Inner x ∧ SpTx s x.kids
theorem grow_lf (c : Int) (hc : vrune c = true) : ∀ (d : Nat) (nodes : List Nd) (path : List Int), SpTx d nodes → lfL (growR d nodes c) 0 path = lfL nodes 0 path ++ [ptAt path (behindR d (growR d nodes c))]
  | 0, nodes, path, h => by
    obtain ⟨i, x, l, rfl, h0, ht, hv⟩ := h
    have e0 : (0 : Int) + (i.length : Int) = (i.length : Int) := by omega
    have h1 : (runesL x.text).length = l.length := by rw [ht, runes_str l hv]
    have h2 : (runesL (x.text ++ strOf [c])).length = l.length + 1 := by
      rw [ht, ← strOf_snoc, runes_str _ (fun r hr => by
        rcases List.mem_append.1 hr with hr | hr
        · exact hv r hr
        · rw [List.mem_singleton.1 hr]; exact hc)]
      simp
    rw [growR_0, lfL_append, lfL_append, e0, behindR]
    simp only [List.getLast?_concat]
    rw [lfL, lfL, lfL, lfL]
    have ht2 : (Nd.mk x.tag x.attrs (x.text ++ strOf [c]) x.kids).tag = 0 := h0
    have htx : (Nd.mk x.tag x.attrs (x.text ++ strOf [c]) x.kids).text = x.text ++ strOf [c] := rfl
    rw [htx, ht2, h0, if_neg (by decide), if_pos rfl, if_neg (by decide), if_pos rfl, if_neg (by decide), runeCount_len, runeCount_len, h1, h2, List.range_succ]
    simp [ptAt]
  | d + 1, nodes, path, h => by
    obtain ⟨i, x, rfl, hx, hk⟩ := h
    have ih := grow_lf c hc d x.kids (path ++ [(i.length : Int)]) hk
    have hin : Inner (Nd.mk x.tag x.attrs x.text (growR d x.kids c)) := hx
    have hkk : (Nd.mk x.tag x.attrs x.text (growR d x.kids c)).kids = growR d x.kids c := rfl
    have e0 : (0 : Int) + (i.length : Int) = (i.length : Int) := by omega
    rw [growR_S, lfL_append, lfL_append, e0, lf_inner hx, lf_inner hin, hkk, ih, behindR_S, hkk]
    simp [ptAt]
/-! ### what the last leaf of a row is -/
def SpLf (c : Cel) : List Nd → List Nd → Prop
  | [], nodes => ∃ i x, nodes = i ++ [x] ∧ (¬ c.r = 10 → x.tag = 0 ∧ ∃ l, x.text = strOf l ∧ ∀ r ∈ l, vrune r = true)
  | _ :: W, nodes => ∃ i x, nodes = i ++ [x] ∧ Inner x ∧ SpLf c W x.kids
theorem SpLf.app {c : Cel} {W A B : List Nd} (h : SpLf c W B) : SpLf c W (A ++ B) := by
  cases W with
  | nil =>
    obtain ⟨i, x, rfl, h⟩ := h
    exact ⟨A ++ i, x, by simp, h⟩
  | cons w W =>
    obtain ⟨i, x, rfl, h⟩ := h
    exact ⟨A ++ i, x, by simp, h⟩
theorem lv_sp (p : Cel) : ∀ (Ls : List Lev) (l : List Cel), (∀ L ∈ Ls, L.tag ≠ 16 ∧ L.tag ≠ 0) → l.getLast? = some p → (∀ x ∈ l, vrune x.r = true) → SpLf p (lvW Ls p) (lv Ls l)
  | [], l, _, hl, hv => by
    obtain ⟨G, h, t, e1, e2, e3, e4, _⟩ := grp_snoc alLeaf l p p hl
    refine ⟨G.map leafV, leafV (h :: t), by unfold lv leavesV; rw [e1, List.map_append]; rfl, fun hp => ?_⟩
    have hh : ¬ h.r = 10 := by
      rcases al_last e2 e3 with rfl | ha
      · exact hp
      · simp only [alLeaf, Bool.and_eq_true, Bool.not_eq_true', decide_eq_false_iff_not] at ha
        exact ha.1
    have e : leafV (h :: t) = .mk 0 [] (strOf ((h :: t).map (·.r))) [] := by unfold leafV; exact if_neg hh
    rw [e]
    refine ⟨rfl, _, rfl, fun r hr => ?_⟩
    obtain ⟨x, hx, rfl⟩ := List.mem_map.1 hr
    exact hv x (e4 x hx)
  | L :: Ls, l, hL, hl, hv => by
    obtain ⟨G, h, t, e1, e2, e3, e4, _⟩ := grp_snoc L.al l p p hl
    have hp : L.w h = L.w p := by
      rcases al_last e2 e3 with rfl | h
      · rfl
      · exact of_decide_eq_true h
    have ih := lv_sp p Ls (h :: t) (fun M hM => hL M (List.mem_cons_of_mem _ hM)) e3 fun x hx => hv x (e4 x hx)
    rw [lvW_cons]
    unfold lv
    rw [e1, List.flatMap_append, List.flatMap_cons, List.flatMap_nil, List.append_nil]
    unfold Lev.nd Lev.el
    rw [show hdC (h :: t) = h from rfl, hp]
    cases L.w p with
    | none => exact ih.app
    | some a => exact ⟨_, _, rfl, hL L (List.mem_cons_self ..), ih⟩
theorem SpLf.spin {c : Cel} : ∀ {W nodes : List Nd} {s : Nat}, SpLf c W nodes → s ≤ W.length → SpIn s nodes
  | _, _, 0, _, _ => trivial
  | [], nodes, s + 1, _, hs => by simp at hs
  | w :: W, nodes, s + 1, h, hs => by
    obtain ⟨i, x, e, hx, h⟩ := h
    exact ⟨i, x, e, hx, h.spin (by simpa using hs)⟩
theorem SpLf.sptx {c : Cel} (hc : ¬ c.r = 10) : ∀ {W nodes : List Nd}, SpLf c W nodes → SpTx W.length nodes
  | [], nodes, h => by
    obtain ⟨i, x, e, h⟩ := h
    obtain ⟨h1, l, h2, h3⟩ := h hc
    exact ⟨i, x, l, e, h1, h2, h3⟩
  | w :: W, nodes, h => by
    obtain ⟨i, x, e, hx, h⟩ := h
    exact ⟨i, x, e, hx, h.sptx hc⟩
theorem tag_row : ∀ L ∈ rowLs, L.tag ≠ 16 ∧ L.tag ≠ 0 := fun M h => by
  simp only [rowLs, List.mem_cons, List.not_mem_nil, or_false] at h
  rcases h with rfl | rfl | rfl | rfl | rfl <;> simp [levH, levB]
theorem wraps_inner (c : Cel) : ∀ x ∈ wrapsR c, Inner x := fun x hx => by
  rw [wraps_lv] at hx
  obtain ⟨M, hM, e⟩ := lvW_tag rowLs c x hx
  have := tag_row M hM
  exact ⟨by rw [e]; exact this.1, by rw [e]; exact this.2⟩
theorem leaf1_br : Leaf1 brN := .inl rfl
theorem leaf1_ch {c : Int} (h : vrune c = true) : Leaf1 (chN c) := .inr ⟨rfl, by
  show (runesL (strOf [c])).length = 1
  rw [runes_str _ (fun r hr => by rw [List.mem_singleton.1 hr]; exact h)]
  rfl⟩
theorem row_pts (l : List Cel) (hv : ∀ c ∈ l, vrune c.r = true) (path : List Int) : ∀ i, i ≤ l.length → lfL (rowN l i) 0 path = (ptsN l i).map (ptAt path) ∧ (ptsN l i).length = i
  | 0, _ => by simp [rowN, ptsN, lfL]
  | i + 1, hi => by
    have hil : i < l.length := by omega
    obtain ⟨ih, ihl⟩ := row_pts l hv path i (by omega)
    have hr := row_round l i hil
    obtain ⟨c, hcc⟩ : ∃ c, l[i] = c := ⟨_, rfl⟩
    have hvc : vrune c.r = true := hv c (hcc ▸ List.getElem_mem hil)
    rw [hcc] at hr
    have hP := hr.pts
    have hN := hr.eq
    refine ⟨?_, by rw [hP, List.length_append, ihl]; rfl⟩
    rw [hP, List.map_append, ← ih]
    have hsp : ∀ p, prevOf l i = some p → SpLf p (wrapsR p) (rowN l i) := fun p hp => by
      have h0 : i ≠ 0 := fun e => by subst e; simp [prevOf] at hp
      rw [prevOf, if_neg h0] at hp
      obtain ⟨p', h1, h2, h3⟩ := take_last l i (by omega) h0
      rw [hp] at h1
      cases h1
      rw [rowN_take l i (by omega), row_lv, wraps_lv]
      exact lv_sp p rowLs _ tag_row h2 fun x hx => hv x ((List.take_sublist i l).subset hx)
    have hspin : SpIn (shareC (prevOf l i) c) (rowN l i) := by
      cases hp : prevOf l i with
      | none => exact trivial
      | some p => exact (hsp p hp).spin (sharedR_le _ _).1
    show lfL (rowN l (i + 1)) 0 path = _ ++ [ptAt path (behindR (wrapsR c).length (rowN l (i + 1)))]
    rw [hN]
    unfold rowStepS
    split
    · exact put_lf leaf1_br _ _ _ path (wraps_inner c) hspin hr.le
    · split
      · next hg =>
        cases hp : prevOf l i with
        | none => rw [hp] at hg; cases hg
        | some p =>
          rw [hp] at hg
          obtain ⟨g1, g2, g3⟩ := goesOn_some hg
          have := (hsp p hp).sptx g1
          rw [← g3, g2] at this
          exact grow_lf c.r hvc _ _ path this
      · exact put_lf (leaf1_ch hvc) _ _ _ path (wraps_inner c) hspin hr.le
/-! ### the point of a place -/
def pointR (T : Str → Bool) (d : List Lin) (p : Pos) : Pnt × Int :=
  if docMay T d = true ∧ docIsV d p = true then
    (if p.at_ = 0 then (⟨(pathsN d d.length).getD p.line.toNat [], 0⟩, 0)
     else (⟨(pathsN d d.length).getD p.line.toNat [] ++ ((ptsR (d.getD p.line.toNat default).cells).getD (p.at_ - 1).toNat default).path, ((ptsR (d.getD p.line.toNat default).cells).getD (p.at_ - 1).toNat default).at_⟩, 0))
  else (⟨[], 0⟩, 1)
theorem pointR_eq (T : Str → Bool) (d : List Lin) (p : Pos) : pointR T d p = pointV T d p := by
  unfold pointR pointV
  by_cases h : docMay T d = true ∧ docIsV d p = true
  · rw [if_pos h, if_pos h]
    obtain ⟨hm, hi⟩ := h
    simp only [docIsV, Bool.and_eq_true, decide_eq_true_eq] at hi
    obtain ⟨h0, h1, h2, h3⟩ := hi
    obtain ⟨n, hn⟩ : ∃ n : Nat, p.line = n := ⟨p.line.toNat, by omega⟩
    have hnl : n < d.length := by omega
    obtain ⟨path, hp, hf⟩ := host_line d (may_ok hm) n hnl
    have hL : (lineF (hostV T d).1 [] p.line).1 = some (path, nodeV d[n]) := by
      unfold hostV
      rw [if_pos hm, hn, lineF_eq]
      show (lineL (nodesV 12 0 d) 0 [] (n : Int)).1 = _
      rw [hf]
    have hg : (pathsN d d.length).getD p.line.toNat [] = path := by
      rw [hn, Int.toNat_natCast, List.getD_eq_getElem?_getD, hp]; rfl
    have hgd : d.getD p.line.toNat default = d[n] := by
      rw [hn, Int.toNat_natCast, List.getD_eq_getElem?_getD, List.getElem?_eq_getElem hnl]; rfl
    rw [hL, hg]
    simp only
    by_cases ha : p.at_ = 0
    · rw [if_pos ha, if_pos ha]
    · rw [if_neg ha, if_neg ha]
      rw [hgd] at h3 ⊢
      obtain ⟨m, hmm⟩ : ∃ m : Nat, p.at_ = (m : Int) + 1 := ⟨(p.at_ - 1).toNat, by omega⟩
      have hcel := (lin_may (docMay_lines hm d[n] (List.getElem_mem hnl))).2.2.2.2.2.2
      have hv : ∀ c ∈ d[n].cells, vrune c.r = true := fun c hc => (may_cells (hcel c hc)).1
      obtain ⟨e1, e2⟩ := row_pts d[n].cells hv path d[n].cells.length (Nat.le_refl _)
      have hml : m < (ptsR d[n].cells).length := by show m < (ptsN _ _).length; omega
      have key := (leafL_lf (rowV d[n].cells) 0 path m).1
      have er : rowN d[n].cells d[n].cells.length = rowV d[n].cells := row_eq _
      rw [er] at e1
      have hlt : m < (lfL (rowV d[n].cells) 0 path).length := by rw [e1, List.length_map]; exact hml
      have hfnd : (leafF (nodeV d[n]) path p.at_).1 = some (ptAt path (ptsR d[n].cells)[m]) := by
        rw [hmm, leafF_eq]
        show (leafL (rowV d[n].cells) 0 path ((m : Int) + 1)).1 = _
        rw [key hlt]
        have : (lfL (rowV d[n].cells) 0 path)[m]? = some (ptAt path (ptsR d[n].cells)[m]) := by
          rw [e1, List.getElem?_map]
          show (ptsR d[n].cells)[m]?.map _ = _
          rw [List.getElem?_eq_getElem hml]
          rfl
        rw [List.getElem?_eq_getElem hlt] at this
        exact this
      have hgp : (ptsR d[n].cells).getD (p.at_ - 1).toNat default = (ptsR d[n].cells)[m] := by
        have e : (p.at_ - 1).toNat = m := by omega
        rw [e, List.getD_eq_getElem?_getD, List.getElem?_eq_getElem hml]; rfl
      rw [hfnd, hgp]
      rfl
  · rw [if_neg h, if_neg h]
end Go.QL
end

section
/- The contracts of ref05.Own, ref06.Own, ref07.Own, ref07.Is, ref19.Way, boxes. -/
set_option linter.unusedVariables false
set_option linter.unusedSimpArgs false
set_option maxHeartbeats 4000000
namespace Go.Proofs.YtokbhcnomffopaaGreatDoor
open Go Go.QL

theorem own5_calls (l : List Cel) (f : Bool) (hl : l.length ≤ 4294967296) : ICalls Tryz.prog 46 [.sl f (l.map eC)] [] (fun u _ => u = eCs l) := by
  refine x_enter Tryz.func46 Tryz.ntmps46 ?_
  refine ic_seq ?_
  refine ic_region ?_
  refine x_op ?_
  refine il_nil ?_
  refine ic_seq ?_
  refine ic_region ?_
  refine x_op ?_
  refine x_op ?_
  refine x_op ?_
  refine il_frow 0 ?_
  refine x_op ?_
  refine il_nil ?_
  refine ic_ret ?_
  repeat (first | with_reducible refine it_ret ?_ | with_reducible refine ib_ret ?_)
  exact x_res1 Tryz.results46 rfl
theorem own6_calls (l : Lin) (hl : l.cells.length ≤ 4294967296) (hl2 : l.lists.length ≤ 4294967296) : ICalls Tryz.prog 26 [eL l] [] (fun u _ => u = eL l) := by
  refine x_enter Tryz.func26 Tryz.ntmps26 ?_
  refine ic_seq ?_
  refine ic_region ?_
  refine x_op ?_
  refine x_op ?_
  refine il_nil ?_
  refine ic_seq ?_
  refine ic_draws [0, 1, 2, 3, 4, 6, 7, 8, 9] (by kernel_rfl) rfl rfl ?_ -- of 13
  refine q_op ?_
  refine q_op ?_
  refine q_op ?_
  refine q_op ?_
  refine q_op ?_
  refine q_op ?_
  refine q_op ?_
  refine q_op ?_
  refine q_op ?_
  refine iq_nil ?_
  refine s_opr 5 ?_ ?_ -- append
  ·
    refine q_op ?_
    refine q_op ?_
    refine q_op ?_
    refine q_op ?_
    refine q_op ?_
    refine q_op ?_
    refine q_op ?_
    refine q_op ?_
    refine q_op ?_
    refine iq_nil ?_
    rfl
  refine s_cvr 10 (own5_calls l.cells false hl) ?_ ?_ -- @quillwork/quillworkref05.Own t12
  ·
    refine q_op ?_
    refine q_op ?_
    refine q_op ?_
    refine q_op ?_
    refine q_op ?_
    refine q_op ?_
    refine q_op ?_
    refine q_op ?_
    refine q_op ?_
    refine iq_nil ?_
    rfl
  refine s_op 11 ?_ -- build
  refine s_op 12 ?_ -- store
  refine s_done ?_
  refine ic_frow 2 ?_
  refine ic_ret ?_
  repeat (first | with_reducible refine it_ret ?_ | with_reducible refine ib_ret ?_)
  exact x_res1 Tryz.results26 rfl
theorem own7_calls (d : List Lin) (f : Bool) (hl : d.length ≤ 4294967296) (h1 : ∀ l ∈ d, l.cells.length ≤ 4294967296) (h2 : ∀ l ∈ d, l.lists.length ≤ 4294967296) : ICalls Tryz.prog 10 [.sl f (d.map eL)] [] (fun u _ => u = eLs d) := by
  refine x_enter Tryz.func10 Tryz.ntmps10 ?_
  refine ic_seq ?_
  refine ic_region ?_
  refine x_op ?_
  refine il_nil ?_
  refine ic_seq ?_
  refine ic_region ?_
  refine x_op ?_
  refine il_nil ?_
  refine ic_row0t 3 31 4 rfl rfl x_nf x_nf ?_
  refine ic_seq ?_
  refine ic_seq ?_
  refine ic_region ?_
  refine x_op ?_
  refine il_nil ?_
  refine ic_block ?_ -- 0
  refine x_loop [3, 4] [5, 6, 7, 8, 9, 10, 11, 12, 13, 14, 15, 16, 17, 18] (fun m vs σ => ∃ i : Nat, i ≤ d.length ∧ m = d.length - i ∧ vs = [.row 0 (d.take i).length, .int .i64 i] ∧ σ = [.row 31 4 ((d.take i).map eL)]) ⟨0, Nat.zero_le _, rfl, rfl, rfl⟩ ?_
  rintro m vs σ ⟨i, hi, rfl, rfl, rfl⟩
  simp only [sets, nf]
  refine ic_seq ?_
  refine ic_seq ?_
  refine ic_region ?_
  refine x_op ?_
  refine x_op ?_
  refine x_op ?_
  refine x_op ?_
  refine il_nil ?_
  refine ic_cond rfl (fun hc => ?_) (fun hc => ?_) -- t8
  · -- true
    have hil : i < d.length := by have := of_decide_eq_true hc; omega
    obtain ⟨l, hll⟩ : ∃ l, d[i] = l := ⟨_, rfl⟩
    have hix : (d.map eL)[((i : Nat) : Int).toNat]? = some (eL l) := by simp [hil, hll]
    have hm : l ∈ d := hll ▸ List.getElem_mem hil
    have htk : d.take (i + 1) = d.take i ++ [l] := by rw [List.take_succ_eq_append_getElem hil, hll]
    have hlen : (d.take i).length = i := by rw [List.length_take]; omega
    refine ic_skip ?_
    refine ic_seq ?_
    refine ic_block ?_ -- 1
    refine ic_region ?_
    refine x_op ?_
    refine x_op ?_
    refine x_op ?_
    refine x_op ?_
    refine x_op ?_
    refine x_cv (own6_calls l (h1 l hm) (h2 l hm)) ?_
    refine x_op ?_
    refine x_op ?_
    refine x_op ?_
    refine il_nil ?_
    refine ic_region ?_
    refine x_op ?_
    refine x_op ?_
    refine x_op ?_
    refine il_nil ?_
    have e1 : (d.take i).map eL ++ [eL l] = (d.take (i + 1)).map eL := by rw [htk, List.map_append]; rfl
    have e2 : (d.take i).length + 1 = (d.take (i + 1)).length := by rw [htk, List.length_append]; rfl
    simp only [e1, e2]
    exact x_next (d.length - (i + 1)) ⟨i + 1, by omega, rfl, rfl, rfl⟩ (by omega) -- round
  · -- false
    obtain rfl : i = d.length := by have := of_decide_eq_false hc; omega
    rw [List.take_length]
    refine ic_exit ?_ -- 0
    refine ic_frow 0 ?_
    refine ic_seq ?_
    refine ic_region ?_
    refine x_op ?_
    refine x_op ?_
    refine il_nil ?_
    refine ic_ret ?_
    repeat (first | with_reducible refine it_ret ?_ | with_reducible refine ib_ret ?_)
    exact x_res1 Tryz.results10 rfl
end Go.Proofs.YtokbhcnomffopaaGreatDoor
end

section
/- The contracts of the document's sameness (ref03, ref17). -/
set_option linter.unusedVariables false
set_option linter.unusedSimpArgs false
set_option maxHeartbeats 4000000
namespace Go.Proofs.YtokbhcnomffopaaGreatDoor
open Go Go.QL

abbrev same03_t (a b : List At) (f g : Bool) (i : Nat) (q : IV) : List IV := [.sl f (a.map eA), .sl g (b.map eA), .junk, .junk, .junk, .int .i64 i, .junk, .junk, .junk, .junk, .junk, .junk, .junk, .junk, .junk, .junk, .junk, .junk, .junk, .junk, .junk, .junk, .junk, .junk, .junk, .junk, .junk, .junk, .junk, .junk, .junk, .junk, .junk, .junk, .junk, .junk, .junk, .junk, .junk, .junk, q]
theorem same03_calls (a b : List At) (f g : Bool) (hl : a.length ≤ 4294967296) : ICalls Tryz.prog 32 [.sl f (a.map eA), .sl g (b.map eA)] [] (fun u _ => u = .bool (decide (a = b))) := by
  refine x_enter Tryz.func32 Tryz.ntmps32 ?_
  refine ic_seq ?_
  refine ic_region ?_
  refine x_op ?_
  refine il_nil ?_
  refine ic_seq ?_
  refine ic_seq ?_
  refine ic_region ?_
  refine x_op ?_
  refine x_op ?_
  refine x_op ?_
  refine x_op ?_
  refine x_op ?_
  refine il_nil ?_
  refine ic_cond rfl (fun hc => ?_) (fun hc => ?_) -- t10
  · -- true
    have hne : ¬ a = b := fun e => by subst e; simp at hc
    refine ic_seq ?_
    refine ic_region ?_
    refine x_op ?_
    refine il_nil ?_
    refine ic_ret ?_
    repeat (first | with_reducible refine it_ret ?_ | with_reducible refine ib_ret ?_)
    exact ⟨rfl, _, ires_tmp Tryz.results32 x_le, by rw [decide_eq_false hne]; rfl⟩
  · -- false
    have hlen : a.length = b.length := by
      have h : (a.length : Int) = b.length := by simpa using hc
      omega
    refine ic_skip ?_
    refine ic_seq ?_
    refine ic_seq ?_
    refine ic_region ?_
    refine x_op ?_
    refine il_nil ?_
    refine ic_block ?_ -- 0
    -- LOOP
    refine ic_loopT (fun m t σ => ∃ i : Nat, i ≤ a.length ∧ m = a.length - i ∧ t = same03_t a b f g i .junk ∧ σ = [] ∧ a.take i = b.take i) [] (m := a.length) (loose_mk (t' := same03_t a b f g 0 .junk) (σ' := []) (τ := []) x_wks rfl (Nat.zero_le _) x_lts marks_nil x_olts ?_) ?_
    · exact ⟨0, Nat.zero_le _, rfl, rfl, rfl, rfl⟩
    rintro m t σ ⟨i, hi, rfl, rfl, rfl, hpre⟩
    dsimp only [same03_t]
    refine ic_seq ?_
    refine ic_seq ?_
    refine ic_region ?_
    refine x_op ?_
    refine x_op ?_
    refine x_op ?_
    refine x_op ?_
    refine il_nil ?_
    refine ic_cond rfl (fun hc => ?_) (fun hc => ?_) -- t14
    · -- true
      have hil : i < a.length := by have := of_decide_eq_true hc; omega
      have hib : i < b.length := by omega
      have hxa : (a.map eA)[((i : Nat) : Int).toNat]? = some (eA a[i]) := by simp [hil]
      have hxb : (b.map eA)[((i : Nat) : Int).toNat]? = some (eA b[i]) := by simp [hib]
      refine ic_skip ?_
      refine ic_seq ?_
      refine ic_block ?_ -- 1
      refine ic_seqM (fun w s => s = [] ∧ LooseW (fun t _ => t = same03_t a b f g i (.bool (!decide (a[i] = b[i])))) [] w s) ?_ ?_
      · -- DRAW R6
        refine ic_drawq 24 (by kernel_rfl) rfl rfl ?_
        refine q_op ?_
        refine q_op ?_
        refine q_op ?_
        refine q_op ?_
        refine q_op ?_
        refine q_op ?_
        refine q_op ?_
        refine q_op ?_
        refine q_op ?_
        refine q_op ?_
        refine q_op ?_
        refine q_op ?_
        rcases Decidable.em ((a[i]).name = (b[i]).name) with hn | hn
        · have h1 : (!decide ((a[i]).name = (b[i]).name)) = false := by simp [hn]
          simp only [h1]
          refine qy_op ?_
          refine qy_op ?_
          refine qy_op ?_
          refine qy_op ?_
          refine qy_op ?_
          refine qy_op ?_
          refine qy_op ?_
          refine qy_op ?_
          refine qy_op ?_
          refine qy_op ?_
          refine qy_op ?_
          refine q_op ?_
          refine iq_nil ?_
          refine ig_done (by kernel_rfl) ?_
          have h2 : (!decide (a[i] = b[i])) = (!decide ((a[i]).value = (b[i]).value)) := by
            congr 2
            refine propext ⟨fun h => by rw [h], fun h => ?_⟩
            generalize a[i] = x at *
            generalize b[i] = y at *
            cases x; cases y; simp only at *; subst hn; subst h; rfl
          exact ⟨rfl, loosew_mk (t' := same03_t a b f g i (.bool (!decide (a[i] = b[i])))) (by rw [h2]; repeat (first | exact Wks.nil | refine Wks.cons (Wk.refl _) ?_ | refine Wks.cons (Wk.junk _) ?_)) rfl⟩
        · have h1 : (!decide ((a[i]).name = (b[i]).name)) = true := by simp [hn]
          simp only [h1]
          refine qn_op ?_
          refine qn_op ?_
          refine qn_op ?_
          refine qn_op ?_
          refine qn_op ?_
          refine qn_op ?_
          refine qn_op ?_
          refine qn_op ?_
          refine qn_op ?_
          refine qn_op ?_
          refine qn_op ?_
          refine q_op ?_
          refine iq_nil ?_
          refine ig_done (by kernel_rfl) ?_
          have h2 : (!decide (a[i] = b[i])) = true := by
            have : ¬ a[i] = b[i] := fun h => hn (by rw [h])
            simp [this]
          exact ⟨rfl, loosew_mk (t' := same03_t a b f g i (.bool (!decide (a[i] = b[i])))) (by rw [h2]; repeat (first | exact Wks.nil | refine Wks.cons (Wk.refl _) ?_ | refine Wks.cons (Wk.junk _) ?_)) rfl⟩
      rintro w s ⟨rfl, hw⟩
      refine hw.ic ?_
      rintro t rfl
      dsimp only [same03_t]
      refine ic_cond rfl (fun hc => ?_) (fun hc => ?_) -- t40
      · -- true
        have hne : ¬ a = b := fun e => by subst e; simp at hc
        refine ic_seq ?_
        refine ic_region ?_
        refine x_op ?_
        refine il_nil ?_
        refine ic_ret ?_
        repeat (first | with_reducible refine it_ret ?_ | with_reducible refine ib_ret ?_)
        exact ⟨rfl, _, ires_tmp Tryz.results32 x_le, by rw [decide_eq_false hne]; rfl⟩
      · -- false
        have he : a[i] = b[i] := by simpa using hc
        refine ic_skip ?_
        refine ic_region ?_
        refine x_op ?_
        refine x_op ?_
        refine x_op ?_
        refine il_nil ?_
        exact ⟨a.length - (i + 1), by omega, loose_mk (t' := same03_t a b f g (i + 1) .junk) (σ' := []) (τ := []) x_wks rfl (Nat.zero_le _) x_lts marks_nil x_olts ⟨i + 1, hil, rfl, rfl, rfl, by rw [List.take_succ_eq_append_getElem hil, List.take_succ_eq_append_getElem hib, hpre, he]⟩⟩ -- round
    · -- false
      refine ic_exit ?_ -- 0
      obtain rfl : i = a.length := by have := of_decide_eq_false hc; omega
      have heq : a = b := by rw [List.take_length, hlen, List.take_length] at hpre; exact hpre
      refine ic_seq ?_
      refine ic_region ?_
      refine x_op ?_
      refine il_nil ?_
      refine ic_ret ?_
      repeat (first | with_reducible refine it_ret ?_ | with_reducible refine ib_ret ?_)
      exact ⟨rfl, _, ires_tmp Tryz.results32 x_le, by rw [decide_eq_true heq]; rfl⟩
abbrev same17_t (a b : Nd) (i : IV) (q r : IV) : List IV := [eN a, eN b, .ptr 0 0, .ptr 1 0, .junk, i, .junk, .junk, .junk, .junk, .junk, .junk, .junk, .junk, .junk, .junk, .junk, .junk, .junk, .junk, .junk, .junk, .junk, .junk, .junk, .junk, .junk, .junk, .junk, .junk, .junk, .junk, .junk, .junk, q, .junk, .junk, .junk, .junk, .junk, .junk, .junk, .junk, .junk, .junk, .junk, .junk, .junk, .junk, .junk, .junk, .junk, .junk, r]
abbrev same17_s (a b : Nd) : List IObj := [.box 35 [.int .i64 a.tag, eAs a.attrs, .str a.text, eNs a.kids], .box 35 [.int .i64 b.tag, eAs b.attrs, .str b.text, eNs b.kids]]
theorem same17_calls' (a b : Nd) (hl : a.sz ≤ 4294967296) (ih : ∀ x ∈ a.kids, ∀ y, ICalls Tryz.prog 15 [eN x, eN y] [] (fun u _ => u = .bool (decide (x = y)))) : ICalls Tryz.prog 15 [eN a, eN b] [] (fun u _ => u = .bool (decide (a = b))) := by
  have hsz := a.sz_eq
  have hkl := szl_len a.kids
  refine x_enter Tryz.func15 Tryz.ntmps15 ?_
  refine ic_seq ?_
  refine ic_region ?_
  refine x_op ?_
  refine x_op ?_
  refine x_op ?_
  refine il_nil ?_
  refine ic_seq ?_
  refine ic_seqM (fun w s => s = same17_s a b ∧ LooseW (fun t _ => ∃ v : Bool, t = same17_t a b .junk (.bool v) .junk ∧ (v = true → ¬ a = b) ∧ (v = false → a.tag = b.tag ∧ a.text = b.text ∧ a.attrs = b.attrs ∧ a.kids.length = b.kids.length)) [] w s) ?_ ?_
  · refine ic_region ?_
    refine x_op ?_
    refine x_op ?_
    refine x_op ?_
    refine x_op ?_
    refine x_op ?_
    refine x_op ?_
    rcases Decidable.em (a.tag = b.tag) with h1 | h1
    · have d1 : (!decide (a.tag = b.tag)) = false := by simp [h1]
      simp only [d1]
      refine y_op ?_
      refine y_op ?_
      refine y_op ?_
      refine y_op ?_
      refine y_op ?_
      refine x_op ?_
      refine x_op ?_
      rcases Decidable.em (a.text = b.text) with h2 | h2
      · have d2 : (!decide (a.text = b.text)) = false := by simp [h2]
        simp only [d2]
        refine y_op ?_
        refine y_op ?_
        refine y_op ?_
        refine y_op ?_
        refine il_ycallv rfl rfl rfl rfl x_nf ((same03_calls a.attrs b.attrs false false (by omega)).frame1 (dat_cons (dat_eAs _) (dat_cons (dat_eAs _) dat_nil)) (.bool _) _) x_nf ?_
        refine y_op ?_
        refine x_op ?_
        refine x_op ?_
        rcases Decidable.em (a.attrs = b.attrs) with h3 | h3
        · have d3 : (!decide (a.attrs = b.attrs)) = false := by simp [h3]
          simp only [d3]
          refine y_op ?_
          refine y_op ?_
          refine y_op ?_
          refine y_op ?_
          refine y_op ?_
          refine y_op ?_
          refine y_op ?_
          refine x_op ?_
          refine il_nil ?_
          have hkl : (!decide ((a.kids.length : Int) = b.kids.length)) = false → a.kids.length = b.kids.length := fun h => by
            have h' : (a.kids.length : Int) = b.kids.length := by simpa using h
            omega
          exact ⟨rfl, loosew_mk (t' := same17_t a b .junk (.bool (!decide ((a.kids.length : Int) = b.kids.length))) .junk) x_wks ⟨_, rfl, fun h e => by subst e; simp at h, fun h => ⟨h1, h2, h3, hkl h⟩⟩⟩
        · have d3 : (!decide (a.attrs = b.attrs)) = true := by simp [h3]
          simp only [d3]
          refine n_op ?_
          refine n_op ?_
          refine n_op ?_
          refine n_op ?_
          refine n_op ?_
          refine n_op ?_
          refine n_op ?_
          refine x_op ?_
          refine il_nil ?_
          exact ⟨rfl, loosew_mk (t' := same17_t a b .junk (.bool true) .junk) x_wks ⟨_, rfl, fun _ e => h3 (by rw [e]), fun h => by cases h⟩⟩
      · have d2 : (!decide (a.text = b.text)) = true := by simp [h2]
        simp only [d2]
        refine n_op ?_
        refine n_op ?_
        refine n_op ?_
        refine n_op ?_
        refine n_op ?_
        refine n_op ?_
        refine x_op ?_
        refine x_op ?_
        refine n_op ?_
        refine n_op ?_
        refine n_op ?_
        refine n_op ?_
        refine n_op ?_
        refine n_op ?_
        refine n_op ?_
        refine x_op ?_
        refine il_nil ?_
        exact ⟨rfl, loosew_mk (t' := same17_t a b .junk (.bool true) .junk) x_wks ⟨_, rfl, fun _ e => h2 (by rw [e]), fun h => by cases h⟩⟩
    · have d1 : (!decide (a.tag = b.tag)) = true := by simp [h1]
      simp only [d1]
      refine n_op ?_
      refine n_op ?_
      refine n_op ?_
      refine n_op ?_
      refine n_op ?_
      refine x_op ?_
      refine x_op ?_
      refine n_op ?_
      refine n_op ?_
      refine n_op ?_
      refine n_op ?_
      refine n_op ?_
      refine n_op ?_
      refine x_op ?_
      refine x_op ?_
      refine n_op ?_
      refine n_op ?_
      refine n_op ?_
      refine n_op ?_
      refine n_op ?_
      refine n_op ?_
      refine n_op ?_
      refine x_op ?_
      refine il_nil ?_
      exact ⟨rfl, loosew_mk (t' := same17_t a b .junk (.bool true) .junk) x_wks ⟨_, rfl, fun _ e => h1 (by rw [e]), fun h => by cases h⟩⟩
  rintro w s ⟨rfl, hw⟩
  refine hw.ic ?_
  rintro t ⟨v, rfl, hv1, hv2⟩
  dsimp only [same17_t, same17_s]
  refine ic_cond rfl (fun hc => ?_) (fun hc => ?_) -- t34
  · -- true
    refine ic_seq ?_
    refine ic_region ?_
    refine x_op ?_
    refine il_nil ?_
    refine ic_ret ?_
    repeat (first | with_reducible refine it_ret ?_ | with_reducible refine ib_ret ?_)
    exact ⟨rfl, _, ires_tmp Tryz.results15 x_le, by rw [decide_eq_false (hv1 hc)]; rfl⟩
  · -- false
    obtain ⟨h1, h2, h3, h4⟩ := hv2 hc
    refine ic_skip ?_
    refine ic_seq ?_
    refine ic_seq ?_
    refine ic_region ?_
    refine x_op ?_
    refine il_nil ?_
    refine ic_block ?_ -- 0
    -- LOOP
    refine ic_loopT (fun m t σ => ∃ i : Nat, i ≤ a.kids.length ∧ m = a.kids.length - i ∧ t = same17_t a b (.int .i64 i) .junk .junk ∧ σ = same17_s a b ∧ a.kids.take i = b.kids.take i) [] (m := a.kids.length) (loose_mk (t' := same17_t a b (.int .i64 (0 : Nat)) .junk .junk) (σ' := same17_s a b) (τ := []) x_wks rfl (Nat.zero_le _) x_lts marks_nil x_olts ?_) ?_
    · exact ⟨0, Nat.zero_le _, rfl, rfl, rfl, rfl⟩
    rintro m t σ ⟨i, hi, rfl, rfl, rfl, hpre⟩
    dsimp only [same17_t, same17_s]
    refine ic_seq ?_
    refine ic_seq ?_
    refine ic_region ?_
    refine x_op ?_
    refine x_op ?_
    refine x_op ?_
    refine x_op ?_
    refine x_op ?_
    refine il_nil ?_
    refine ic_cond rfl (fun hc => ?_) (fun hc => ?_) -- t39
    · -- true
      have hil : i < a.kids.length := by have := of_decide_eq_true hc; omega
      have hib : i < b.kids.length := by omega
      have hxa : (a.kids.map eN)[((i : Nat) : Int).toNat]? = some (eN a.kids[i]) := by simp [hil]
      have hxb : (b.kids.map eN)[((i : Nat) : Int).toNat]? = some (eN b.kids[i]) := by simp [hib]
      refine ic_skip ?_
      refine ic_seq ?_
      refine ic_block ?_ -- 1
      refine ic_seq ?_
      -- DRAW R6
      refine ic_drawq 12 (by kernel_rfl) rfl rfl ?_
      refine q_op ?_
      refine q_op ?_
      refine q_op ?_
      refine q_op ?_
      refine q_op ?_
      refine q_op ?_
      refine q_op ?_
      refine q_op ?_
      refine q_op ?_
      refine q_op ?_
      refine iq_callv rfl rfl rfl x_nf ((ih a.kids[i] (List.getElem_mem hil) b.kids[i]).frame1 (dat_cons (dat_eN _) (dat_cons (dat_eN _) dat_nil)) (.bool _) _) x_nf ?_
      refine q_op ?_
      refine iq_nil ?_
      refine ig_done (by kernel_rfl) ?_
      refine ic_cond rfl (fun hc => ?_) (fun hc => ?_) -- t53
      · -- true
        have hne : ¬ a = b := fun e => by subst e; simp at hc
        refine ic_seq ?_
        refine ic_region ?_
        refine x_op ?_
        refine il_nil ?_
        refine ic_ret ?_
        repeat (first | with_reducible refine it_ret ?_ | with_reducible refine ib_ret ?_)
        exact ⟨rfl, _, ires_tmp Tryz.results15 x_le, by rw [decide_eq_false hne]; rfl⟩
      · -- false
        have he : a.kids[i] = b.kids[i] := by simpa using hc
        refine ic_skip ?_
        refine ic_region ?_
        refine x_op ?_
        refine x_op ?_
        refine x_op ?_
        refine il_nil ?_
        exact ⟨a.kids.length - (i + 1), by omega, loose_mk (t' := same17_t a b (.int .i64 ((i + 1 : Nat))) .junk .junk) (σ' := same17_s a b) (τ := []) x_wks rfl (Nat.zero_le _) x_lts marks_nil x_olts ⟨i + 1, hil, rfl, rfl, rfl, by rw [List.take_succ_eq_append_getElem hil, List.take_succ_eq_append_getElem hib, hpre, he]⟩⟩ -- round
    · -- false
      refine ic_exit ?_ -- 0
      obtain rfl : i = a.kids.length := by have := of_decide_eq_false hc; omega
      have heq : a.kids = b.kids := by rw [List.take_length, h4, List.take_length] at hpre; exact hpre
      refine ic_seq ?_
      refine ic_region ?_
      refine x_op ?_
      refine il_nil ?_
      refine ic_ret ?_
      repeat (first | with_reducible refine it_ret ?_ | with_reducible refine ib_ret ?_)
      exact ⟨rfl, _, ires_tmp Tryz.results15 x_le, by rw [decide_eq_true (Nd.ext h1 h3 h2 heq)]; rfl⟩
theorem same17_all : ∀ (m : Nat), m ≤ 4294967296 → (∀ a b : Nd, a.sz ≤ m → ICalls Tryz.prog 15 [eN a, eN b] [] (fun u _ => u = .bool (decide (a = b))))
  | 0, _, a, _, h => absurd (a.sz_eq ▸ h) (by omega)
  | m + 1, hm, a, b, h => by
    have hs := a.sz_eq
    exact same17_calls' a b (by omega) fun x hx y => same17_all m (by omega) x y (by have := szl_mem hx; omega)
theorem same17_calls (a b : Nd) (h : a.sz ≤ 4294967296) : ICalls Tryz.prog 15 [eN a, eN b] [] (fun u _ => u = .bool (decide (a = b))) := same17_all _ h a b (Nat.le_refl _)
end Go.Proofs.YtokbhcnomffopaaGreatDoor
end

section
/- The contracts of the document's answer for rows (ref19): shared. -/
set_option linter.unusedVariables false
set_option linter.unusedSimpArgs false
set_option maxHeartbeats 4000000
namespace Go.Proofs.YtokbhcnomffopaaGreatDoor
open Go Go.QL

abbrev shared_t (a b : List Nd) (f g : Bool) (i : Nat) (q : IV) : List IV := [.sl f (a.map eN), .sl g (b.map eN), .junk, .junk, .junk, .int .i64 i, .junk, .junk, .junk, .junk, .junk, .junk, .junk, .junk, .junk, .junk, .junk, .junk, .junk, .junk, .junk, .junk, .junk, .junk, .junk, .junk, q, .junk, .junk, .junk]
theorem shared_calls (a b : List Nd) (f g : Bool) (hl : a.length ≤ 4294967296) (hs : ∀ x ∈ a, x.sz ≤ 4294967296) : ICalls Tryz.prog 58 [.sl f (a.map eN), .sl g (b.map eN)] [] (fun u _ => u = .int .i64 (sharedR a b : Nat)) := by
  refine x_enter Tryz.func58 Tryz.ntmps58 ?_
  refine ic_seq ?_
  refine ic_region ?_
  refine x_op ?_
  refine il_nil ?_
  refine ic_seq ?_
  refine ic_region ?_
  refine x_op ?_
  refine il_nil ?_
  refine ic_seq ?_
  refine ic_block ?_ -- 0
  -- LOOP
  refine ic_loopT (fun m t σ => ∃ i : Nat, i ≤ a.length ∧ m = a.length - i ∧ t = shared_t a b f g i .junk ∧ σ = [] ∧ sharedR a b = i + sharedR (a.drop i) (b.drop i)) [] (m := a.length) (loose_mk (t' := shared_t a b f g 0 .junk) (σ' := []) (τ := []) x_wks rfl (Nat.zero_le _) x_lts marks_nil x_olts ?_) ?_
  · exact ⟨0, Nat.zero_le _, rfl, rfl, rfl, by simp⟩
  rintro m t σ ⟨i, hi, rfl, rfl, rfl, hpre⟩
  dsimp only [shared_t]
  refine ic_seq ?_
  refine ic_seqM (fun w s => s = [] ∧ LooseW (fun t _ => ∃ v : Bool, t = shared_t a b f g i (.bool v) ∧ (v = true → ∃ (h1 : i < a.length) (h2 : i < b.length), a[i] = b[i]) ∧ (v = false → ∀ (h1 : i < a.length) (h2 : i < b.length), ¬ a[i] = b[i])) [] w s) ?_ ?_
  · -- DRAW R2
    refine ic_drawq 21 (by kernel_rfl) rfl rfl ?_
    refine q_op ?_
    refine q_op ?_
    refine q_op ?_
    refine q_op ?_
    refine q_op ?_
    rcases Nat.lt_or_ge i a.length with h1 | h1
    · have d1 : decide ((i : Int) < (a.length : Int)) = true := decide_eq_true (by omega)
      have hxa : (a.map eN)[((i : Nat) : Int).toNat]? = some (eN a[i]) := by simp [h1]
      simp only [d1]
      refine qy_op ?_
      refine qy_op ?_
      refine qy_op ?_
      refine qy_op ?_
      refine q_op ?_
      refine q_op ?_
      rcases Nat.lt_or_ge i b.length with h2 | h2
      · have d2 : decide ((i : Int) < (b.length : Int)) = true := decide_eq_true (by omega)
        have hxb : (b.map eN)[((i : Nat) : Int).toNat]? = some (eN b[i]) := by simp [h2]
        simp only [d2]
        refine qy_op ?_
        refine qy_op ?_
        refine qy_op ?_
        refine qy_op ?_
        refine qy_op ?_
        refine qy_op ?_
        refine qy_op ?_
        refine qy_op ?_
        refine iq_ycallv rfl rfl rfl rfl x_nf ((same17_calls a[i] b[i] (hs _ (List.getElem_mem h1))).frame1 (dat_cons (dat_eN _) (dat_cons (dat_eN _) dat_nil)) (.bool _) _) x_nf ?_
        refine q_op ?_
        refine iq_nil ?_
        refine ig_done (by kernel_rfl) ?_
        exact ⟨rfl, loosew_mk (t' := shared_t a b f g i (.bool (decide (a[i] = b[i])))) x_wks ⟨_, rfl, fun h => ⟨h1, h2, of_decide_eq_true h⟩, fun h _ _ => of_decide_eq_false h⟩⟩
      · have d2 : decide ((i : Int) < (b.length : Int)) = false := decide_eq_false (by omega)
        simp only [d2]
        refine qn_op ?_
        refine qn_op ?_
        refine qn_op ?_
        refine qn_op ?_
        refine qn_op ?_
        refine qn_op ?_
        refine qn_op ?_
        refine qn_op ?_
        refine qn_op ?_
        refine q_op ?_
        refine iq_nil ?_
        refine ig_done (by kernel_rfl) ?_
        exact ⟨rfl, loosew_mk (t' := shared_t a b f g i (.bool false)) x_wks ⟨_, rfl, fun h => (by cases h), fun _ _ h => absurd h (by omega)⟩⟩
    · have d1 : decide ((i : Int) < (a.length : Int)) = false := decide_eq_false (by omega)
      simp only [d1]
      refine qn_op ?_
      refine qn_op ?_
      refine qn_op ?_
      refine qn_op ?_
      refine q_op ?_
      refine q_op ?_
      refine qn_op ?_
      refine qn_op ?_
      refine qn_op ?_
      refine qn_op ?_
      refine qn_op ?_
      refine qn_op ?_
      refine qn_op ?_
      refine qn_op ?_
      refine qn_op ?_
      refine q_op ?_
      refine iq_nil ?_
      refine ig_done (by kernel_rfl) ?_
      exact ⟨rfl, loosew_mk (t' := shared_t a b f g i (.bool false)) x_wks ⟨_, rfl, fun h => (by cases h), fun _ h _ => absurd h (by omega)⟩⟩
  rintro w s ⟨rfl, hw⟩
  refine hw.ic ?_
  rintro t ⟨v, rfl, hv1, hv2⟩
  dsimp only [shared_t]
  refine ic_cond rfl (fun hc => ?_) (fun hc => ?_) -- t26
  · -- true
    obtain ⟨h1, h2, he⟩ := hv1 hc
    refine ic_skip ?_
    refine ic_block ?_ -- 1
    refine ic_region ?_
    refine x_op ?_
    refine x_op ?_
    refine x_op ?_
    refine il_nil ?_
    exact ⟨a.length - (i + 1), by omega, loose_mk (t' := shared_t a b f g (i + 1) .junk) (σ' := []) (τ := []) x_wks rfl (Nat.zero_le _) x_lts marks_nil x_olts ⟨i + 1, h1, rfl, rfl, rfl, by rw [hpre, sharedR_at a b i h1 h2 he]; omega⟩⟩ -- round
  · -- false
    have hz := sharedR_ne a b i (hv2 hc)
    refine ic_exit ?_ -- 0
    refine ic_seq ?_
    refine ic_region ?_
    refine x_op ?_
    refine x_op ?_
    refine il_nil ?_
    refine ic_ret ?_
    repeat (first | with_reducible refine it_ret ?_ | with_reducible refine ib_ret ?_)
    exact ⟨rfl, _, ires_tmp Tryz.results58 x_le, by rw [hpre, hz]; rfl⟩
end Go.Proofs.YtokbhcnomffopaaGreatDoor
end

section
/- The contracts of the document's answer for rows (ref19): wraps. -/
set_option linter.unusedVariables false
set_option linter.unusedSimpArgs false
set_option maxHeartbeats 4000000
namespace Go.Proofs.YtokbhcnomffopaaGreatDoor
open Go Go.QL

abbrev wraps_t (c : Cel) (n i : Nat) : List IV := [eC c, .ptr 0 0, .junk, .row 1 n, .int .i64 i, .junk, .junk, .junk, .junk, .junk, .junk, .junk, .junk, .junk, .junk, .junk, .junk, .junk, .junk, .junk, .junk, .junk, .junk, .junk, .junk, .junk, .junk, .junk, .junk, .junk, .junk, .junk, .junk]
abbrev wraps_s (c : Cel) (l : List Nd) : List IObj := [.box 57 [.int .i32 c.r, .int .i64 c.bits, .str c.href], .row 35 4 (l.map eN)]
theorem wraps_calls (c : Cel) : ICalls Tryz.prog 64 [eC c] [] (fun u _ => u = eNs (wrapsR c)) := by
  refine x_enter Tryz.func64 Tryz.ntmps64 ?_
  refine ic_seq ?_
  refine ic_region ?_
  refine x_op ?_
  refine x_op ?_
  refine il_nil ?_
  refine ic_seq ?_
  refine ic_region ?_
  refine x_op ?_
  refine il_nil ?_
  refine ic_row0t 3 35 4 rfl rfl x_nf x_nf ?_
  refine ic_seqM (fun w s => s = wraps_s c (wrapsN c 0) ∧ LooseW (fun t _ => t = (wraps_t c (wrapsN c 0).length 0).set 4 .junk) [] w s) ?_ ?_
  · refine ic_seq ?_
    refine ic_region ?_
    refine x_op ?_
    refine x_op ?_
    refine x_op ?_
    refine il_nil ?_
    refine ic_cond rfl (fun hc => ?_) (fun hc => ?_) -- t7
    · -- true
      have hne : ¬ c.href = ⟨#[]⟩ := by simpa using hc
      have e1 : wrapsN c 0 = [.mk 10 [hrefAt c.href] ⟨#[]⟩ []] := by simp only [wrapsN]; rw [if_neg hne]
      rw [e1]
      refine ic_region ?_
      refine x_op ?_
      refine x_op ?_
      refine x_op ?_
      refine x_op ?_
      refine x_op ?_
      refine x_op ?_
      refine x_op ?_
      refine il_wk1 14 (eNs [.mk 10 [hrefAt c.href] ⟨#[]⟩ []]) rfl (Wk.nd1 (Wk.sl _ [eA (hrefAt c.href)]) (Wk.nils _)) x_nf ?_
      refine x_op ?_
      refine x_op ?_
      refine il_nil ?_
      exact ⟨rfl, loosew_mk (t' := (wraps_t c 1 0).set 4 .junk) (by simp only [nf]; repeat (first | exact Wks.nil | refine Wks.cons (Wk.refl _) ?_ | refine Wks.cons (Wk.junk _) ?_)) rfl⟩
    · have hne : c.href = ⟨#[]⟩ := by simpa using hc
      have e1 : wrapsN c 0 = [] := by simp only [wrapsN]; rw [if_pos hne]
      rw [e1]
      refine ic_skip ?_
      exact ⟨rfl, loosew_mk (t' := (wraps_t c 0 0).set 4 .junk) (by simp only [nf]; repeat (first | exact Wks.nil | refine Wks.cons (Wk.refl _) ?_ | refine Wks.cons (Wk.junk _) ?_)) rfl⟩
  rintro w s ⟨rfl, hw⟩
  refine hw.ic ?_
  rintro t rfl
  simp only [wraps_t, nf]
  refine ic_seq ?_
  refine ic_seq ?_
  refine ic_region ?_
  refine x_op ?_
  refine il_nil ?_
  refine ic_block ?_ -- 0
  -- LOOP
  refine ic_loopT (fun m t σ => ∃ i : Nat, i ≤ 4 ∧ m = 4 - i ∧ t = wraps_t c (wrapsN c i).length i ∧ σ = wraps_s c (wrapsN c i)) [] (m := 4) (loose_mk (t' := wraps_t c (wrapsN c 0).length 0) (σ' := wraps_s c (wrapsN c 0)) (τ := []) x_wks rfl (Nat.zero_le _) x_lts marks_nil x_olts ?_) ?_
  · exact ⟨0, Nat.zero_le _, rfl, rfl, rfl⟩
  rintro m t σ ⟨i, hi, rfl, rfl, rfl⟩
  have hlen := wrapsN_len c i
  dsimp only [wraps_t, wraps_s]
  refine ic_seq ?_
  refine ic_seq ?_
  refine ic_region ?_
  refine x_op ?_
  refine x_op ?_
  refine il_nil ?_
  refine ic_cond rfl (fun hc => ?_) (fun hc => ?_) -- t17
  · -- true
    have hil : i < 4 := by have := of_decide_eq_true hc; omega
    refine ic_skip ?_
    refine ic_seq ?_
    refine ic_block ?_ -- 1
    refine ic_seq ?_
    refine ic_region ?_
    refine x_op ?_
    refine x_op ?_
    refine x_op ?_
    refine x_op ?_
    refine x_op ?_
    refine x_op ?_
    refine il_nil ?_
    refine ic_cond rfl (fun hc => ?_) (fun hc => ?_) -- t25
    · -- true
      have e1 : wrapsN c (i + 1) = wrapsN c i ++ [.mk (11 + i) [] ⟨#[]⟩ []] := by simp only [wrapsN]; rw [if_pos (show bitOn c.bits i = true from hc)]
      refine ic_region ?_
      refine x_op ?_
      refine x_op ?_
      refine x_op ?_
      refine x_op ?_
      refine x_op ?_
      refine il_wk1 30 (eNs [.mk (11 + i) [] ⟨#[]⟩ []]) rfl (Wk.nd1 (Wk.nils _) (Wk.nils _)) x_nf ?_
      refine x_op ?_
      refine x_op ?_
      refine il_nil ?_
      refine ic_region ?_
      refine x_op ?_
      refine x_op ?_
      refine x_op ?_
      refine il_nil ?_
      exact ⟨4 - (i + 1), by omega, loose_mk (t' := wraps_t c (wrapsN c (i + 1)).length (i + 1)) (σ' := wraps_s c (wrapsN c (i + 1))) (τ := []) (by rw [e1, List.length_append]; repeat (first | exact Wks.nil | refine Wks.cons (Wk.refl _) ?_ | refine Wks.cons (Wk.junk _) ?_)) (by rw [e1, wraps_s, List.map_append]; rfl) (Nat.zero_le _) x_lts marks_nil x_olts ⟨i + 1, hil, rfl, rfl, rfl⟩⟩ -- round
    · -- false
      have e1 : wrapsN c (i + 1) = wrapsN c i := by simp only [wrapsN]; rw [if_neg (by simpa [bitOn] using hc), List.append_nil]
      refine ic_skip ?_
      refine ic_region ?_
      refine x_op ?_
      refine x_op ?_
      refine x_op ?_
      refine il_nil ?_
      exact ⟨4 - (i + 1), by omega, loose_mk (t' := wraps_t c (wrapsN c (i + 1)).length (i + 1)) (σ' := wraps_s c (wrapsN c (i + 1))) (τ := []) (by rw [e1]; repeat (first | exact Wks.nil | refine Wks.cons (Wk.refl _) ?_ | refine Wks.cons (Wk.junk _) ?_)) (by rw [e1]; rfl) (Nat.zero_le _) x_lts marks_nil x_olts ⟨i + 1, hil, rfl, rfl, rfl⟩⟩ -- round
  · -- false
    refine ic_exit ?_ -- 0
    obtain rfl : i = 4 := by have := of_decide_eq_false hc; omega
    refine ic_seq ?_
    refine ic_region ?_
    refine x_op ?_
    refine x_op ?_
    refine il_nil ?_
    refine ic_freeze 2 rfl rfl (by simp) ?_
    refine ic_ret ?_
    repeat (first | with_reducible refine it_ret ?_ | with_reducible refine ib_ret ?_)
    exact ⟨rfl, _, ires_tmp Tryz.results64 x_le, rfl⟩
end Go.Proofs.YtokbhcnomffopaaGreatDoor
end

section
/- The contracts of the document's answer for rows (ref19): grow, Put, behind. -/
set_option linter.unusedVariables false
set_option linter.unusedSimpArgs false
set_option maxHeartbeats 4000000
namespace Go.Proofs.YtokbhcnomffopaaGreatDoor
open Go Go.QL

theorem snoc_get (init : List Nd) (x : Nd) : ((init ++ [x]).map eN)[(((init ++ [x]).length : Int) - 1).toNat]? = some (eN x) := by
  rw [List.length_append, show (((init.length + [x].length : Nat) : Int) - 1).toNat = init.length by simp, List.map_append, List.getElem?_append_right (by simp)]
  simp
theorem snoc_set (init : List Nd) (x y : Nd) : ((init ++ [x]).map eN).set (((init ++ [x]).length : Int) - 1).toNat (eN y) = (init ++ [y]).map eN := by
  rw [List.length_append, show (((init.length + [x].length : Nat) : Int) - 1).toNat = init.length by simp, List.map_append, List.set_append_right _ _ (by simp)]
  simp
theorem deep_at {d : Nat} {l : List Nd} (h : Deep d l) : ∃ init x, l = init ++ [x] ∧ 0 < l.length ∧ (l.map eN)[((l.length : Int) - 1).toNat]? = some (eN x) ∧ ∀ y, (l.map eN).set ((l.length : Int) - 1).toNat (eN y) = (init ++ [y]).map eN := by
  obtain ⟨init, x, rfl⟩ := h.snoc
  exact ⟨init, x, rfl, by simp, snoc_get init x, snoc_set init x⟩
theorem grow_calls : ∀ (d : Nat) (l : List Nd) (c : Int) (f : Bool), Deep d l → d ≤ 1000 → szl l ≤ 4294967296 → tbl l ≤ 1099511627776 → ICalls Tryz.prog 65 [.sl f (l.map eN), .int .i64 d, .int .i32 c] [] (fun u _ => u = eNs (growR d l c)) := by
  intro d
  induction d with
  | zero =>
    intro l c f hd _ hsz htb
    obtain ⟨init, x, he, hpos, hix, hset⟩ := deep_at hd
    have hlen := szl_len l
    have hxt : x.text.size ≤ 1099511627776 := by rw [he, tbl_append] at htb; simp only [tbl, Nd.tb_eq] at htb; omega
    have hsb : (strOf [c]).size ≤ 4 := runesBytes_size_le [c]
    have hset1 := hset (.mk x.tag x.attrs (x.text ++ strOf [c]) x.kids)
    rw [← eN_mk] at hset1
    rw [show growR 0 l c = init ++ [.mk x.tag x.attrs (x.text ++ strOf [c]) x.kids] by rw [he, growR_0]]
    refine x_enter Tryz.func65 Tryz.ntmps65 ?_
    refine ic_seq ?_
    refine ic_region ?_
    refine x_op ?_
    refine il_nil ?_
    refine ic_seq ?_
    refine ic_region ?_
    refine x_op ?_
    refine x_op ?_
    refine x_op ?_
    refine x_op ?_
    refine il_nil ?_
    refine ic_seq ?_
    refine ic_region ?_
    refine x_op ?_
    refine x_op ?_
    refine x_op ?_
    refine x_op ?_
    refine x_op ?_
    refine x_op ?_
    refine x_op ?_
    refine x_op ?_
    refine il_nil ?_
    refine ic_seq ?_
    refine ic_seq ?_
    refine ic_region ?_
    refine x_op ?_
    refine x_op ?_
    refine il_nil ?_
    refine ic_cond rfl (fun hc => ?_) (fun hc => ?_) -- t19
    · simp at hc
    refine ic_region ?_
    refine x_op ?_
    refine x_op ?_
    refine x_op ?_
    refine x_op ?_
    refine x_op (h := by exact op_strOf (l := [c]) SlC.h StrC.h IntC.h rfl rfl) ?_
    refine x_op ?_
    refine x_op ?_
    refine x_op ?_
    refine il_nil ?_
    refine ic_seq ?_
    refine ic_region ?_
    refine x_op ?_
    refine x_op ?_
    refine x_op ?_
    refine x_op ?_
    refine x_op ?_
    refine x_op ?_
    refine x_op ?_
    refine il_nil ?_
    simp only [hset1]
    refine ic_seq ?_
    refine ic_region ?_
    refine x_op ?_
    refine x_op ?_
    refine il_nil ?_
    refine ic_freeze 6 rfl rfl (by simp [he]) ?_
    refine ic_ret ?_
    repeat (first | with_reducible refine it_ret ?_ | with_reducible refine ib_ret ?_)
    exact x_res1 Tryz.results65 rfl
  | succ d ih =>
    intro l c f hd hdd hsz htb
    obtain ⟨init, x, he, hpos, hix, hset⟩ := deep_at hd
    have hlen := szl_len l
    have hdx : Deep d x.kids := by
      obtain ⟨i2, x2, e2, h2⟩ := hd
      rw [he] at e2
      obtain ⟨_, e3⟩ := List.append_inj' e2 rfl
      cases e3
      exact h2
    have hxs : szl x.kids ≤ 4294967296 := by rw [he, szl_append] at hsz; simp only [szl, Nd.sz_eq] at hsz; omega
    have hxt : tbl x.kids ≤ 1099511627776 := by rw [he, tbl_append] at htb; simp only [tbl, Nd.tb_eq] at htb; omega
    have hset1 := hset (.mk x.tag x.attrs x.text (growR d x.kids c))
    rw [← eN_mk] at hset1
    rw [show growR (d + 1) l c = init ++ [.mk x.tag x.attrs x.text (growR d x.kids c)] by rw [he, growR_S]]
    refine x_enter Tryz.func65 Tryz.ntmps65 ?_
    refine ic_seq ?_
    refine ic_region ?_
    refine x_op ?_
    refine il_nil ?_
    refine ic_seq ?_
    refine ic_region ?_
    refine x_op ?_
    refine x_op ?_
    refine x_op ?_
    refine x_op ?_
    refine il_nil ?_
    refine ic_seq ?_
    refine ic_region ?_
    refine x_op ?_
    refine x_op ?_
    refine x_op ?_
    refine x_op ?_
    refine x_op ?_
    refine x_op ?_
    refine x_op ?_
    refine x_op ?_
    refine il_nil ?_
    refine ic_seq ?_
    refine ic_seq ?_
    refine ic_region ?_
    refine x_op ?_
    refine x_op ?_
    refine il_nil ?_
    refine ic_cond rfl (fun hc => ?_) (fun hc => ?_) -- t19
    · refine ic_region ?_
      refine x_op ?_
      refine x_op ?_
      refine x_op ?_
      refine x_op ?_
      refine x_op ?_
      rw [show ((d + 1 : Nat) : Int) - 1 = (d : Int) by omega]
      refine x_cv (ih x.kids c false hdx (by omega) hxs hxt) ?_
      refine x_op ?_
      refine x_op ?_
      refine il_nil ?_
      refine ic_seq ?_
      refine ic_region ?_
      refine x_op ?_
      refine x_op ?_
      refine x_op ?_
      refine x_op ?_
      refine x_op ?_
      refine x_op ?_
      refine x_op ?_
      refine il_nil ?_
      simp only [hset1]
      refine ic_seq ?_
      refine ic_region ?_
      refine x_op ?_
      refine x_op ?_
      refine il_nil ?_
      refine ic_freeze 6 rfl rfl (by simp [he]) ?_
      refine ic_ret ?_
      repeat (first | with_reducible refine it_ret ?_ | with_reducible refine ib_ret ?_)
      exact x_res1 Tryz.results65 rfl
    · simp at hc
end Go.Proofs.YtokbhcnomffopaaGreatDoor
end

section
/- The contracts of the document's answer for rows (ref19): Put, behind. -/
set_option linter.unusedVariables false
set_option linter.unusedSimpArgs false
set_option maxHeartbeats 4000000
namespace Go.Proofs.YtokbhcnomffopaaGreatDoor
open Go Go.QL

theorem nest_drop (a : List Nd) (leaf : Nd) (i j : Nat) (h : i < a.length) (hj : i + 1 = j) : (nest (a.drop i) leaf).tag = a[i].tag ∧ (nest (a.drop i) leaf).attrs = a[i].attrs ∧ (nest (a.drop i) leaf).text = a[i].text ∧ (nest (a.drop i) leaf).kids = [nest (a.drop j) leaf] := by
  subst hj
  rw [List.drop_eq_getElem_cons h]; exact ⟨rfl, rfl, rfl, rfl⟩
theorem put_calls : ∀ (s : Nat) (l a : List Nd) (leaf : Nd) (f g : Bool), Shares s l → s ≤ a.length → szl l ≤ 1073741824 → szl a ≤ 1073741824 → ICalls Tryz.prog 59 [.sl f (l.map eN), .sl g (a.map eN), eN leaf, .int .i64 s] [] (fun u _ => u = eNs (putR s l a leaf)) := by
  intro s
  induction s with
  | zero =>
    intro l a leaf f g hs hl hz hza
    have hlen := szl_len l
    have hlen2 := szl_len a
    refine x_enter Tryz.func59 Tryz.ntmps59 ?_
    refine ic_seq ?_
    refine ic_region ?_
    refine x_op ?_
    refine x_op ?_
    refine il_nil ?_
    refine ic_seq ?_
    refine ic_seq ?_
    refine ic_region ?_
    refine x_op ?_
    refine x_op ?_
    refine il_nil ?_
    refine ic_cond rfl (fun hc => ?_) (fun hc => ?_) -- t14
    · simp at hc
    refine ic_skip ?_
    refine ic_seq ?_
    refine ic_seq ?_
    refine ic_region ?_
    refine x_op ?_
    refine x_op ?_
    refine x_op ?_
    refine x_op ?_
    refine il_nil ?_
    refine ic_block ?_ -- 0
    refine x_loop [11] [12, 43, 44, 45, 46, 47, 48, 49, 50, 51, 52, 53, 54] (fun m vs σ => m ≤ a.length ∧ vs = [.int .i64 ((m : Int) - 1)] ∧ σ = [.box 35 (ndc (nest (a.drop m) leaf))]) (m := a.length) ⟨Nat.le_refl _, rfl, by rw [List.drop_length]⟩ ?_
    rintro m vs σ ⟨hm, rfl, rfl⟩
    simp only [sets, nf, ndc]
    refine ic_seq ?_
    refine ic_seq ?_
    refine ic_region ?_
    refine x_op ?_
    refine x_op ?_
    refine il_nil ?_
    refine ic_cond rfl (fun hc => ?_) (fun hc => ?_) -- t44
    · -- true
      have hm0 : 0 < m := by have := of_decide_eq_true hc; omega
      have hix : (a.map eN)[((m : Int) - 1).toNat]? = some (eN a[m - 1]) := by
        rw [show ((m : Int) - 1).toNat = m - 1 by omega, List.getElem?_map, List.getElem?_eq_getElem (by omega)]; rfl
      obtain ⟨hn1, hn2, hn3, hn4⟩ := nest_drop a leaf (m - 1) m (by omega) (by omega)
      refine ic_skip ?_
      refine ic_seq ?_
      refine ic_block ?_ -- 1
      refine ic_seq ?_
      refine ic_region ?_
      refine x_op ?_
      refine x_op ?_
      refine x_op ?_
      refine x_op ?_
      refine x_op ?_
      refine x_op ?_
      refine il_nil ?_
      refine ic_seq ?_
      refine ic_region ?_
      refine x_op ?_
      refine x_op ?_
      refine x_op ?_
      refine x_op ?_
      refine il_nil ?_
      refine ic_region ?_
      refine x_op ?_
      refine x_op ?_
      refine il_nil ?_
      refine ic_region ?_
      refine x_op ?_
      refine x_op ?_
      refine x_op ?_
      refine il_nil ?_
      rw [show (m : Int) - 1 - 1 = ((m - 1 : Nat) : Int) - 1 by omega]
      simp only [← hn1, ← hn2, ← hn3]
      have hk : Wk (.sl true [eN (nest (a.drop m) leaf)]) (eNs (nest (a.drop (m - 1)) leaf).kids) := by rw [hn4]; exact Wk.sl _ _
      exact x_next (m - 1) ⟨by omega, rfl, rfl⟩ (by omega)
    · -- false
      obtain rfl : m = 0 := by have := of_decide_eq_false hc; omega
      refine ic_exit ?_ -- 0
      refine x_mid [8] [55, 56, 57, 58, 59, 60] (fun vs σ => vs = [.row 1 (l.length + 1)] ∧ σ = [.box 35 (ndc (nest a leaf)), .row 35 4 ((l ++ [nest a leaf]).map eN)]) ?_ ?_
      · refine ic_draws [0, 1, 3, 4] (by kernel_rfl) rfl rfl ?_ -- of 7
        refine q_op ?_
        refine q_op ?_
        refine q_op ?_
        refine q_op ?_
        refine iq_nil ?_
        refine s_opr 2 ?_ ?_ -- append
        ·
          refine q_op ?_
          refine q_op ?_
          refine q_op ?_
          refine q_op ?_
          refine iq_nil ?_
          rfl
        refine s_op 5 ?_ -- append
        refine s_op 6 ?_ -- assign
        refine s_done ?_
        exact x_here ⟨rfl, rfl⟩
      rintro vs σ ⟨rfl, rfl⟩
      simp only [sets, nf]
      refine ic_freeze 8 rfl rfl (by simp) ?_
      refine ic_ret ?_
      repeat (first | with_reducible refine it_ret ?_ | with_reducible refine ib_ret ?_)
      exact x_res1 Tryz.results59 rfl
  | succ s ih =>
    intro l a leaf f g hs hl hz hza
    have hlen := szl_len l
    have hlen2 := szl_len a
    obtain ⟨init, x, he⟩ := hs.snoc
    obtain ⟨b, ar, hae⟩ : ∃ b ar, a = b :: ar := by cases a with
      | nil => simp at hl
      | cons b ar => exact ⟨b, ar, rfl⟩
    have hpos : 0 < l.length := by simp [he]
    have hix : (l.map eN)[((l.length : Int) - 1).toNat]? = some (eN x) := by rw [he]; exact snoc_get init x
    have hset : ∀ y, (l.map eN).set ((l.length : Int) - 1).toNat (eN y) = (init ++ [y]).map eN := by rw [he]; exact snoc_set init x
    have hsk : Shares s x.kids := by rw [he] at hs; exact hs.kids
    have hzk : szl x.kids ≤ 1073741824 := by rw [he, szl_append] at hz; simp only [szl, Nd.sz_eq] at hz; omega
    have hza2 : szl ar ≤ 1073741824 := by rw [hae] at hza; simp only [szl] at hza; omega
    have hl2 : s ≤ ar.length := by rw [hae] at hl; simp at hl; omega
    have hset1 := hset (.mk x.tag x.attrs x.text (putR s x.kids ar leaf))
    rw [← eN_mk] at hset1
    have hdr : (a.map eN).drop (1 : Int).toNat = ar.map eN := by rw [hae]; rfl
    have hla : 1 ≤ a.length := by rw [hae]; simp
    rw [show putR (s + 1) l a leaf = init ++ [.mk x.tag x.attrs x.text (putR s x.kids ar leaf)] by rw [he, putR_S, hae]; rfl]
    refine x_enter Tryz.func59 Tryz.ntmps59 ?_
    refine ic_seq ?_
    refine ic_region ?_
    refine x_op ?_
    refine x_op ?_
    refine il_nil ?_
    refine ic_seq ?_
    refine ic_seq ?_
    refine ic_region ?_
    refine x_op ?_
    refine x_op ?_
    refine il_nil ?_
    refine ic_cond rfl (fun hc => ?_) (fun hc => ?_) -- t14
    · -- true
      refine ic_seq ?_
      refine ic_region ?_
      refine x_op ?_
      refine x_op ?_
      refine x_op ?_
      refine x_op ?_
      refine il_nil ?_
      refine ic_seq ?_
      refine ic_region ?_
      refine x_op ?_
      refine x_op ?_
      refine x_op ?_
      refine x_op ?_
      refine x_op ?_
      refine x_op ?_
      refine x_op ?_
      refine x_op ?_
      refine il_nil ?_
      refine ic_seq ?_
      refine ic_drawq 9 (by kernel_rfl) rfl rfl ?_
      refine q_op ?_
      refine q_op ?_
      refine q_op ?_
      refine q_op ?_
      refine q_op ?_
      refine q_op ?_
      refine q_op ?_
      rw [show ((s + 1 : Nat) : Int) - 1 = (s : Int) by omega]
      simp only [hdr]
      refine q_cv (ih x.kids ar leaf false false hsk hl2 hzk hza2) ?_
      refine q_op ?_
      refine iq_nil ?_
      refine d_op 9 ?_
      refine d_done ?_
      refine ic_seq ?_
      refine ic_region ?_
      refine x_op ?_
      refine x_op ?_
      refine x_op ?_
      refine x_op ?_
      refine x_op ?_
      refine x_op ?_
      refine x_op ?_
      refine il_nil ?_
      simp only [hset1]
      refine ic_seq ?_
      refine ic_region ?_
      refine x_op ?_
      refine x_op ?_
      refine il_nil ?_
      refine ic_freeze 8 rfl rfl (by simp [he]) ?_
      refine ic_ret ?_
      repeat (first | with_reducible refine it_ret ?_ | with_reducible refine ib_ret ?_)
      exact x_res1 Tryz.results59 rfl
    · simp at hc
end Go.Proofs.YtokbhcnomffopaaGreatDoor
end

section
/- The contract of ref19.behind. -/
set_option linter.unusedVariables false
set_option linter.unusedSimpArgs false
set_option maxHeartbeats 4000000
namespace Go.Proofs.YtokbhcnomffopaaGreatDoor
open Go Go.QL

theorem behind_calls (l : List Nd) (d : Nat) (f : Bool) (hd : Deep d l) (hdd : d ≤ 1000) (hz : szl l ≤ 1073741824) (ht : tbl l ≤ 1099511627776) : ICalls Tryz.prog 66 [.sl f (l.map eN), .int .i64 d] [] (fun u _ => u = ePt (behindR d l)) := by
  rw [behindR_eq d l hd]
  refine x_enter Tryz.func66 Tryz.ntmps66 ?_
  refine ic_seq ?_
  refine ic_region ?_
  refine x_op ?_
  refine il_nil ?_
  refine ic_seq ?_
  refine ic_region ?_
  refine x_op ?_
  refine il_nil ?_
  refine ic_row0 1 0 TB_int 1 rfl rfl rfl x_nf ?_
  refine ic_seq ?_
  refine ic_seq ?_
  refine ic_region ?_
  refine x_op ?_
  refine il_nil ?_
  refine ic_block ?_ -- 0
  refine x_loop [0, 6] [8, 9, 10, 11, 12, 13, 14, 15, 16, 17, 18, 19, 20, 21, 22, 23, 24, 25, 26, 27] (fun m vs σ => ∃ i : Nat, i ≤ d ∧ m = d - i ∧ vs = [eNs (rsp i l).2, .int .i64 i] ∧ σ = [.box 45 [.nils, .int .i64 0], .box 45 [.row 2 (rsp i l).1.length, .int .i64 0], .row TB_int 1 ((rsp i l).1.map eI)]) ⟨0, Nat.zero_le _, rfl, rfl, rfl⟩ ?_
  rintro m vs σ ⟨i, hi, rfl, rfl, rfl⟩
  simp only [sets, nf]
  have hsl := rsp_len i l
  obtain ⟨init, x, hsi, hss⟩ := rsp_succ i l (hd.le hi)
  have hpos : 0 < (rsp i l).2.length := by rw [hsi]; simp
  have hix : ((rsp i l).2.map eN)[(((rsp i l).2.length : Int) - 1).toNat]? = some (eN x) := by rw [hsi]; exact snoc_get init x
  have hszs : (rsp i l).2.length ≤ 1073741824 := by have := szl_len (rsp i l).2; have := rsp_szl i l; omega
  refine ic_seq ?_
  refine ic_seq ?_
  refine ic_region ?_
  refine x_op ?_
  refine x_op ?_
  refine x_op ?_
  refine il_nil ?_
  refine ic_cond rfl (fun hc => ?_) (fun hc => ?_) -- t10
  · -- true
    have hil : i < d := by have := of_decide_eq_true hc; omega
    refine ic_skip ?_
    refine ic_seq ?_
    refine ic_block ?_ -- 1
    refine ic_seq ?_
    refine ic_region ?_
    refine x_op ?_
    refine x_op ?_
    refine x_op ?_
    refine x_op ?_
    refine x_op ?_
    refine x_op ?_
    refine x_op ?_
    refine x_op ?_
    refine x_op ?_
    refine il_nil ?_
    refine ic_region ?_
    refine x_op ?_
    refine x_op ?_
    refine x_op ?_
    refine x_op ?_
    refine x_op ?_
    refine x_op ?_
    refine x_op ?_
    refine x_op ?_
    refine il_nil ?_
    refine ic_region ?_
    refine x_op ?_
    refine x_op ?_
    refine x_op ?_
    refine il_nil ?_
    have e1 : (rsp (i + 1) l).1 = (rsp i l).1 ++ [((rsp i l).2.length : Int) - 1] := by rw [hss]
    have e2 : (rsp (i + 1) l).2 = x.kids := by rw [hss]
    rw [← e2]
    have e3 : (rsp i l).1.map eI ++ [IV.int .i64 (((rsp i l).2.length : Int) - 1)] = (rsp (i + 1) l).1.map eI := by rw [e1, List.map_append]; rfl
    have e4 : (rsp i l).1.length + 1 = (rsp (i + 1) l).1.length := by rw [e1]; simp
    simp only [e3, e4]
    exact x_next (d - (i + 1)) ⟨i + 1, hil, rfl, rfl, rfl⟩ (by omega) -- round
  · -- false
    obtain rfl : i = d := by have := of_decide_eq_false hc; omega
    refine ic_exit ?_ -- 0
    refine ic_seq ?_
    refine ic_region ?_
    refine x_op ?_
    refine x_op ?_
    refine x_op ?_
    refine x_op ?_
    refine x_op ?_
    refine x_op ?_
    refine x_op ?_
    refine x_op ?_
    refine il_nil ?_
    refine ic_seq ?_
    refine ic_seq ?_
    refine ic_region ?_
    refine x_op ?_
    refine x_op ?_
    refine x_op ?_
    refine il_nil ?_
    refine ic_cond rfl (fun hc => ?_) (fun hc => ?_) -- t36
    · -- true
      have hx := of_decide_eq_true hc
      have hb : behindR 0 (rsp i l).2 = ⟨[], (rsp i l).2.length⟩ := by rw [hsi, behindR]; simp [hx]
      have hfin : ePt ⟨(rsp i l).1 ++ (behindR 0 (rsp i l).2).path, (behindR 0 (rsp i l).2).at_⟩ = ePt ⟨(rsp i l).1, (rsp i l).2.length⟩ := by rw [hb, List.append_nil]
      rw [hfin]
      refine ic_seq ?_
      refine ic_region ?_
      refine x_op ?_
      refine x_op ?_
      refine x_op ?_
      refine x_op ?_
      refine il_nil ?_
      refine ic_frow 2 ?_
      refine ic_seq ?_
      refine ic_region ?_
      refine x_op ?_
      refine x_op ?_
      refine il_nil ?_
      refine ic_ret ?_
      repeat (first | with_reducible refine it_ret ?_ | with_reducible refine ib_ret ?_)
      exact x_res1 Tryz.results66 rfl
    · -- false
      have hx := of_decide_eq_false hc
      have hb : behindR 0 (rsp i l).2 = ⟨[((rsp i l).2.length : Int) - 1], (runesL x.text).length⟩ := by rw [hsi, behindR]; simp [hx]
      have hfin : ePt ⟨(rsp i l).1 ++ (behindR 0 (rsp i l).2).path, (behindR 0 (rsp i l).2).at_⟩ = ePt ⟨(rsp i l).1 ++ [((rsp i l).2.length : Int) - 1], (runesL x.text).length⟩ := by rw [hb]
      rw [hfin]
      have hrl : (runesL x.text).length ≤ 70368744177664 := by
        have h1 := runesL_length x.text
        have h2 := rsp_tbl i l
        rw [hsi, tbl_append] at h2
        simp only [tbl, Nd.tb_eq x] at h2
        omega
      refine ic_skip ?_
      refine ic_seq ?_
      refine ic_region ?_
      refine x_op ?_
      refine x_op ?_
      refine x_op ?_
      refine x_op ?_
      refine x_op ?_
      refine x_op ?_
      refine x_op ?_
      refine x_op ?_
      refine x_op ?_
      refine il_nil ?_
      refine ic_seq ?_
      refine ic_region ?_
      refine x_op ?_
      refine x_op ?_
      refine x_op ?_
      refine x_op ?_
      refine x_op ?_
      refine x_op ?_
      refine il_nil ?_
      have hm : (rsp i l).1.map eI ++ [IV.int .i64 (((rsp i l).2.length : Int) - 1)] = ((rsp i l).1 ++ [((rsp i l).2.length : Int) - 1]).map eI := by rw [List.map_append]; rfl
      have hl2 : (rsp i l).1.length + 1 = ((rsp i l).1 ++ [((rsp i l).2.length : Int) - 1]).length := by simp
      simp only [hm, hl2]
      refine ic_frow 2 ?_
      refine ic_seq ?_
      refine ic_region ?_
      refine x_op ?_
      refine x_op ?_
      refine il_nil ?_
      refine ic_ret ?_
      repeat (first | with_reducible refine it_ret ?_ | with_reducible refine ib_ret ?_)
      exact x_res1 Tryz.results66 rfl
end Go.Proofs.YtokbhcnomffopaaGreatDoor
end

section
/- The contract of ref19.Row. -/
set_option linter.unusedVariables false
set_option linter.unusedSimpArgs false
set_option maxHeartbeats 4000000
namespace Go.Proofs.YtokbhcnomffopaaGreatDoor
open Go Go.QL

theorem row19_calls (l : List Cel) (f : Bool) (hl : l.length ≤ 16777216) : ICalls Tryz.prog 38 [.sl f (l.map eC)] [] (fun u _ => u = .tup [eNs (rowR l), .sl false ((ptsR l).map ePt)]) := by
  refine x_enter Tryz.func38 Tryz.ntmps38 ?_
  refine ic_seq ?_
  refine ic_region ?_
  refine x_op ?_
  refine x_op ?_
  refine il_nil ?_
  refine ic_seq ?_
  refine ic_region ?_
  refine x_op ?_
  refine il_nil ?_
  refine ic_seq ?_
  refine ic_region ?_
  refine x_op ?_
  refine il_nil ?_
  refine ic_row0t 5 45 2 rfl rfl x_nf x_nf ?_
  refine ic_seq ?_
  refine ic_seq ?_
  refine ic_region ?_
  refine x_op ?_
  refine il_nil ?_
  refine ic_block ?_ -- 0
  refine x_loop [4, 5, 6] [7, 8, 9, 10, 11, 12, 13, 14, 15, 16, 17, 18, 19, 20, 21, 22, 23, 24, 25, 26, 27, 28, 29, 30, 31, 32, 33, 34, 35, 36, 37, 38, 39, 40, 41, 42, 43, 44, 45, 46, 47, 48, 49, 50, 51, 52, 53, 54, 55, 56, 57, 58, 59, 60, 61, 62, 63, 64, 65, 66, 67, 68, 69, 70, 71, 72, 73, 74, 75, 76, 77, 78, 79, 80, 81, 82, 83, 84, 85, 86, 87, 88, 89, 90, 91, 92, 93, 94, 95, 96, 97, 98] (fun m vs σ => ∃ i : Nat, i ≤ l.length ∧ m = l.length - i ∧ vs = [eNs (rowN l i), .row 0 (ptsN l i).length, .int .i64 i] ∧ σ = [.row 45 2 ((ptsN l i).map ePt)]) ⟨0, Nat.zero_le _, rfl, rfl, rfl⟩ ?_
  rintro m vs σ ⟨i, hi, rfl, rfl, rfl⟩
  simp only [sets, nf]
  refine ic_seq ?_
  refine ic_seq ?_
  refine ic_region ?_
  refine x_op ?_
  refine x_op ?_
  refine x_op ?_
  refine x_op ?_
  refine il_nil ?_
  refine ic_cond rfl (fun hc => ?_) (fun hc => ?_) -- t12
  · -- true
    have hil : i < l.length := by have := of_decide_eq_true hc; omega
    have hix : (l.map eC)[((i : Nat) : Int).toNat]? = some (eC l[i]) := by simp [hil]
    have hR := row_round l i hil
    have hw := wrapsN_len l[i] 4
    have hwz := wrapsN_szl l[i] 4
    have hpl := ptsN_len l i
    have hsz := hR.sz
    have htb := hR.tb
    have hle := hR.le
    generalize hcc : l[i] = c at hR hw hwz hle hix
    refine ic_skip ?_
    refine ic_seq ?_
    refine ic_block ?_ -- 1
    refine ic_seq ?_
    refine ic_region ?_
    refine x_op ?_
    refine x_op ?_
    refine x_op ?_
    refine x_op ?_
    refine x_cv (wraps_calls c) ?_
    refine x_op ?_
    refine il_nil ?_
    refine ic_seq ?_
    refine ic_region ?_
    refine x_op ?_
    refine il_nil ?_
    refine x_mid [8] [20, 21, 22, 23, 24, 25, 26, 27, 28, 29] (fun vs σ => vs = [.int .i64 (shareC (prevOf l i) c : Nat)] ∧ σ = [.row 45 2 ((ptsN l i).map ePt)]) ?_ ?_
    ·
      refine ic_seq ?_
      refine ic_region ?_
      refine x_op ?_
      refine x_op ?_
      refine il_nil ?_
      refine ic_cond rfl (fun hc => ?_) (fun hc => ?_) -- t21
      · -- true
        have hi0 : 0 < i := by have := of_decide_eq_true hc; omega
        have hpv : prevOf l i = some l[i - 1] := by unfold prevOf; rw [if_neg (by omega)]; exact List.getElem?_eq_getElem (by omega)
        have hixp : (l.map eC)[((i : Int) - 1).toNat]? = some (eC l[i - 1]) := by rw [show ((i : Int) - 1).toNat = i - 1 by omega, List.getElem?_map, List.getElem?_eq_getElem (by omega)]; rfl
        have hwp := wrapsN_len l[i - 1] 4
        refine ic_region ?_
        refine x_op ?_
        refine x_op ?_
        refine x_op ?_
        refine x_op ?_
        refine x_op ?_
        refine x_cv (wraps_calls l[i - 1]) ?_
        refine x_op ?_
        refine x_cv (shared_calls (wrapsR l[i - 1]) (wrapsR c) false false (by simp only [wrapsR]; omega) (fun x hx => by have := szl_mem hx; have := wrapsN_szl l[i - 1] 4; simp only [wrapsR] at *; omega)) ?_
        refine x_op ?_
        refine il_nil ?_
        rw [hpv]
        exact x_here ⟨rfl, rfl⟩
      · -- false
        have hi0 : i = 0 := by have := of_decide_eq_false hc; omega
        have hpv : prevOf l i = none := by unfold prevOf; rw [if_pos hi0]
        rw [hpv]
        refine ic_skip ?_
        exact x_here ⟨rfl, rfl⟩
    rintro vs σ ⟨rfl, rfl⟩
    simp only [sets, nf]
    have heq := hR.eq
    have hdeep := hR.deep
    have hgs : goesOn (prevOf l i) c (shareC (prevOf l i) c) = true → shareC (prevOf l i) c = (wrapsR c).length := by
      cases hpv : prevOf l i with
      | none => intro h; simp [goesOn] at h
      | some p => intro h; exact (goesOn_some h).2.1
    refine x_mid [4] [30, 31, 32, 33, 34, 35, 36, 37, 38, 39, 40, 41, 42, 43, 44, 45, 46, 47, 48, 49, 50, 51, 52, 53, 54, 55, 56, 57, 58, 59, 60, 61, 62, 63, 64, 65, 66, 67, 68, 69, 70, 71, 72, 73, 74, 75, 76, 77, 78, 79, 80, 81, 82, 83, 84, 85, 86, 87, 88, 89, 90, 91] (fun vs σ => vs = [eNs (rowN l (i + 1))] ∧ σ = [.row 45 2 ((ptsN l i).map ePt)]) ?_ ?_
    ·
      refine ic_block ?_ -- 2
      refine ic_seq ?_
      refine ic_region ?_
      refine x_op ?_
      refine x_op ?_
      refine x_op ?_
      refine x_op ?_
      refine x_op ?_
      refine x_op ?_
      refine x_op ?_
      refine il_nil ?_
      refine ic_cond rfl (fun hc => ?_) (fun hc => ?_) -- t42
      · -- true
        have hr : c.r = 10 := of_decide_eq_true hc
        have heq2 : rowN l (i + 1) = putR (shareC (prevOf l i) c) (rowN l i) (wrapsR c) brN := by rw [heq]; unfold rowStepS; rw [if_pos hr]
        rw [heq2]
        refine ic_region ?_
        refine x_op ?_
        refine x_op ?_
        refine x_op ?_
        refine il_wk1 51 (eN brN) rfl (Wk.nd (Wk.nils _) (Wk.nils _)) x_nf ?_
        refine x_op ?_
        refine x_cv (put_calls (shareC (prevOf l i) c) (rowN l i) (wrapsR c) brN false false hR.shares hle (by omega) (by simp only [wrapsR]; omega)) ?_
        refine x_op ?_
        refine il_nil ?_
        exact x_here ⟨rfl, rfl⟩
      · -- false
        have hr : ¬ c.r = 10 := of_decide_eq_false hc
        refine x_mid [54] [30, 31, 32, 33, 34, 35, 36, 37, 38, 39, 40, 41, 42, 43, 44, 45, 46, 47, 48, 49, 50, 51, 52, 53, 55, 56, 57, 58, 59, 60, 61, 62, 63, 64, 65, 66, 67, 68, 69, 70, 71, 72, 73, 74, 75, 76, 77, 78, 79, 80, 81, 82, 83, 84, 85, 86, 87, 88, 89, 90, 91] (fun vs σ => vs = [.bool (goesOn (prevOf l i) c (shareC (prevOf l i) c))] ∧ σ = [.row 45 2 ((ptsN l i).map ePt)]) ?_ ?_
        · refine ic_region ?_
          refine x_op ?_
          refine x_op ?_
          refine x_op ?_
          rcases Nat.eq_zero_or_pos i with hi0 | hi0
          · have hpv : prevOf l i = none := by unfold prevOf; rw [if_pos hi0]
            have d1 : decide ((0 : Int) < (i : Int)) = false := by simp [hi0]
            rw [hpv]
            simp only [d1]
            refine n_op ?_
            refine n_op ?_
            refine n_op ?_
            refine n_op ?_
            refine n_op ?_
            refine n_op ?_
            refine n_op ?_
            refine x_op ?_
            refine x_op ?_
            refine n_op ?_
            refine n_op ?_
            refine n_op ?_
            refine n_op ?_
            refine x_op ?_
            refine x_op ?_
            refine n_op ?_
            refine n_op ?_
            refine n_op ?_
            refine n_op ?_
            refine n_op ?_
            refine n_op ?_
            refine n_op ?_
            refine n_op ?_
            refine n_op ?_
            refine x_op ?_
            refine x_op ?_
            refine il_nil ?_
            exact x_here ⟨rfl, rfl⟩
          · have hpv : prevOf l i = some l[i - 1] := by unfold prevOf; rw [if_neg (by omega)]; exact List.getElem?_eq_getElem (by omega)
            have hixp : (l.map eC)[((i : Int) - 1).toNat]? = some (eC l[i - 1]) := by rw [show ((i : Int) - 1).toNat = i - 1 by omega, List.getElem?_map, List.getElem?_eq_getElem (by omega)]; rfl
            have d1 : decide ((0 : Int) < (i : Int)) = true := decide_eq_true (by omega)
            rw [hpv]
            generalize hp : l[i - 1] = p at hixp
            generalize hsh : shareC (some p) c = s
            simp only [d1]
            refine y_op ?_
            refine y_op ?_
            refine y_op ?_
            refine y_op ?_
            refine y_op ?_
            refine y_op ?_
            refine y_op ?_
            refine x_op ?_
            refine x_op ?_
            rcases Bool.eq_false_or_eq_true (!decide (p.r = 10)) with h1 | h1
            · simp only [h1]
              refine y_op ?_
              refine y_op ?_
              refine y_op ?_
              refine y_op ?_
              refine x_op ?_
              refine x_op ?_
              rcases Bool.eq_false_or_eq_true (decide ((s : Int) = ((wrapsR c).length : Int))) with h2 | h2
              · simp only [h2]
                refine y_op ?_
                refine y_op ?_
                refine y_op ?_
                refine y_op ?_
                refine y_op ?_
                refine y_op ?_
                refine y_cv (wraps_calls p) ?_
                refine y_op ?_
                refine y_op ?_
                refine x_op ?_
                refine x_op ?_
                refine il_nil ?_
                have e3 : goesOn (some p) c s = decide ((s : Int) = ((wrapsR p).length : Int)) := by
                  have h2' := of_decide_eq_true h2
                  simp only [goesOn, h1, Bool.true_and]
                  rw [show decide (s = (wrapsR c).length) = true from decide_eq_true (by omega), Bool.true_and]
                  exact decide_eq_decide.2 (by omega)
                rw [e3]
                exact x_here ⟨rfl, rfl⟩
              · simp only [h2]
                refine n_op ?_
                refine n_op ?_
                refine n_op ?_
                refine n_op ?_
                refine n_op ?_
                refine n_op ?_
                refine n_op ?_
                refine n_op ?_
                refine n_op ?_
                refine x_op ?_
                refine x_op ?_
                refine il_nil ?_
                have e3 : goesOn (some p) c s = false := by
                  have h2' := of_decide_eq_false h2
                  simp only [goesOn, h1, Bool.true_and]
                  rw [show decide (s = (wrapsR c).length) = false from decide_eq_false (by omega), Bool.false_and]
                rw [e3]
                exact x_here ⟨rfl, rfl⟩
            · simp only [h1]
              refine n_op ?_
              refine n_op ?_
              refine n_op ?_
              refine n_op ?_
              refine x_op ?_
              refine x_op ?_
              refine n_op ?_
              refine n_op ?_
              refine n_op ?_
              refine n_op ?_
              refine n_op ?_
              refine n_op ?_
              refine n_op ?_
              refine n_op ?_
              refine n_op ?_
              refine x_op ?_
              refine x_op ?_
              refine il_nil ?_
              have e3 : goesOn (some p) c s = false := by simp only [goesOn, h1, Bool.false_and]
              rw [e3]
              exact x_here ⟨rfl, rfl⟩
        rintro vs σ ⟨rfl, rfl⟩
        simp only [sets, nf]
        refine ic_cond rfl (fun hc => ?_) (fun hc => ?_) -- t54
        · -- true
          have heq2 : rowN l (i + 1) = growR (wrapsR c).length (rowN l i) c.r := by rw [heq]; unfold rowStepS; rw [if_neg hr, if_pos hc]
          rw [heq2]
          refine ic_region ?_
          refine x_op ?_
          refine x_op ?_
          refine x_op ?_
          refine x_op ?_
          refine x_op ?_
          refine x_op ?_
          refine x_op ?_
          refine x_op ?_
          refine x_cv (grow_calls (wrapsR c).length (rowN l i) c.r false (hdeep hc) (by simp only [wrapsR]; omega) (by omega) (by omega)) ?_
          refine x_op ?_
          refine il_nil ?_
          exact x_here ⟨rfl, rfl⟩
        · -- false
          have heq2 : rowN l (i + 1) = putR (shareC (prevOf l i) c) (rowN l i) (wrapsR c) (chN c.r) := by rw [heq]; unfold rowStepS; rw [if_neg hr, if_neg (by rw [hc]; simp)]
          rw [heq2]
          refine ic_region ?_
          refine x_op ?_
          refine x_op ?_
          refine x_op ?_
          refine x_op ?_
          refine x_op ?_
          refine x_op ?_
          refine x_op ?_
          refine x_op ?_
          refine x_op (h := by exact op_strOf (l := [c.r]) SlC.h StrC.h IntC.h rfl rfl) ?_
          refine x_op ?_
          refine il_wk1 39 (eN (chN c.r)) rfl (Wk.nd (Wk.nils _) (Wk.nils _)) x_nf ?_
          refine x_op ?_
          refine x_cv (put_calls (shareC (prevOf l i) c) (rowN l i) (wrapsR c) (chN c.r) false false hR.shares hle (by omega) (by simp only [wrapsR]; omega)) ?_
          refine x_op ?_
          refine il_nil ?_
          exact x_here ⟨rfl, rfl⟩
    rintro vs σ ⟨rfl, rfl⟩
    simp only [sets, nf]
    have hnx := hR.next
    have hnd := hnx.deep
    have hns := hnx.sz
    have hnt := hnx.tb
    have hpt := hR.pts
    have e1 : (ptsN l i).map ePt ++ [ePt (behindR (wrapsR c).length (rowN l (i + 1)))] = (ptsN l (i + 1)).map ePt := by rw [hpt, List.map_append]; rfl
    have e2 : (ptsN l i).length + 1 = (ptsN l (i + 1)).length := by rw [hpt]; simp
    refine ic_region ?_
    refine x_op ?_
    refine x_op ?_
    refine x_op ?_
    refine x_op ?_
    refine x_cv (behind_calls (rowN l (i + 1)) (wrapsR c).length false hnd (by simp only [wrapsR]; omega) (by omega) (by omega)) ?_
    refine x_op ?_
    refine x_op ?_
    refine x_op ?_
    refine il_nil ?_
    refine ic_region ?_
    refine x_op ?_
    refine x_op ?_
    refine x_op ?_
    refine il_nil ?_
    simp only [e1, e2]
    exact x_next (l.length - (i + 1)) ⟨i + 1, hil, rfl, rfl, rfl⟩ (by omega) -- round
  · -- false
    obtain rfl : i = l.length := by have := of_decide_eq_false hc; omega
    refine ic_exit ?_ -- 0
    refine ic_seq ?_
    refine ic_region ?_
    refine x_op ?_
    refine x_op ?_
    refine x_op ?_
    refine x_op ?_
    refine il_nil ?_
    refine ic_frow 0 ?_
    refine ic_ret ?_
    repeat (first | with_reducible refine it_ret ?_ | with_reducible refine ib_ret ?_)
    exact x_res2 Tryz.results38 rfl
end Go.Proofs.YtokbhcnomffopaaGreatDoor
end

section
/- The contracts of ref07.Is, ref19.Way, boxes, node, hosts. -/
set_option linter.unusedVariables false
set_option linter.unusedSimpArgs false
set_option maxHeartbeats 4000000
namespace Go.Proofs.YtokbhcnomffopaaGreatDoor
open Go Go.QL

theorem is7_calls (d : List Lin) (b : Bool) (p : Pos) : ICalls Tryz.prog 23 [.sl b (d.map eL), eP p] [] (fun u _ => u = .bool (docIsV d p)) := by
  refine x_enter Tryz.func23 Tryz.ntmps23 ?_
  refine ic_seq ?_
  refine ic_region ?_
  refine x_op ?_
  refine x_op ?_
  refine il_nil ?_
  refine ic_seq ?_
  refine x_mid [14] [5, 6, 7, 8, 9, 10, 11, 12, 13] (fun vs σ => vs = [.bool (decide (p.line < 0) || decide ((d.length : Int) ≤ p.line))] ∧ σ = [.box 43 (psc p)]) ?_ ?_
  · refine ic_region ?_
    repeat' (first | refine x_op ?_ | refine n_op ?_ | refine y_op ?_ | refine il_split (fun _ => ?_) (fun _ => ?_) | refine il_nil ?_)
    all_goals exact x_there
  rintro vs σ ⟨rfl, rfl⟩
  simp only [sets, nf, psc]
  refine ic_cond rfl (fun hc => ?_) (fun hc => ?_) -- t14
  · -- true
    have e : docIsV d p = false := by
      simp only [Bool.or_eq_true, decide_eq_true_eq] at hc
      unfold docIsV
      rcases hc with h | h
      · rw [decide_eq_false (show ¬ 0 ≤ p.line by omega)]; rfl
      · rw [decide_eq_false (show ¬ p.line < (d.length : Int) by omega)]; simp
    rw [e]
    refine ic_seq ?_
    refine ic_region ?_
    refine x_op ?_
    refine il_nil ?_
    refine ic_ret ?_
    repeat (first | with_reducible refine it_ret ?_ | with_reducible refine ib_ret ?_)
    exact x_res1 Tryz.results23 rfl
  -- false
  simp only [Bool.or_eq_false_iff, decide_eq_false_iff_not] at hc
  have h0 : 0 ≤ p.line := by omega
  have hil : p.line.toNat < d.length := by omega
  obtain ⟨l, hl⟩ : ∃ l, d[p.line.toNat] = l := ⟨_, rfl⟩
  have hxi : (d.map eL)[p.line.toNat]? = some (eL l) := by simp [hil, hl]
  have hg : d.getD p.line.toNat default = l := by simp [List.getD, hil, hl]
  have e : docIsV d p = (decide (0 ≤ p.at_) && decide (p.at_ ≤ (l.cells.length : Int))) := by
    unfold docIsV
    rw [hg, decide_eq_true h0, decide_eq_true (show p.line < (d.length : Int) by omega)]
    rfl
  rw [e]
  refine ic_skip ?_
  refine ic_seq ?_
  refine ic_drawq 16 (by kernel_rfl) rfl rfl ?_
  refine q_op ?_
  refine q_op ?_
  refine q_op ?_
  refine q_op ?_
  rcases Bool.eq_false_or_eq_true (decide (p.at_ ≥ 0)) with h3 | h3
  · have h4 : decide (0 ≤ p.at_) = true := h3
    simp only [h3, h4, Bool.true_and]
    refine qy_op ?_
    refine qy_op ?_
    refine qy_op ?_
    refine qy_op ?_
    refine qy_op ?_
    refine qy_op ?_
    refine qy_op ?_
    refine qy_op ?_
    refine qy_op ?_
    refine qy_op ?_
    refine q_op ?_
    refine q_op ?_
    refine iq_nil ?_
    refine d_done ?_
    refine ic_ret ?_
    repeat (first | with_reducible refine it_ret ?_ | with_reducible refine ib_ret ?_)
    exact x_res1 Tryz.results23 rfl
  · have h4 : decide (0 ≤ p.at_) = false := h3
    simp only [h3, h4, Bool.false_and]
    refine qn_op ?_
    refine qn_op ?_
    refine qn_op ?_
    refine qn_op ?_
    refine qn_op ?_
    refine qn_op ?_
    refine qn_op ?_
    refine qn_op ?_
    refine qn_op ?_
    refine qn_op ?_
    refine q_op ?_
    refine q_op ?_
    refine iq_nil ?_
    refine d_done ?_
    refine ic_ret ?_
    repeat (first | with_reducible refine it_ret ?_ | with_reducible refine ib_ret ?_)
    exact x_res1 Tryz.results23 rfl
theorem way19_calls (l : Lin) (hl : l.lists.length ≤ 4294967296) : ICalls Tryz.prog 12 [eL l] [] (fun u _ => u = eIs (wayV l)) := by
  have hq := qN_le l.quote
  have hqi : ∀ i : Nat, (decide ((i : Int) < l.quote) && decide ((i : Int) < 6)) = decide (i < qN l.quote) := fun i => by
    rw [← Bool.decide_and, decide_eq_decide]
    unfold qN
    split <;> split <;> omega
  refine x_enter Tryz.func12 Tryz.ntmps12 ?_
  refine ic_seq ?_
  refine ic_region ?_
  refine x_op ?_
  refine x_op ?_
  refine il_nil ?_
  refine ic_seq ?_
  refine ic_region ?_
  refine x_op ?_
  refine il_nil ?_
  refine ic_row0t 3 3 1 rfl rfl x_nf x_nf ?_
  refine ic_seq ?_
  refine ic_seq ?_
  refine ic_region ?_
  refine x_op ?_
  refine il_nil ?_
  refine ic_block ?_ -- 0
  refine x_loop [3, 4] [6, 7, 8, 9, 10, 11, 12, 13, 14, 15, 16, 17, 18] (fun m vs σ => ∃ i : Nat, i ≤ qN l.quote ∧ m = qN l.quote - i ∧ vs = [.row 1 i, .int .i64 i] ∧ σ = [.box 31 (lnc l), .row 3 1 ((List.replicate i (6 : Int)).map eI)]) ⟨0, Nat.zero_le _, rfl, rfl, rfl⟩ ?_
  rintro m vs σ ⟨i, hi, rfl, rfl, rfl⟩
  simp only [sets, nf, lnc]
  refine ic_seq ?_
  refine x_mid [13] [6, 7, 8, 9, 10, 11, 12] (fun vs σ => vs = [.bool (decide ((i : Int) < l.quote) && decide ((i : Int) < 6))] ∧ σ = [.box 31 (lnc l), .row 3 1 ((List.replicate i (6 : Int)).map eI)]) ?_ ?_
  · refine ic_region ?_
    repeat' (first | refine x_op ?_ | refine n_op ?_ | refine y_op ?_ | refine il_split (fun _ => ?_) (fun _ => ?_) | refine il_nil ?_)
    all_goals exact x_there
  rintro vs σ ⟨rfl, rfl⟩
  simp only [sets, nf, lnc, hqi]
  refine ic_cond rfl (fun hc => ?_) (fun hc => ?_) -- t13
  · -- true
    have hil := of_decide_eq_true hc
    have hri : (List.replicate i (6 : Int)).length = i := List.length_replicate
    refine ic_skip ?_
    refine ic_seq ?_
    refine ic_block ?_ -- 1
    refine ic_region ?_
    refine x_op ?_
    refine x_op ?_
    refine x_op ?_
    refine x_op ?_
    refine il_nil ?_
    refine ic_region ?_
    refine x_op ?_
    refine x_op ?_
    refine x_op ?_
    refine il_nil ?_
    have e1 : (List.replicate i (6 : Int)).map eI ++ [IV.int .i64 6] = (List.replicate (i + 1) (6 : Int)).map eI := by rw [List.replicate_succ', List.map_append]; rfl
    simp only [hri, e1]
    exact x_next (qN l.quote - (i + 1)) ⟨i + 1, by omega, rfl, rfl, rfl⟩ (by omega) -- round
  -- false
  obtain rfl : i = qN l.quote := by have := of_decide_eq_false hc; omega
  clear hqi hi
  refine ic_exit ?_ -- 0
  refine ic_seq ?_
  refine ic_seq ?_
  refine ic_region ?_
  refine x_op ?_
  refine il_nil ?_
  refine ic_block ?_ -- 2
  refine x_loop [3, 5] [4, 6, 7, 8, 9, 10, 11, 12, 13, 14, 15, 16, 17, 18, 19, 20, 21, 22, 23, 24, 25, 26, 27, 28, 29, 30, 31, 32, 33, 34, 35, 36, 37] (fun m vs σ => ∃ (i : Nat) (W : List Int) (n : Nat), i ≤ l.lists.length ∧ W = List.replicate (qN l.quote) 6 ++ (l.lists.take i).map lstTag ∧ n = W.length ∧ m = l.lists.length - i ∧ vs = [.row 1 n, .int .i64 i] ∧ σ = [.box 31 (lnc l), .row 3 1 (W.map eI)]) ⟨0, List.replicate (qN l.quote) 6, qN l.quote, Nat.zero_le _, by simp, by simp, rfl, rfl, rfl⟩ ?_
  rintro m vs σ ⟨i, W, n, hi, hW, rfl, rfl, rfl, rfl⟩
  simp only [sets, nf, lnc]
  refine ic_seq ?_
  refine ic_seq ?_
  refine ic_region ?_
  refine x_op ?_
  refine x_op ?_
  refine x_op ?_
  refine x_op ?_
  refine x_op ?_
  refine il_nil ?_
  refine ic_cond rfl (fun hc => ?_) (fun hc => ?_) -- t23
  · -- true
    have hil : i < l.lists.length := by have := of_decide_eq_true hc; omega
    obtain ⟨k, hk⟩ : ∃ k, l.lists[i] = k := ⟨_, rfl⟩
    have hix : (l.lists.map eI)[((i : Nat) : Int).toNat]? = some (eI k) := by simp [hil, hk]
    have hWl : W.length ≤ 5000000000 := by rw [hW, List.length_append, List.length_replicate, List.length_map, List.length_take]; omega
    have hW2 : W ++ [lstTag k] = List.replicate (qN l.quote) 6 ++ (l.lists.take (i + 1)).map lstTag := by rw [List.take_succ_eq_append_getElem hil, hk, hW, List.map_append]; simp
    clear hW
    refine ic_skip ?_
    refine x_mid [3] [4, 24, 25, 26, 27, 28, 29, 30, 31, 32, 33, 34, 35] (fun vs σ => vs = [.row 1 (W.length + 1)] ∧ σ = [.box 31 (lnc l), .row 3 1 ((W ++ [lstTag k]).map eI)]) ?_ ?_
    ·
      refine ic_block ?_ -- 3
      refine ic_seq ?_
      refine ic_region ?_
      refine x_op ?_
      refine x_op ?_
      refine x_op ?_
      refine x_op ?_
      refine x_op ?_
      refine x_op ?_
      refine il_nil ?_
      refine ic_cond rfl (fun hc => ?_) (fun hc => ?_) -- t31
      · -- true
        have e7 : W.map eI ++ [IV.int .i64 7] = (W ++ [(7 : Int)]).map eI := by rw [List.map_append]; rfl
        have hk0 : lstTag k = 7 := by unfold lstTag; exact if_pos (of_decide_eq_true hc)
        rw [hk0]
        refine ic_region ?_
        refine x_op ?_
        refine x_op ?_
        refine x_op ?_
        refine x_op ?_
        refine il_nil ?_
        simp only [e7]
        exact x_here ⟨rfl, rfl⟩
      · -- false
        have e7 : W.map eI ++ [IV.int .i64 8] = (W ++ [(8 : Int)]).map eI := by rw [List.map_append]; rfl
        have hk0 : lstTag k = 8 := by unfold lstTag; exact if_neg (of_decide_eq_false hc)
        rw [hk0]
        refine ic_region ?_
        refine x_op ?_
        refine x_op ?_
        refine x_op ?_
        refine x_op ?_
        refine il_nil ?_
        simp only [e7]
        exact x_here ⟨rfl, rfl⟩
    rintro vs σ ⟨rfl, rfl⟩
    simp only [sets, nf, lnc]
    refine ic_region ?_
    refine x_op ?_
    refine x_op ?_
    refine x_op ?_
    refine il_nil ?_
    have e2 : W.length + 1 = (W ++ [lstTag k]).length := by rw [List.length_append]; rfl
    simp only [e2]
    exact x_next (l.lists.length - (i + 1)) ⟨i + 1, W ++ [lstTag k], _, by omega, hW2, rfl, rfl, rfl, rfl⟩ (by omega) -- round
  · -- false
    obtain rfl : i = l.lists.length := by have := of_decide_eq_false hc; omega
    rw [List.take_length] at hW
    have hW : W = wayV l := hW
    subst hW
    refine ic_exit ?_ -- 2
    refine ic_frow 1 ?_
    refine ic_seq ?_
    refine ic_region ?_
    refine x_op ?_
    refine x_op ?_
    refine il_nil ?_
    refine ic_ret ?_
    repeat (first | with_reducible refine it_ret ?_ | with_reducible refine ib_ret ?_)
    exact x_res1 Tryz.results12 rfl
theorem boxes19_calls (l : Lin) (hl : l.lists.length ≤ 4294967296) : ICalls Tryz.prog 57 [eL l] [] (fun u _ => u = eNs (boxesR l)) := by
  have hwl := wayV_len l
  have hq := qN_le l.quote
  refine x_enter Tryz.func57 Tryz.ntmps57 ?_
  refine ic_seq ?_
  refine ic_region ?_
  refine x_op ?_
  refine x_op ?_
  refine il_nil ?_
  refine ic_seq ?_
  refine ic_region ?_
  refine x_op ?_
  refine x_cv (way19_calls l hl) ?_
  refine x_op ?_
  refine il_nil ?_
  unfold boxesR
  obtain ⟨W, hW⟩ : ∃ W, wayV l = W := ⟨_, rfl⟩
  rw [hW] at hwl
  simp only [hW]
  refine ic_seq ?_
  refine ic_region ?_
  refine x_op ?_
  refine il_nil ?_
  refine ic_row0t 4 35 4 rfl rfl x_nf x_nf ?_
  refine ic_seq ?_
  refine ic_seq ?_
  refine ic_region ?_
  refine x_op ?_
  refine il_nil ?_
  refine ic_block ?_ -- 0
  refine x_loop [4, 5] [6, 7, 8, 9, 10, 11, 12, 13, 14, 15, 16, 17, 18, 19, 20, 21] (fun m vs σ => ∃ i : Nat, i ≤ W.length ∧ m = W.length - i ∧ vs = [.row 1 i, .int .i64 i] ∧ σ = [.box 31 (lnc l), .row 35 4 (((W.take i).map bx).map eN)]) ⟨0, Nat.zero_le _, rfl, rfl, rfl⟩ ?_
  rintro m vs σ ⟨i, hi, rfl, rfl, rfl⟩
  simp only [sets, nf, lnc]
  refine ic_seq ?_
  refine ic_seq ?_
  refine ic_region ?_
  refine x_op ?_
  refine x_op ?_
  refine x_op ?_
  refine x_op ?_
  refine il_nil ?_
  refine ic_cond rfl (fun hc => ?_) (fun hc => ?_) -- t11
  · -- true
    have hil : i < W.length := by have := of_decide_eq_true hc; omega
    obtain ⟨k, hk⟩ : ∃ k, W[i] = k := ⟨_, rfl⟩
    have hix : (W.map eI)[((i : Nat) : Int).toNat]? = some (eI k) := by simp [hil, hk]
    obtain ⟨B, hB⟩ : ∃ B, (W.take i).map bx = B := ⟨_, rfl⟩
    have hBl : B.length = i := by rw [← hB, List.length_map, List.length_take]; omega
    have hil2 : i ≤ 5000000000 := by omega
    have hB2 : (W.take (i + 1)).map bx = B ++ [bx k] := by rw [List.take_succ_eq_append_getElem hil, hk, ← hB, List.map_append]; rfl
    simp only [hB]
    refine ic_skip ?_
    refine ic_seq ?_
    refine ic_block ?_ -- 1
    refine ic_region ?_
    refine x_op ?_
    refine x_op ?_
    refine x_op ?_
    refine x_op ?_
    refine x_op ?_
    refine x_op ?_
    refine x_op ?_
    refine il_wk1 20 (eNs [bx k]) rfl (Wk.nd1 (Wk.nils _) (Wk.nils _)) x_nf ?_
    refine x_op ?_
    refine x_op ?_
    refine il_nil ?_
    refine ic_region ?_
    refine x_op ?_
    refine x_op ?_
    refine x_op ?_
    refine il_nil ?_
    have e1 : B.map eN ++ [eN (bx k)] = (B ++ [bx k]).map eN := by rw [List.map_append]; rfl
    simp only [hBl, List.map_cons, List.map_nil, e1]
    rw [← hB2]
    exact x_next (W.length - (i + 1)) ⟨i + 1, by omega, rfl, rfl, rfl⟩ (by omega) -- round
  · -- false
    obtain rfl : i = W.length := by have := of_decide_eq_false hc; omega
    rw [List.take_length]
    refine ic_exit ?_ -- 0
    refine ic_frow 1 ?_
    refine ic_seq ?_
    refine ic_region ?_
    refine x_op ?_
    refine x_op ?_
    refine il_nil ?_
    refine ic_ret ?_
    repeat (first | with_reducible refine it_ret ?_ | with_reducible refine ib_ret ?_)
    exact x_res1 Tryz.results57 rfl
end Go.Proofs.YtokbhcnomffopaaGreatDoor
end

section
/- The contracts of ref19.node, hosts. -/
set_option linter.unusedVariables false
set_option linter.unusedSimpArgs false
set_option maxHeartbeats 4000000
namespace Go.Proofs.YtokbhcnomffopaaGreatDoor
open Go Go.QL

theorem node19_calls (l : Lin) (hk : 0 ≤ l.kind ∧ l.kind ≤ 3) (hl : l.cells.length ≤ 16777216) : ICalls Tryz.prog 60 [eL l] [] (fun u _ => u = eN (nodeR l)) := by
  have hd : Dat (.tup [eNs (rowR l.cells), .sl false ((ptsR l.cells).map ePt)]) := Dat.tup (dat_cons (dat_eNs _) (dat_cons (Dat.sl (dat_map dat_ePt _)) dat_nil))
  unfold nodeR
  refine x_enter Tryz.func60 Tryz.ntmps60 ?_
  refine ic_seq ?_
  refine ic_region ?_
  refine x_op ?_
  refine x_op ?_
  refine il_nil ?_
  refine ic_seq ?_
  refine ic_region ?_
  refine x_op ?_
  refine x_op ?_
  refine x_op ?_
  refine x_op ?_
  refine x_op ?_
  refine x_op ?_
  refine il_nil ?_
  refine x_mid [] [4, 5, 6, 7, 8, 9, 10, 11, 12] (fun vs σ => vs = [] ∧ σ = [.box 31 (lnc l), .box 35 [.int .i64 0, .nils, .str ⟨#[]⟩, .nils], .box 35 [.int .i64 (if 0 < l.lists.length then 9 else 2 + l.kind), .nils, .str ⟨#[]⟩, .nils]]) ?_ ?_
  ·
    refine ic_seq ?_
    refine ic_region ?_
    refine x_op ?_
    refine x_op ?_
    refine x_op ?_
    refine x_op ?_
    refine il_nil ?_
    refine ic_cond rfl (fun hc => ?_) (fun hc => ?_) -- t11
    · -- true
      have h0 : 0 < l.lists.length := by have := of_decide_eq_true hc; omega
      rw [if_pos h0]
      refine ic_region ?_
      refine x_op ?_
      refine x_op ?_
      refine il_nil ?_
      exact x_here ⟨rfl, rfl⟩
    · -- false
      have h0 : ¬ 0 < l.lists.length := by have := of_decide_eq_false hc; omega
      rw [if_neg h0]
      refine ic_skip ?_
      exact x_here ⟨rfl, rfl⟩
  rintro vs σ ⟨rfl, rfl⟩
  simp only [sets, nf, lnc]
  refine ic_seq ?_
  refine ic_region ?_
  refine x_op ?_
  refine x_op ?_
  refine x_cv (row19_calls l.cells false hl) ?_ (hu := hd)
  refine x_op ?_
  refine x_op ?_
  refine x_op ?_
  refine x_op ?_
  refine x_op ?_
  refine il_nil ?_
  refine ic_seq ?_
  refine ic_region ?_
  refine x_op ?_
  refine x_op ?_
  refine il_nil ?_
  refine ic_ret ?_
  repeat (first | with_reducible refine it_ret ?_ | with_reducible refine ib_ret ?_)
  exact x_res1 Tryz.results60 rfl (hw := by rw [← eN_mk]; exact Wk.agg x_wks)
theorem szl_bx : ∀ l : List Int, szl (l.map bx) = l.length
  | [] => rfl
  | t :: l => by simp [szl, Nd.sz, bx, szl_bx l]; omega
theorem spcls_shares : ∀ {s : Nat} {l : List Nd}, SpCls s l → Shares s l
  | 0, l, _ => .inl rfl
  | 1, l, h => by
    obtain ⟨i, x, rfl, _, _⟩ := h
    exact .inr (by show (i ++ [x]) ≠ []; simp)
  | s + 2, l, h => by
    obtain ⟨i, x, rfl, _, h2⟩ := h
    rcases spcls_shares (s := s + 1) (l := x.kids) h2 with h3 | h3
    · omega
    · exact .inr ⟨i, x, rfl, h3⟩
/-- What is so from line to line. -/
structure HostRound (d : List Lin) (i : Nat) (l : Lin) : Prop where
  eq : hostsN d (i + 1) = putR (shareL (if i = 0 then none else d[i - 1]?) l) (hostsN d i) (boxesR l) (nodeR l)
  pts : pathsN d (i + 1) = pathsN d i ++ [(rsp ((boxesR l).length + 1) (hostsN d (i + 1))).1]
  shares : Shares (shareL (if i = 0 then none else d[i - 1]?) l) (hostsN d i)
  le : shareL (if i = 0 then none else d[i - 1]?) l ≤ (boxesR l).length
  sz : szl (hostsN d i) ≤ 200000
  deep : Deep (boxesR l).length (hostsN d (i + 1))
theorem host_round {T : Str → Bool} {d : List Lin} (h : docMay T d = true) (i : Nat) (hi : i < d.length) (l : Lin) (hl : d[i] = l) : HostRound d i l := by
  have hd := may_ok h
  obtain ⟨hn, hz, hls⟩ := docMay_len h
  have hH : hostsN d (i + 1) = putR (shareL (if i = 0 then none else d[i - 1]?) l) (hostsN d i) (boxesR l) (nodeR l) := by
    rw [hostsN, List.getElem?_eq_getElem hi, hl]
  have hP : pathsN d (i + 1) = pathsN d i ++ [(rsp ((boxesR l).length + 1) (hostsN d (i + 1))).1] := by
    rw [pathsN, List.getElem?_eq_getElem hi, hl]
  have hsp : SpCls (shareL (if i = 0 then none else d[i - 1]?) l) (hostsN d i) ∧ shareL (if i = 0 then none else d[i - 1]?) l ≤ (boxesR l).length := by
    by_cases h0 : i = 0
    · rw [if_pos h0]; exact ⟨trivial, Nat.zero_le _⟩
    · obtain ⟨p, h1, h2, h3⟩ := take_last d i (by omega) h0
      rw [if_neg h0, h1, hostsN_take d hd i (by omega)]
      have hsh := sharedR_le (boxesR p) (boxesR l)
      refine ⟨nodes_sp 12 0 (d.take i) p _ h2 (fun x hx => by have := (hd x ((List.take_sublist i d).subset hx)).2; omega) ?_, hsh.2⟩
      rw [← boxes_bxs]
      exact hsh.1
  have hsz : szl (hostsN d i) ≤ 200000 := by
    rw [hostsN_take d hd i (by omega)]
    have h1 := nodesV_szl 12 0 (d.take i)
    have h2 := lsz_eq (12 + 2) (d.take i)
    have h3 := dsize_take_le d i
    have h4 : (d.take i).length ≤ d.length := by rw [List.length_take]; omega
    omega
  refine ⟨hH, hP, (spcls_shares hsp.1), hsp.2, hsz, ?_⟩
  rw [hH]
  exact putR_deep _ _ _ _ (spcls_shares hsp.1) hsp.2
theorem hosts19_calls (T : Str → Bool) (d : List Lin) (f : Bool) (hm : docMay T d = true) : ICalls Tryz.prog 31 [.sl f (d.map eL)] [] (fun u _ => u = .tup [eN (.mk 1 [] ⟨#[]⟩ (hostsN d d.length)), .sl false ((pathsN d d.length).map eIs)]) := by
  obtain ⟨hdn, hdz, hdl⟩ := docMay_len hm
  have hok := may_ok hm
  refine x_enter Tryz.func31 Tryz.ntmps31 ?_
  refine ic_seq ?_
  refine ic_region ?_
  refine x_op ?_
  refine x_op ?_
  refine il_nil ?_
  refine ic_seq ?_
  refine ic_region ?_
  refine x_op ?_
  refine il_nil ?_
  refine ic_seq ?_
  refine ic_region ?_
  refine x_op ?_
  refine il_nil ?_
  refine ic_row0t 5 27 1 rfl rfl x_nf x_nf ?_
  refine ic_seq ?_
  refine ic_seq ?_
  refine ic_region ?_
  refine x_op ?_
  refine il_nil ?_
  refine ic_block ?_ -- 0
  refine x_loop [4, 5, 6] [7, 8, 9, 10, 11, 12, 13, 14, 15, 16, 17, 18, 19, 20, 21, 22, 23, 24, 25, 26, 27, 28, 29, 30, 31, 32, 33, 34, 35, 36, 37, 38, 39, 40, 41, 42, 43, 44, 45, 46, 47, 48, 49, 50, 51, 52, 53, 54, 55, 56, 57, 58, 59, 60, 61, 62, 63, 64, 65] (fun m vs σ => ∃ i : Nat, i ≤ d.length ∧ (pathsN d i).length = i ∧ m = d.length - i ∧ vs = [eNs (hostsN d i), .row 1 (pathsN d i).length, .int .i64 i] ∧ σ = [.box 35 [.int .i64 0, .nils, .str ⟨#[]⟩, .nils], .row 27 1 ((pathsN d i).map eIs)]) ⟨0, Nat.zero_le _, rfl, rfl, rfl, rfl⟩ ?_
  rintro m vs σ ⟨i, hi, hpl, rfl, rfl, rfl⟩
  simp only [sets, nf]
  refine ic_seq ?_
  refine ic_seq ?_
  refine ic_region ?_
  refine x_op ?_
  refine x_op ?_
  refine x_op ?_
  refine x_op ?_
  refine il_nil ?_
  refine ic_cond rfl (fun hc => ?_) (fun hc => ?_) -- t15
  · -- true
    have hil : i < d.length := by have := of_decide_eq_true hc; omega
    obtain ⟨l, hll⟩ : ∃ l, d[i] = l := ⟨_, rfl⟩
    have hlm : l ∈ d := hll ▸ List.getElem_mem hil
    have hix : (d.map eL)[((i : Nat) : Int).toNat]? = some (eL l) := by simp [hil, hll]
    have hR := host_round hm i hil l hll
    have hlo := hok l hlm
    have hcl : l.cells.length ≤ 16777216 := by
      have h1 := dsize_take d i hil
      have h2 := dsize_take_le d (i + 1)
      rw [hll] at h1
      omega
    have hbl : (boxesR l).length ≤ 12 := by unfold boxesR; rw [List.length_map]; exact hlo.2
    have hbz : szl (boxesR l) ≤ 12 := by unfold boxesR; rw [szl_bx]; exact hlo.2
    have hlist := hdl l hlm
    have hRsz := hR.sz
    have dpt := dat_map dat_eIs (pathsN d i)
    have hpn := hR.pts
    refine ic_skip ?_
    refine ic_seq ?_
    refine ic_block ?_ -- 1
    refine ic_seq ?_
    refine ic_region ?_
    refine x_op ?_
    refine x_op ?_
    refine x_op ?_
    refine x_op ?_
    refine x_cv (boxes19_calls l (by omega)) ?_
    refine x_op ?_
    refine il_nil ?_
    refine ic_seq ?_
    refine ic_region ?_
    refine x_op ?_
    refine il_nil ?_
    refine x_mid [8] [9, 10, 11, 16, 17, 18, 19, 20, 21, 22, 23, 24, 25, 26, 27, 28, 29, 30, 31, 32] (fun vs σ => vs = [.int .i64 (shareL (if i = 0 then none else d[i - 1]?) l : Nat)] ∧ σ = [.box 35 [.int .i64 0, .nils, .str ⟨#[]⟩, .nils], .row 27 1 ((pathsN d i).map eIs)]) ?_ ?_
    ·
      refine ic_seq ?_
      refine ic_region ?_
      refine x_op ?_
      refine x_op ?_
      refine il_nil ?_
      refine ic_cond rfl (fun hc => ?_) (fun hc => ?_) -- t24
      · -- true
        have h0 : ¬ i = 0 := by have := of_decide_eq_true hc; omega
        obtain ⟨p, h1, h2, h3⟩ := take_last d i (by omega) h0
        have hixp : (d.map eL)[((i : Int) - 1).toNat]? = some (eL p) := by rw [show ((i : Int) - 1).toNat = i - 1 by omega, List.getElem?_map, h1]; rfl
        have hpo := hok p h3
        have hplist := hdl p h3
        have hpb : (boxesR p).length ≤ 12 := by unfold boxesR; rw [List.length_map]; exact hpo.2
        have hpz : szl (boxesR p) ≤ 12 := by unfold boxesR; rw [szl_bx]; exact hpo.2
        rw [if_neg h0, h1, shareL]
        refine ic_region ?_
        refine x_op ?_
        refine x_op ?_
        refine x_op ?_
        refine x_op ?_
        refine x_op ?_
        refine x_cv (boxes19_calls p (by omega)) ?_
        refine x_op ?_
        refine x_cv (shared_calls (boxesR p) (boxesR l) false false (by omega) (fun x hx => by have := szl_mem hx; omega)) ?_
        refine x_op ?_
        refine il_nil ?_
        exact x_here ⟨rfl, rfl⟩
      · -- false
        have h0 : i = 0 := by have := of_decide_eq_false hc; omega
        rw [if_pos h0, shareL]
        refine ic_skip ?_
        exact x_here ⟨rfl, rfl⟩
    rintro vs σ ⟨rfl, rfl⟩
    simp only [sets, nf]
    refine ic_seq ?_
    refine ic_region ?_
    refine x_op ?_
    refine x_op ?_
    refine x_op ?_
    refine x_op ?_
    refine x_op ?_
    refine x_op ?_
    refine x_cv (node19_calls l hlo.1 hcl) ?_
    refine x_op ?_
    refine x_cv (put_calls (shareL (if i = 0 then none else d[i - 1]?) l) (hostsN d i) (boxesR l) (nodeR l) false false hR.shares hR.le (by omega) (by omega)) ?_
    refine x_op ?_
    refine il_nil ?_
    have hdeep := hR.deep
    rw [← hR.eq]
    obtain ⟨H, hH⟩ : ∃ H, hostsN d (i + 1) = H := ⟨_, rfl⟩
    rw [hH] at hdeep
    simp only [hH]
    refine ic_seq ?_
    refine ic_region ?_
    refine x_op ?_
    refine il_nil ?_
    refine ic_row0t 9 3 1 rfl rfl x_nf x_nf ?_
    refine ic_seq ?_
    refine ic_region ?_
    refine x_op ?_
    refine x_op ?_
    refine il_nil ?_
    refine ic_seq ?_
    refine ic_seq ?_
    refine ic_region ?_
    refine x_op ?_
    refine il_nil ?_
    refine ic_block ?_ -- 2
    refine x_loop [9, 10, 11] [8, 12, 13, 14, 15, 16, 17, 18, 19, 20, 21, 22, 23, 24, 25, 26, 27, 28, 29, 30, 31, 32, 33, 34, 35, 36, 37, 38, 39, 40, 41, 42, 43, 44, 45, 46, 47, 48, 49, 50, 51, 52, 53, 54, 55, 56, 57, 58, 59, 60, 61] (fun m vs σ => ∃ (k : Nat) (P : List Int) (S : List Nd), k ≤ (boxesR l).length + 1 ∧ rsp k H = (P, S) ∧ P.length = k ∧ m = (boxesR l).length + 1 - k ∧ vs = [.row 2 P.length, eNs S, .int .i64 k] ∧ σ = [.box 35 [.int .i64 0, .nils, .str ⟨#[]⟩, .nils], .row 27 1 ((pathsN d i).map eIs), .row 3 1 (P.map eI)]) ⟨0, [], H, Nat.zero_le _, rfl, rfl, rfl, rfl, rfl⟩ ?_
    rintro mm vs σ ⟨k, P, S, hk, hrs, hPl, rfl, rfl, rfl⟩
    simp only [sets, nf]
    refine ic_seq ?_
    refine ic_seq ?_
    refine ic_region ?_
    refine x_op ?_
    refine x_op ?_
    refine x_op ?_
    refine x_op ?_
    refine il_nil ?_
    refine ic_cond rfl (fun hc => ?_) (fun hc => ?_) -- t46
    · -- true
      have hkl : k ≤ (boxesR l).length := by have := of_decide_eq_true hc; omega
      obtain ⟨i2, x, hsi, e1⟩ := rsp_succ k H (hdeep.le hkl)
      rw [hrs] at hsi e1
      simp only at hsi e1
      have hixs : (S.map eN)[((S.length : Int) - 1).toNat]? = some (eN x) := by rw [hsi]; exact snoc_get i2 x
      have hSl : 0 < S.length := by rw [hsi]; simp
      have hSb : S.length ≤ 1073741824 := by
        have h1 := rsp_szl k H
        rw [hrs] at h1
        have h2 := szl_len S
        have h3 : szl H ≤ 4000000 := by
          rw [← hH]
          have a1 := nodesV_szl 12 0 (d.take (i + 1))
          have a2 := lsz_eq (12 + 2) (d.take (i + 1))
          have a3 := dsize_take_le d (i + 1)
          have a4 : (d.take (i + 1)).length ≤ d.length := by rw [List.length_take]; omega
          rw [hostsN_take d hok (i + 1) (by omega)]
          omega
        simp only at h1
        omega
      refine ic_skip ?_
      refine ic_seq ?_
      refine ic_block ?_ -- 3
      refine ic_seq ?_
      refine ic_region ?_
      refine x_op ?_
      refine x_op ?_
      refine x_op ?_
      refine x_op ?_
      refine x_op ?_
      refine x_op ?_
      refine x_op ?_
      refine il_nil ?_
      refine ic_region ?_
      refine x_op ?_
      refine x_op ?_
      refine x_op ?_
      refine x_op ?_
      refine x_op ?_
      refine x_op ?_
      refine x_op ?_
      refine x_op ?_
      refine il_nil ?_
      refine ic_region ?_
      refine x_op ?_
      refine x_op ?_
      refine x_op ?_
      refine il_nil ?_
      have e2 : P.map eI ++ [IV.int .i64 ((S.length : Int) - 1)] = (P ++ [(S.length : Int) - 1]).map eI := by rw [List.map_append]; rfl
      have e4 : P.length + 1 = (P ++ [(S.length : Int) - 1]).length := by rw [List.length_append]; rfl
      simp only [e2, e4]
      exact x_next ((boxesR l).length + 1 - (k + 1)) ⟨k + 1, P ++ [(S.length : Int) - 1], x.kids, by omega, e1, by rw [List.length_append, hPl]; rfl, rfl, rfl, rfl⟩ (by omega) -- round
    · -- false
      obtain rfl : k = (boxesR l).length + 1 := by have := of_decide_eq_false hc; omega
      rw [hH, hrs] at hpn
      simp only at hpn
      have e3 : (pathsN d i).map eIs ++ [IV.sl false (P.map eI)] = (pathsN d (i + 1)).map eIs := by rw [hpn, List.map_append]; rfl
      have ef : ((pathsN d i).map eIs).map (fr 2 P.length (P.map eI)) = (pathsN d i).map eIs := by rw [List.map_map]; rfl
      refine ic_exit ?_ -- 2
      refine ic_frow 2 ?_
      simp only [ef]
      refine ic_region ?_
      refine x_op ?_
      refine x_op ?_
      refine x_op ?_
      refine x_op ?_
      refine x_op ?_
      refine il_nil ?_
      refine ic_region ?_
      refine x_op ?_
      refine x_op ?_
      refine x_op ?_
      refine il_nil ?_
      have dpt2 := dat_map dat_eIs (pathsN d (i + 1))
      have e4 : (pathsN d i).length + 1 = (pathsN d (i + 1)).length := by rw [hpn, List.length_append]; rfl
      simp only [e3, e4]
      rw [← hH]
      exact x_next (d.length - (i + 1)) ⟨i + 1, by omega, by rw [hpn, List.length_append, hpl]; rfl, rfl, rfl, rfl⟩ (by omega) -- round
  · -- false
    obtain rfl : i = d.length := by have := of_decide_eq_false hc; omega
    refine ic_exit ?_ -- 0
    refine ic_frow 1 ?_
    refine ic_seq ?_
    refine ic_region ?_
    refine x_op ?_
    refine x_op ?_
    refine x_op ?_
    refine x_op ?_
    refine x_op ?_
    refine il_nil ?_
    refine ic_ret ?_
    repeat (first | with_reducible refine it_ret ?_ | with_reducible refine ib_ret ?_)
    exact x_res2 Tryz.results31 rfl (hw := by rw [← eN_mk]; exact Wk.agg x_wks)
end Go.Proofs.YtokbhcnomffopaaGreatDoor
end

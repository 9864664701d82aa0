/- The point of any place of any document is the document's, or there is none (RenderPoint): for every document and place the law answers true. Condition: the two tables of utf8 are tied to the text by the given card. -/
import Derived.Test.YtokbhcnomffopaaGreatDoorCards
import Derived.Test.YtokbhcnomffopaaGreatDoorTie
import Derived.Test.YtokbhcnomffopaaGreatDoorMint4
section
/- The contracts of the document's sameness (ref05, ref06, ref07). -/
set_option linter.unusedVariables false
set_option linter.unusedSimpArgs false
set_option maxHeartbeats 4000000
namespace Go.Proofs.YtokbhcnomffopaaGreatDoor
open Go Go.QL

theorem take_next {α : Type} {a b : List α} {i : Nat} (hpre : a.take i = b.take i) (h1 : i < a.length) (h2 : i < b.length) (he : a[i] = b[i]) : a.take (i + 1) = b.take (i + 1) := by
  rw [List.take_succ_eq_append_getElem h1, List.take_succ_eq_append_getElem h2, hpre, he]
theorem take_all {α : Type} {a b : List α} {i : Nat} (hpre : a.take i = b.take i) (h1 : i = a.length) (h2 : a.length = b.length) : a = b := by
  rw [h1, List.take_length, h2, List.take_length] at hpre
  exact hpre
theorem ints_calls (a b : List Int) (f g : Bool) (hl : a.length ≤ 1125899906842624) : ICalls Tryz.prog 61 [.sl f (a.map eI), .sl g (b.map eI)] [] (fun u _ => u = .bool (decide (a = b))) := by
  refine x_enter Tryz.func61 Tryz.ntmps61 ?_
  refine ic_seq ?_
  refine ic_region ?_
  refine x_op ?_
  refine il_nil ?_
  refine ic_seq ?_
  refine ic_seq ?_
  refine ic_region ?_
  refine x_op ?_
  refine x_op ?_
  refine x_op ?_
  refine x_op ?_
  refine x_op ?_
  refine il_nil ?_
  refine ic_cond rfl (fun hc => ?_) (fun hc => ?_) -- t10
  · -- true
    have hne : ¬ a = b := fun e => by subst e; simp at hc
    rw [decide_eq_false hne]
    refine ic_seq ?_
    refine ic_region ?_
    refine x_op ?_
    refine il_nil ?_
    refine ic_ret ?_
    repeat (first | with_reducible refine it_ret ?_ | with_reducible refine ib_ret ?_)
    exact x_res1 Tryz.results61 rfl
  · -- false
    have hlen : a.length = b.length := by
      have h : (a.length : Int) = b.length := by simpa using hc
      omega
    refine ic_skip ?_
    refine ic_seq ?_
    refine ic_seq ?_
    refine ic_region ?_
    refine x_op ?_
    refine il_nil ?_
    refine ic_block ?_ -- 0
    refine x_loop [5] [4, 11, 12, 13, 14, 15, 16, 17, 18, 19, 20, 21, 22, 23, 24, 25] (fun m vs σ => ∃ i : Nat, i ≤ a.length ∧ a.take i = b.take i ∧ m = a.length - i ∧ vs = [.int .i64 i] ∧ σ = []) ⟨0, Nat.zero_le _, rfl, rfl, rfl, rfl⟩ ?_
    rintro m vs σ ⟨i, hi, hpre, rfl, rfl, rfl⟩
    simp only [sets, nf]
    refine ic_seq ?_
    refine ic_seq ?_
    refine ic_region ?_
    refine x_op ?_
    refine x_op ?_
    refine x_op ?_
    refine x_op ?_
    refine il_nil ?_
    refine ic_cond rfl (fun hc => ?_) (fun hc => ?_) -- t14
    · -- true
      have hil : i < a.length := by have := of_decide_eq_true hc; omega
      have hib : i < b.length := by omega
      have hxa : (a.map eI)[((i : Nat) : Int).toNat]? = some (eI a[i]) := by simp [hil]
      have hxb : (b.map eI)[((i : Nat) : Int).toNat]? = some (eI b[i]) := by simp [hib]
      refine ic_skip ?_
      refine ic_seq ?_
      refine ic_block ?_ -- 1
      refine ic_seq ?_
      refine ic_drawq 9 (by kernel_rfl) rfl rfl ?_
      refine q_op ?_
      refine q_op ?_
      refine q_op ?_
      refine q_op ?_
      refine q_op ?_
      refine q_op ?_
      refine q_op ?_
      refine q_op ?_
      refine q_op ?_
      refine iq_nil ?_
      refine d_done ?_
      refine ic_cond rfl (fun hc => ?_) (fun hc => ?_) -- t25
      · -- true
        have hne : ¬ a = b := fun e => by subst e; simp at hc
        rw [decide_eq_false hne]
        refine ic_seq ?_
        refine ic_region ?_
        refine x_op ?_
        refine il_nil ?_
        refine ic_ret ?_
        repeat (first | with_reducible refine it_ret ?_ | with_reducible refine ib_ret ?_)
        exact x_res1 Tryz.results61 rfl
      · -- false
        have he : a[i] = b[i] := by simpa using hc
        refine ic_skip ?_
        refine ic_region ?_
        refine x_op ?_
        refine x_op ?_
        refine x_op ?_
        refine il_nil ?_
        exact x_next (a.length - (i + 1)) ⟨i + 1, by omega, take_next hpre hil hib he, rfl, rfl, rfl⟩ (by omega) -- round
    · -- false
      have he : a = b := take_all hpre (by have := of_decide_eq_false hc; omega) hlen
      rw [decide_eq_true he]
      refine ic_exit ?_ -- 0
      refine ic_seq ?_
      refine ic_region ?_
      refine x_op ?_
      refine il_nil ?_
      refine ic_ret ?_
      repeat (first | with_reducible refine it_ret ?_ | with_reducible refine ib_ret ?_)
      exact x_res1 Tryz.results61 rfl
theorem cel_eq (x y : Cel) : decide (x = y) = (decide (x.r = y.r) && (decide (x.bits = y.bits) && decide (x.href = y.href))) := by
  rcases x with ⟨a, b, c⟩
  rcases y with ⟨a', b', c'⟩
  simp only [Cel.mk.injEq, Bool.decide_and]
theorem same05_calls (a b : List Cel) (f g : Bool) (hl : a.length ≤ 1125899906842624) : ICalls Tryz.prog 62 [.sl f (a.map eC), .sl g (b.map eC)] [] (fun u _ => u = .bool (decide (a = b))) := by
  refine x_enter Tryz.func62 Tryz.ntmps62 ?_
  refine ic_seq ?_
  refine ic_region ?_
  refine x_op ?_
  refine il_nil ?_
  refine ic_seq ?_
  refine ic_seq ?_
  refine ic_region ?_
  refine x_op ?_
  refine x_op ?_
  refine x_op ?_
  refine x_op ?_
  refine x_op ?_
  refine il_nil ?_
  refine ic_cond rfl (fun hc => ?_) (fun hc => ?_) -- t10
  · -- true
    have hne : ¬ a = b := fun e => by subst e; simp at hc
    rw [decide_eq_false hne]
    refine ic_seq ?_
    refine ic_region ?_
    refine x_op ?_
    refine il_nil ?_
    refine ic_ret ?_
    repeat (first | with_reducible refine it_ret ?_ | with_reducible refine ib_ret ?_)
    exact x_res1 Tryz.results62 rfl
  · -- false
    have hlen : a.length = b.length := by
      have h : (a.length : Int) = b.length := by simpa using hc
      omega
    refine ic_skip ?_
    refine ic_seq ?_
    refine ic_seq ?_
    refine ic_region ?_
    refine x_op ?_
    refine il_nil ?_
    refine ic_block ?_ -- 0
    refine x_loop [5] [4, 11, 12, 13, 14, 15, 16, 17, 18, 19, 20, 21, 22, 23, 24, 25, 26, 27, 28, 29, 30, 31, 32, 33, 34, 35, 36, 37, 38, 39, 40, 41, 42, 43, 44, 45, 46, 47, 48, 49, 50, 51, 52, 53] (fun m vs σ => ∃ i : Nat, i ≤ a.length ∧ a.take i = b.take i ∧ m = a.length - i ∧ vs = [.int .i64 i] ∧ σ = []) ⟨0, Nat.zero_le _, rfl, rfl, rfl, rfl⟩ ?_
    rintro m vs σ ⟨i, hi, hpre, rfl, rfl, rfl⟩
    simp only [sets, nf]
    refine ic_seq ?_
    refine ic_seq ?_
    refine ic_region ?_
    refine x_op ?_
    refine x_op ?_
    refine x_op ?_
    refine x_op ?_
    refine il_nil ?_
    refine ic_cond rfl (fun hc => ?_) (fun hc => ?_) -- t14
    · -- true
      have hil : i < a.length := by have := of_decide_eq_true hc; omega
      have hib : i < b.length := by omega
      obtain ⟨x, hx⟩ : ∃ x, a[i] = x := ⟨_, rfl⟩
      obtain ⟨y, hy⟩ : ∃ y, b[i] = y := ⟨_, rfl⟩
      have hxa : (a.map eC)[((i : Nat) : Int).toNat]? = some (eC x) := by simp [hil, hx]
      have hxb : (b.map eC)[((i : Nat) : Int).toNat]? = some (eC y) := by simp [hib, hy]
      have hno : ¬ x = y → ¬ a = b := fun h e => by subst e; exact h (hx.symm.trans hy)
      refine ic_skip ?_
      refine ic_seq ?_
      refine ic_block ?_ -- 1
      refine x_mid [53] [15, 16, 17, 18, 19, 20, 21, 22, 23, 24, 25, 26, 27, 28, 29, 30, 31, 32, 33, 34, 35, 36, 37, 38, 39, 40, 41, 42, 43, 44, 45, 46, 47, 48, 49, 50, 51, 52] (fun vs σ => vs = [.bool (!decide (x = y))] ∧ σ = []) ?_ ?_
      · refine ic_drawq 37 (by kernel_rfl) rfl rfl ?_
        refine q_op ?_
        refine q_op ?_
        refine q_op ?_
        refine q_op ?_
        refine q_op ?_
        refine q_op ?_
        refine q_op ?_
        refine q_op ?_
        refine q_op ?_
        refine q_op ?_
        refine q_op ?_
        refine q_op ?_
        rcases Bool.eq_false_or_eq_true (!decide (x.r = y.r)) with h1 | h1
        · simp only [h1]
          refine qn_op ?_
          refine qn_op ?_
          refine qn_op ?_
          refine qn_op ?_
          refine qn_op ?_
          refine qn_op ?_
          refine qn_op ?_
          refine qn_op ?_
          refine qn_op ?_
          refine qn_op ?_
          refine qn_op ?_
          refine q_op ?_
          refine q_op ?_
          refine qn_op ?_
          refine qn_op ?_
          refine qn_op ?_
          refine qn_op ?_
          refine qn_op ?_
          refine qn_op ?_
          refine qn_op ?_
          refine qn_op ?_
          refine qn_op ?_
          refine qn_op ?_
          refine qn_op ?_
          refine q_op ?_
          refine iq_nil ?_
          refine d_done ?_
          have e : (!decide (x = y)) = true := by rw [cel_eq]; simp at h1; simp [h1]
          exact x_here ⟨by rw [e], rfl⟩
        · simp only [h1]
          refine qy_op ?_
          refine qy_op ?_
          refine qy_op ?_
          refine qy_op ?_
          refine qy_op ?_
          refine qy_op ?_
          refine qy_op ?_
          refine qy_op ?_
          refine qy_op ?_
          refine qy_op ?_
          refine qy_op ?_
          refine q_op ?_
          refine q_op ?_
          rcases Bool.eq_false_or_eq_true (!decide (x.bits = y.bits)) with h2 | h2
          · simp only [h2]
            refine qn_op ?_
            refine qn_op ?_
            refine qn_op ?_
            refine qn_op ?_
            refine qn_op ?_
            refine qn_op ?_
            refine qn_op ?_
            refine qn_op ?_
            refine qn_op ?_
            refine qn_op ?_
            refine qn_op ?_
            refine q_op ?_
            refine iq_nil ?_
            refine d_done ?_
            have e : (!decide (x = y)) = true := by rw [cel_eq]; simp at h2; simp [h2]
            exact x_here ⟨by rw [e], rfl⟩
          · simp only [h2]
            refine qy_op ?_
            refine qy_op ?_
            refine qy_op ?_
            refine qy_op ?_
            refine qy_op ?_
            refine qy_op ?_
            refine qy_op ?_
            refine qy_op ?_
            refine qy_op ?_
            refine qy_op ?_
            refine qy_op ?_
            refine q_op ?_
            refine iq_nil ?_
            refine d_done ?_
            have e : (!decide (x = y)) = (!decide (x.href = y.href)) := by rw [cel_eq]; simp at h1 h2; simp [h1, h2]
            exact x_here ⟨by rw [e], rfl⟩
      rintro vs σ ⟨rfl, rfl⟩
      simp only [sets, nf]
      refine ic_cond rfl (fun hc => ?_) (fun hc => ?_) -- t53
      · -- true
        have hne : ¬ a = b := hno (by simpa using hc)
        rw [decide_eq_false hne]
        refine ic_seq ?_
        refine ic_region ?_
        refine x_op ?_
        refine il_nil ?_
        refine ic_ret ?_
        repeat (first | with_reducible refine it_ret ?_ | with_reducible refine ib_ret ?_)
        exact x_res1 Tryz.results62 rfl
      · -- false
        have he : x = y := by simpa using hc
        refine ic_skip ?_
        refine ic_region ?_
        refine x_op ?_
        refine x_op ?_
        refine x_op ?_
        refine il_nil ?_
        exact x_next (a.length - (i + 1)) ⟨i + 1, by omega, take_next hpre hil hib (hx.trans (he.trans hy.symm)), rfl, rfl, rfl⟩ (by omega) -- round
    · -- false
      have he : a = b := take_all hpre (by have := of_decide_eq_false hc; omega) hlen
      rw [decide_eq_true he]
      refine ic_exit ?_ -- 0
      refine ic_seq ?_
      refine ic_region ?_
      refine x_op ?_
      refine il_nil ?_
      refine ic_ret ?_
      repeat (first | with_reducible refine it_ret ?_ | with_reducible refine ib_ret ?_)
      exact x_res1 Tryz.results62 rfl
theorem lin_eq (x y : Lin) : decide (x = y) = (decide (x.quote = y.quote) && (decide (x.lists = y.lists) && (decide (x.kind = y.kind) && decide (x.cells = y.cells)))) := by
  rcases x with ⟨a, b, c, d⟩
  rcases y with ⟨a', b', c', d'⟩
  simp only [Lin.mk.injEq, Bool.decide_and]
theorem same06_calls (x y : Lin) (hx : x.lists.length ≤ 1125899906842624) (hx2 : x.cells.length ≤ 1125899906842624) : ICalls Tryz.prog 33 [eL x, eL y] [] (fun u _ => u = .bool (decide (x = y))) := by
  rw [lin_eq]
  refine x_enter Tryz.func33 Tryz.ntmps33 ?_
  refine ic_seq ?_
  refine ic_region ?_
  refine x_op ?_
  refine x_op ?_
  refine x_op ?_
  refine il_nil ?_
  refine ic_seq ?_
  refine ic_region ?_
  refine x_op ?_
  refine x_op ?_
  refine x_op ?_
  refine x_op ?_
  refine x_op ?_
  refine x_op ?_
  rcases Bool.eq_false_or_eq_true (decide (x.quote = y.quote)) with h1 | h1
  · simp only [h1]
    first | refine n_op ?_ | refine y_op ?_
    first | refine n_op ?_ | refine y_op ?_
    first | refine n_op ?_ | refine y_op ?_
    first | refine n_op ?_ | refine y_op ?_
    refine y_cv (ints_calls x.lists y.lists false false hx) ?_
    refine x_op ?_
    refine x_op ?_
    rcases Bool.eq_false_or_eq_true (decide (x.lists = y.lists)) with h2 | h2
    · simp only [h2]
      first | refine n_op ?_ | refine y_op ?_
      first | refine n_op ?_ | refine y_op ?_
      first | refine n_op ?_ | refine y_op ?_
      first | refine n_op ?_ | refine y_op ?_
      first | refine n_op ?_ | refine y_op ?_
      refine x_op ?_
      refine x_op ?_
      rcases Bool.eq_false_or_eq_true (decide (x.kind = y.kind)) with h3 | h3
      · simp only [h3]
        first | refine n_op ?_ | refine y_op ?_
        first | refine n_op ?_ | refine y_op ?_
        first | refine n_op ?_ | refine y_op ?_
        first | refine n_op ?_ | refine y_op ?_
        refine y_cv (same05_calls x.cells y.cells false false hx2) ?_
        refine x_op ?_
        refine x_op ?_
        refine il_nil ?_
        refine ic_ret ?_
        repeat (first | with_reducible refine it_ret ?_ | with_reducible refine ib_ret ?_)
        exact x_res1 Tryz.results33 rfl
      · simp only [h3]
        first | refine n_op ?_ | refine y_op ?_
        first | refine n_op ?_ | refine y_op ?_
        first | refine n_op ?_ | refine y_op ?_
        first | refine n_op ?_ | refine y_op ?_
        first | refine n_op ?_ | refine y_op ?_
        refine x_op ?_
        refine x_op ?_
        refine il_nil ?_
        refine ic_ret ?_
        repeat (first | with_reducible refine it_ret ?_ | with_reducible refine ib_ret ?_)
        exact x_res1 Tryz.results33 rfl
    · simp only [h2]
      first | refine n_op ?_ | refine y_op ?_
      first | refine n_op ?_ | refine y_op ?_
      first | refine n_op ?_ | refine y_op ?_
      first | refine n_op ?_ | refine y_op ?_
      first | refine n_op ?_ | refine y_op ?_
      refine x_op ?_
      refine x_op ?_
      first | refine n_op ?_ | refine y_op ?_
      first | refine n_op ?_ | refine y_op ?_
      first | refine n_op ?_ | refine y_op ?_
      first | refine n_op ?_ | refine y_op ?_
      first | refine n_op ?_ | refine y_op ?_
      refine x_op ?_
      refine x_op ?_
      refine il_nil ?_
      refine ic_ret ?_
      repeat (first | with_reducible refine it_ret ?_ | with_reducible refine ib_ret ?_)
      exact x_res1 Tryz.results33 rfl
  · simp only [h1]
    first | refine n_op ?_ | refine y_op ?_
    first | refine n_op ?_ | refine y_op ?_
    first | refine n_op ?_ | refine y_op ?_
    first | refine n_op ?_ | refine y_op ?_
    first | refine n_op ?_ | refine y_op ?_
    refine x_op ?_
    refine x_op ?_
    first | refine n_op ?_ | refine y_op ?_
    first | refine n_op ?_ | refine y_op ?_
    first | refine n_op ?_ | refine y_op ?_
    first | refine n_op ?_ | refine y_op ?_
    first | refine n_op ?_ | refine y_op ?_
    refine x_op ?_
    refine x_op ?_
    first | refine n_op ?_ | refine y_op ?_
    first | refine n_op ?_ | refine y_op ?_
    first | refine n_op ?_ | refine y_op ?_
    first | refine n_op ?_ | refine y_op ?_
    first | refine n_op ?_ | refine y_op ?_
    refine x_op ?_
    refine x_op ?_
    refine il_nil ?_
    refine ic_ret ?_
    repeat (first | with_reducible refine it_ret ?_ | with_reducible refine ib_ret ?_)
    exact x_res1 Tryz.results33 rfl
theorem same07_calls (a b : List Lin) (f g : Bool) (hl : a.length ≤ 1125899906842624) (h1 : ∀ l ∈ a, l.lists.length ≤ 1125899906842624) (h2 : ∀ l ∈ a, l.cells.length ≤ 1125899906842624) : ICalls Tryz.prog 17 [.sl f (a.map eL), .sl g (b.map eL)] [] (fun u _ => u = .bool (decide (a = b))) := by
  refine x_enter Tryz.func17 Tryz.ntmps17 ?_
  refine ic_seq ?_
  refine ic_region ?_
  refine x_op ?_
  refine il_nil ?_
  refine ic_seq ?_
  refine ic_seq ?_
  refine ic_region ?_
  refine x_op ?_
  refine x_op ?_
  refine x_op ?_
  refine x_op ?_
  refine x_op ?_
  refine il_nil ?_
  refine ic_cond rfl (fun hc => ?_) (fun hc => ?_) -- t10
  · -- true
    have hne : ¬ a = b := fun e => by subst e; simp at hc
    rw [decide_eq_false hne]
    refine ic_seq ?_
    refine ic_region ?_
    refine x_op ?_
    refine il_nil ?_
    refine ic_ret ?_
    repeat (first | with_reducible refine it_ret ?_ | with_reducible refine ib_ret ?_)
    exact x_res1 Tryz.results17 rfl
  · -- false
    have hlen : a.length = b.length := by
      have h : (a.length : Int) = b.length := by simpa using hc
      omega
    refine ic_skip ?_
    refine ic_seq ?_
    refine ic_seq ?_
    refine ic_region ?_
    refine x_op ?_
    refine il_nil ?_
    refine ic_block ?_ -- 0
    refine x_loop [5] [4, 11, 12, 13, 14, 15, 16, 17, 18, 19, 20, 21, 22, 23, 24, 25, 26] (fun m vs σ => ∃ i : Nat, i ≤ a.length ∧ a.take i = b.take i ∧ m = a.length - i ∧ vs = [.int .i64 i] ∧ σ = []) ⟨0, Nat.zero_le _, rfl, rfl, rfl, rfl⟩ ?_
    rintro m vs σ ⟨i, hi, hpre, rfl, rfl, rfl⟩
    simp only [sets, nf]
    refine ic_seq ?_
    refine ic_seq ?_
    refine ic_region ?_
    refine x_op ?_
    refine x_op ?_
    refine x_op ?_
    refine x_op ?_
    refine il_nil ?_
    refine ic_cond rfl (fun hc => ?_) (fun hc => ?_) -- t14
    · -- true
      have hil : i < a.length := by have := of_decide_eq_true hc; omega
      have hib : i < b.length := by omega
      obtain ⟨x, hx⟩ : ∃ x, a[i] = x := ⟨_, rfl⟩
      obtain ⟨y, hy⟩ : ∃ y, b[i] = y := ⟨_, rfl⟩
      have hxa : (a.map eL)[((i : Nat) : Int).toNat]? = some (eL x) := by simp [hil, hx]
      have hxb : (b.map eL)[((i : Nat) : Int).toNat]? = some (eL y) := by simp [hib, hy]
      have hno : ¬ x = y → ¬ a = b := fun h e => by subst e; exact h (hx.symm.trans hy)
      have hxm : x ∈ a := hx ▸ List.getElem_mem hil
      refine ic_skip ?_
      refine ic_seq ?_
      refine ic_block ?_ -- 1
      refine ic_seq ?_
      refine ic_drawq 10 (by kernel_rfl) rfl rfl ?_
      refine q_op ?_
      refine q_op ?_
      refine q_op ?_
      refine q_op ?_
      refine q_op ?_
      refine q_op ?_
      refine q_op ?_
      refine q_op ?_
      refine q_cv (same06_calls x y (h1 x hxm) (h2 x hxm)) ?_
      refine q_op ?_
      refine iq_nil ?_
      refine d_done ?_
      refine ic_cond rfl (fun hc => ?_) (fun hc => ?_) -- t26
      · -- true
        have hne : ¬ a = b := hno (by simpa using hc)
        rw [decide_eq_false hne]
        refine ic_seq ?_
        refine ic_region ?_
        refine x_op ?_
        refine il_nil ?_
        refine ic_ret ?_
        repeat (first | with_reducible refine it_ret ?_ | with_reducible refine ib_ret ?_)
        exact x_res1 Tryz.results17 rfl
      · -- false
        have he : x = y := by simpa using hc
        refine ic_skip ?_
        refine ic_region ?_
        refine x_op ?_
        refine x_op ?_
        refine x_op ?_
        refine il_nil ?_
        exact x_next (a.length - (i + 1)) ⟨i + 1, by omega, take_next hpre hil hib (hx.trans (he.trans hy.symm)), rfl, rfl, rfl⟩ (by omega) -- round
    · -- false
      have he : a = b := take_all hpre (by have := of_decide_eq_false hc; omega) hlen
      rw [decide_eq_true he]
      refine ic_exit ?_ -- 0
      refine ic_seq ?_
      refine ic_region ?_
      refine x_op ?_
      refine il_nil ?_
      refine ic_ret ?_
      repeat (first | with_reducible refine it_ret ?_ | with_reducible refine ib_ret ?_)
      exact x_res1 Tryz.results17 rfl
end Go.Proofs.YtokbhcnomffopaaGreatDoor
end

section
/- The contracts of ref19.Point, law19.RenderPoint. -/
set_option linter.unusedVariables false
set_option linter.unusedSimpArgs false
set_option maxHeartbeats 4000000
namespace Go.Proofs.YtokbhcnomffopaaGreatDoor
open Go Go.QL

/-- What is so of a document that is not too long. -/
structure Short (d : List Lin) : Prop where
  n : d.length ≤ 300
  z : dsize d ≤ 5000
  c : ∀ l ∈ d, l.cells.length ≤ 5000
  l : ∀ l ∈ d, l.lists.length ≤ 5000
  h : ∀ l ∈ d, ∀ c ∈ l.cells, c.href.size ≤ 80016
theorem short_of {d : List Lin} (h : longV d = false) : Short d := by
  obtain ⟨h1, h2, h3⟩ := long_f h
  exact ⟨h1, h2, fun l hl => (h3 l hl).1, fun l hl => (h3 l hl).2.1, fun l hl => (h3 l hl).2.2⟩
theorem Short.docIn {d : List Lin} (h : Short d) : DocIn targetV d :=
  ⟨fun l hl c hc => targetOf_all _ (by have := h.h l hl c hc; omega), by have := h.n; omega, by have := h.z; omega, fun l hl => by have := h.l l hl; omega⟩
theorem Short.may {d : List Lin} (h : Short d) (b : Bool) : ICalls Tryz.prog 20 [.sl b (d.map eL)] [] (fun u _ => u = .bool (docMay targetV d)) :=
  may7_calls d b (by have := h.n; omega) (by have := h.z; omega) (fun l hl => by have := h.c l hl; omega) (fun l hl => by have := h.l l hl; omega) (fun l hl c hc => by have := h.h l hl c hc; omega)
theorem Short.own {d : List Lin} (h : Short d) (b : Bool) : ICalls Tryz.prog 10 [.sl b (d.map eL)] [] (fun u _ => u = eLs d) :=
  own7_calls d b (by have := h.n; omega) (fun l hl => by have := h.c l hl; omega) (fun l hl => by have := h.l l hl; omega)
theorem Short.size {d : List Lin} (h : Short d) (b : Bool) : ICalls Tryz.prog 8 [.sl b (d.map eL)] [] (fun u _ => u = .int .i64 (dsize d : Nat)) :=
  size7_calls d b (by have := h.n; omega) (by have := h.z; omega)
theorem Short.same {d : List Lin} (h : Short d) (e : List Lin) (a b : Bool) : ICalls Tryz.prog 17 [.sl a (d.map eL), .sl b (e.map eL)] [] (fun u _ => u = .bool (decide (d = e))) :=
  same07_calls d e a b (by have := h.n; omega) (fun l hl => by have := h.l l hl; omega) (fun l hl => by have := h.c l hl; omega)
theorem dat_paths (l : List (List Int)) : Dat (.sl false (l.map eIs)) := Dat.sl (dat_map dat_eIs l)
theorem dat_pts (l : List Pnt) : Dat (.sl false (l.map ePt)) := Dat.sl (dat_map dat_ePt l)
theorem ptsN_len' (l : List Cel) : ∀ i, i ≤ l.length → (ptsN l i).length = i
  | 0, _ => rfl
  | i + 1, hi => by
    rw [(row_round l i (by omega)).pts, List.length_append, ptsN_len' l i (by omega)]
    rfl
theorem rsp_path_len : ∀ (d : List Lin) (i : Nat) (P : List Int), (∀ l ∈ d, (wayV l).length ≤ 12) → P ∈ pathsN d i → P.length ≤ 13
  | d, 0, P, _, h => by simp [pathsN] at h
  | d, i + 1, P, hw, h => by
    rw [pathsN] at h
    cases hi : d[i]? with
    | none => rw [hi] at h; exact rsp_path_len d i P hw h
    | some l =>
      rw [hi] at h
      rcases List.mem_append.1 h with h | h
      · exact rsp_path_len d i P hw h
      · rw [List.mem_singleton.1 h]
        have h1 := rsp_len ((boxesR l).length + 1) (hostsN d (i + 1))
        have h2 : (boxesR l).length = (wayV l).length := by unfold boxesR; rw [List.length_map]
        have h3 := hw l (List.mem_of_getElem? hi)
        omega
theorem behind_len : ∀ (d : Nat) (l : List Nd), (behindR d l).path.length ≤ d + 1
  | 0, l => by
    rw [behindR]
    split
    · simp
    · split <;> simp
  | d + 1, l => by
    rw [behindR]
    split
    · simp
    · next x _ => have := behind_len d x.kids; simp; omega
theorem ptsN_path : ∀ (l : List Cel) (i : Nat) (q : Pnt), q ∈ ptsN l i → q.path.length ≤ 100
  | l, 0, q, h => by simp [ptsN] at h
  | l, i + 1, q, h => by
    rw [ptsN] at h
    cases hi : l[i]? with
    | none => rw [hi] at h; exact ptsN_path l i q h
    | some c =>
      rw [hi] at h
      rcases List.mem_append.1 h with h | h
      · exact ptsN_path l i q h
      · rw [List.mem_singleton.1 h]
        have h1 := behind_len (wrapsR c).length (rowN l (i + 1))
        have h2 := wrapsN_len c 4
        simp only [wrapsR] at *
        omega
theorem point_len {T : Str → Bool} (d : List Lin) (p : Pos) : (pointR T d p).1.path.length ≤ 1000 := by
  unfold pointR
  split
  · next h =>
    have hp : ∀ k, ((pathsN d d.length).getD k []).length ≤ 13 := fun k => by
      rw [List.getD_eq_getElem?_getD]
      cases hk : (pathsN d d.length)[k]? with
      | none => simp
      | some P => exact rsp_path_len d d.length P (fun l hl => (may_ok h.1 l hl).2) (List.mem_of_getElem? hk)
    have hq : ∀ (l : List Cel) k, ((ptsR l).getD k default).path.length ≤ 100 := fun l k => by
      rw [List.getD_eq_getElem?_getD]
      cases hk : (ptsR l)[k]? with
      | none => exact Nat.zero_le _
      | some P => exact ptsN_path l l.length P (List.mem_of_getElem? hk)
    split
    · have := hp p.line.toNat
      show ((pathsN d d.length).getD _ []).length ≤ 1000
      omega
    · have h1 := hp p.line.toNat
      have h2 := hq (d.getD p.line.toNat default).cells (p.at_ - 1).toNat
      show ((pathsN d d.length).getD _ [] ++ _).length ≤ 1000
      rw [List.length_append]
      omega
  · simp
theorem point19_calls (d : List Lin) (f : Bool) (p : Pos) (hs : Short d) : ICalls Tryz.prog 19 [.sl f (d.map eL), eP p] [] (fun u _ => u = .tup [ePt (pointR targetV d p).1, .int .i64 (pointR targetV d p).2]) := by
  refine x_enter Tryz.func19 Tryz.ntmps19 ?_
  refine ic_seq ?_
  refine ic_region ?_
  refine x_op ?_
  refine x_op ?_
  refine x_op ?_
  refine il_nil ?_
  refine ic_seq ?_
  refine x_mid [19] [11, 12, 13, 14, 15, 16, 17, 18] (fun vs σ => vs = [.bool (!docMay targetV d || !docIsV d p)] ∧ σ = [.box 43 (psc p), .box 45 [.nils, .int .i64 0]]) ?_ ?_
  · refine ic_region ?_
    repeat' (first | refine x_op ?_ | refine n_op ?_ | refine x_cv (hs.may f) ?_ | refine y_cv (hs.may f) ?_ | refine x_cv (is7_calls d f p) ?_ | refine y_cv (is7_calls d f p) ?_ | refine y_op ?_ | refine il_split (fun _ => ?_) (fun _ => ?_) | refine il_nil ?_)
    all_goals exact x_there
  rintro vs σ ⟨rfl, rfl⟩
  simp only [sets, nf, psc]
  refine ic_cond rfl (fun hc => ?_) (fun hc => ?_) -- t19 (!quillworkref07.May(t0) || !quillworkref07.Is(t0, box))
  · -- true
    have hp : pointR targetV d p = (⟨[], 0⟩, 1) := by
      unfold pointR
      rw [if_neg]
      rintro ⟨h1, h2⟩
      rw [h1, h2] at hc
      cases hc
    rw [hp]
    refine ic_seq ?_
    refine ic_region ?_
    refine x_op ?_
    refine x_op ?_
    refine x_op ?_
    refine il_nil ?_
    refine ic_ret ?_
    repeat (first | with_reducible refine it_ret ?_ | with_reducible refine ib_ret ?_)
    exact x_res2 Tryz.results19 rfl
  -- false
  obtain ⟨hm, hi⟩ : docMay targetV d = true ∧ docIsV d p = true := by simpa using hc
  have hi2 := hi
  simp only [docIsV, Bool.and_eq_true, decide_eq_true_eq] at hi2
  obtain ⟨i0, i1, i2, i3⟩ := hi2
  have hil : p.line.toNat < d.length := by omega
  obtain ⟨l, hl⟩ : ∃ l, d[p.line.toNat] = l := ⟨_, rfl⟩
  have hxi : (d.map eL)[p.line.toNat]? = some (eL l) := by simp [hil, hl]
  have hg : d.getD p.line.toNat default = l := by simp [List.getD, hil, hl]
  have hlm : l ∈ d := hl ▸ List.getElem_mem hil
  rw [hg] at i3
  have hpl := (hosts_ln d (may_ok hm) d.length (Nat.le_refl _)).1
  obtain ⟨P, hP⟩ : ∃ P, (pathsN d d.length)[p.line.toNat]? = some P := ⟨_, List.getElem?_eq_getElem (by omega)⟩
  have hPl := rsp_path_len d d.length P (fun l hl => (may_ok hm l hl).2) (List.mem_of_getElem? hP)
  have hPg : (pathsN d d.length).getD p.line.toNat [] = P := by rw [List.getD_eq_getElem?_getD, hP]; rfl
  have hxP : ((pathsN d d.length).map eIs)[p.line.toNat]? = some (eIs P) := by rw [List.getElem?_map, hP]; rfl
  have hdt : Dat (.tup [eN (.mk 1 [] ⟨#[]⟩ (hostsN d d.length)), .sl false ((pathsN d d.length).map eIs)]) := Dat.tup (dat_cons (dat_eN _) (dat_cons (dat_paths _) dat_nil))
  have hlc := hs.c l hlm
  have hPs : (pathsN d d.length).length ≤ 300 := by have := hs.n; omega
  obtain ⟨PP, hPP⟩ : ∃ PP, pathsN d d.length = PP := ⟨_, rfl⟩
  have hpr : pointR targetV d p = if p.at_ = 0 then (⟨P, 0⟩, 0) else (⟨P ++ ((ptsR l.cells).getD (p.at_ - 1).toNat default).path, ((ptsR l.cells).getD (p.at_ - 1).toNat default).at_⟩, 0) := by
    unfold pointR
    rw [if_pos ⟨hm, hi⟩, hPg, hg]
  rw [hpr]
  refine ic_skip ?_
  refine ic_seq ?_
  refine ic_region ?_
  refine x_op ?_
  refine x_cv (hosts19_calls targetV d f hm) ?_ (hu := hdt)
  refine x_op ?_
  refine x_op ?_
  refine x_op ?_
  refine x_op ?_
  refine x_op ?_
  refine x_op ?_
  refine il_nil ?_
  rw [hPP] at hxP hPs hdt
  simp only [hPP]
  have dpp := dat_paths PP
  refine ic_seq ?_
  refine ic_seq ?_
  refine ic_region ?_
  refine x_op ?_
  refine x_op ?_
  refine x_op ?_
  refine il_nil ?_
  refine ic_cond rfl (fun hc => ?_) (fun hc => ?_) -- t28 decide (box.1 = 0)
  · -- true
    rw [if_pos (of_decide_eq_true hc)]
    refine ic_seq ?_
    refine ic_region ?_
    refine x_op ?_
    refine x_op ?_
    refine x_op ?_
    refine x_op ?_
    refine x_op ?_
    refine x_op ?_
    refine x_op ?_
    refine x_op ?_
    refine il_nil ?_
    refine ic_ret ?_
    repeat (first | with_reducible refine it_ret ?_ | with_reducible refine ib_ret ?_)
    exact x_res2 Tryz.results19 rfl
  -- false
  have hne : ¬ p.at_ = 0 := of_decide_eq_false hc
  have hptl : (ptsR l.cells).length = l.cells.length := ptsN_len' l.cells l.cells.length (Nat.le_refl _)
  obtain ⟨q, hq⟩ : ∃ q, (ptsR l.cells)[(p.at_ - 1).toNat]? = some q := ⟨_, List.getElem?_eq_getElem (by omega)⟩
  have hql := ptsN_path l.cells l.cells.length q (List.mem_of_getElem? hq)
  have hqg : (ptsR l.cells).getD (p.at_ - 1).toNat default = q := by rw [List.getD_eq_getElem?_getD, hq]; rfl
  have hxq : ((ptsR l.cells).map ePt)[(p.at_ - 1).toNat]? = some (ePt q) := by rw [List.getElem?_map, hq]; rfl
  have hdr : Dat (.tup [eNs (rowR l.cells), .sl false ((ptsR l.cells).map ePt)]) := Dat.tup (dat_cons (dat_eNs _) (dat_cons (dat_pts _) dat_nil))
  rw [if_neg hne, hqg]
  refine ic_skip ?_
  refine ic_seq ?_
  refine ic_region ?_
  refine x_op ?_
  refine x_op ?_
  refine x_op ?_
  refine x_op ?_
  refine x_op ?_
  refine x_op ?_
  refine x_cv (row19_calls l.cells false (by omega)) ?_ (hu := hdr)
  refine x_op ?_
  refine x_op ?_
  refine x_op ?_
  refine x_op ?_
  refine x_op ?_
  refine il_nil ?_
  refine ic_seq ?_
  refine ic_region ?_
  refine x_op ?_
  refine x_op ?_
  refine x_op ?_
  refine x_op ?_
  refine x_op ?_
  refine x_op ?_
  refine x_op ?_
  refine x_op ?_
  refine il_nil ?_
  refine ic_seq ?_
  refine ic_draws [0, 1, 2, 3, 4, 5, 7, 8, 10, 11] (by kernel_rfl) rfl rfl ?_ -- of 15
  refine q_op ?_
  refine q_op ?_
  refine q_op ?_
  refine q_op ?_
  refine q_op ?_
  refine q_op ?_
  refine q_op ?_
  refine q_op ?_
  refine q_op ?_
  refine q_op ?_
  refine iq_nil ?_
  refine s_opr 6 ?_ ?_ -- append
  ·
    refine q_op ?_
    refine q_op ?_
    refine q_op ?_
    refine q_op ?_
    refine q_op ?_
    refine q_op ?_
    refine q_op ?_
    refine q_op ?_
    refine q_op ?_
    refine q_op ?_
    refine iq_nil ?_
    rfl
  refine s_opr 9 ?_ ?_ -- append
  ·
    refine q_op ?_
    refine q_op ?_
    refine q_op ?_
    refine q_op ?_
    refine q_op ?_
    refine q_op ?_
    refine q_op ?_
    refine q_op ?_
    refine q_op ?_
    refine q_op ?_
    refine iq_nil ?_
    rfl
  refine s_op 12 ?_ -- build
  refine s_op 13 ?_ -- store
  refine s_op 14 ?_ -- assign
  refine s_done ?_
  have e1 : P.map eI ++ q.path.map eI = (P ++ q.path).map eI := (List.map_append ..).symm
  have e2 : P.length + q.path.length = (P ++ q.path).length := (List.length_append ..).symm
  simp only [e1, e2]
  refine ic_frow 4 ?_
  refine ic_ret ?_
  repeat (first | with_reducible refine it_ret ?_ | with_reducible refine ib_ret ?_)
  exact x_res2 Tryz.results19 rfl
end Go.Proofs.YtokbhcnomffopaaGreatDoor
end

section
/- The contract of law19.RenderPoint. -/
set_option linter.unusedVariables false
set_option linter.unusedSimpArgs false
set_option maxHeartbeats 4000000
namespace Go.Proofs.YtokbhcnomffopaaGreatDoor
open Go Go.QL

theorem pointLaw_calls (d : List Lin) (hd : Sane d) (p : Pos) : ICalls Tryz.prog 4 [.sl false (d.map eL), eP p] [] (fun u _ => u = .bool true) := by
  refine x_enter Tryz.func4 Tryz.ntmps4 ?_
  refine ic_seq ?_
  refine ic_region ?_
  refine x_op ?_
  refine x_op ?_
  refine il_nil ?_
  refine ic_seq ?_
  refine x_mid [17] [11, 12, 13, 14, 15, 16] (fun vs σ => vs = [.bool (longV d || decide (600 < (dsize d : Int)))] ∧ σ = [.box 43 (psc p)]) ?_ ?_
  · refine ic_region ?_
    refine x_op ?_
    refine x_cv (long_calls d false hd) ?_
    rcases Bool.eq_false_or_eq_true (longV d) with hl | hl
    · simp only [hl]
      refine x_op ?_
      refine n_op ?_
      refine n_op ?_
      refine n_op ?_
      refine x_op ?_
      refine il_nil ?_
      exact x_there
    · simp only [hl]
      refine x_op ?_
      refine y_op ?_
      refine y_cv ((short_of hl).size false) ?_
      refine y_op ?_
      refine x_op ?_
      refine il_nil ?_
      exact x_there
  rintro vs σ ⟨rfl, rfl⟩
  simp only [sets, nf, psc]
  refine ic_cond rfl (fun hc => ?_) (fun hc => ?_) -- t17
  · -- true
    refine ic_seq ?_
    refine ic_region ?_
    refine x_cv (awake_calls) ?_
    refine x_op ?_
    refine il_nil ?_
    refine ic_ret ?_
    repeat (first | with_reducible refine it_ret ?_ | with_reducible refine ib_ret ?_)
    exact x_res1 Tryz.results4 rfl
  -- false
  rw [Bool.or_eq_false_iff] at hc
  have hs := short_of hc.1
  refine ic_skip ?_
  refine ic_seq ?_
  refine ic_region ?_
  refine x_op ?_
  refine x_cv (hs.own false) ?_
  refine x_op ?_
  refine il_nil ?_
  refine ic_seq ?_
  refine ic_region ?_
  refine x_op ?_
  refine x_op ?_
  refine x_cv (point_calls targetV d false p hs.docIn) ?_
  refine x_op ?_
  refine x_op ?_
  refine x_op ?_
  refine x_op ?_
  refine x_op ?_
  refine x_op ?_
  refine il_nil ?_
  refine ic_seq ?_
  refine ic_region ?_
  refine x_op ?_
  refine x_op ?_
  refine x_cv (point19_calls d false p hs) ?_
  refine x_op ?_
  refine x_op ?_
  refine x_op ?_
  refine x_op ?_
  refine x_op ?_
  refine x_op ?_
  refine il_nil ?_
  have hql := point_len (T := targetV) d p
  rw [pointR_eq] at hql ⊢
  obtain ⟨q, hq⟩ : ∃ q, (pointV targetV d p).1 = q := ⟨_, rfl⟩
  obtain ⟨e, he⟩ : ∃ e, (pointV targetV d p).2 = e := ⟨_, rfl⟩
  rw [hq] at hql
  simp only [hq, he]
  refine ic_seq ?_
  refine x_mid [51] [33, 34, 35, 36, 37, 38, 39, 40, 41, 42, 43, 44, 45, 46, 47, 48, 49, 50] (fun vs σ => vs = [.bool false] ∧ σ = [.box 43 (psc p), .box 45 (ptc q), .box 45 (ptc q)]) ?_ ?_
  · refine ic_region ?_
    refine x_op ?_
    refine x_op ?_
    refine x_op ?_
    refine x_op ?_
    simp only [decide_true, Bool.not_true]
    refine y_op ?_
    refine y_op ?_
    refine y_op ?_
    refine y_op ?_
    refine y_op ?_
    refine x_op ?_
    refine x_op ?_
    simp only [decide_true, Bool.not_true]
    refine y_op ?_
    refine y_op ?_
    refine y_op ?_
    refine y_op ?_
    refine y_op ?_
    refine y_op ?_
    refine y_op ?_
    refine x_op ?_
    refine il_nil ?_
    simp only [decide_true, Bool.not_true]
    exact x_there
  rintro vs σ ⟨rfl, rfl⟩
  simp only [sets, nf, psc, ptc]
  refine ic_cond rfl (fun hc => ?_) (fun hc => ?_) -- t51
  · cases hc
  -- false
  refine ic_skip ?_
  refine ic_seq ?_
  refine ic_seq ?_
  refine ic_region ?_
  refine x_op ?_
  refine il_nil ?_
  refine ic_block ?_ -- 0
  refine x_loop [10] [4, 52, 53, 54, 55, 56, 57, 58, 59, 60, 61, 62, 63, 64, 65, 66, 67, 68, 69] (fun m vs σ => ∃ i : Nat, i ≤ q.path.length ∧ m = q.path.length - i ∧ vs = [.int .i64 i] ∧ σ = [.box 43 (psc p), .box 45 (ptc q), .box 45 (ptc q)]) ⟨0, Nat.zero_le _, rfl, rfl, rfl⟩ ?_
  rintro m vs σ ⟨i, hi, rfl, rfl, rfl⟩
  simp only [sets, nf, psc, ptc]
  refine ic_seq ?_
  refine ic_seq ?_
  refine ic_region ?_
  refine x_op ?_
  refine x_op ?_
  refine x_op ?_
  refine x_op ?_
  refine x_op ?_
  refine il_nil ?_
  refine ic_cond rfl (fun hc => ?_) (fun hc => ?_) -- t56
  · -- true
    have hil : i < q.path.length := by have := of_decide_eq_true hc; omega
    have hxi : (q.path.map eI)[((i : Nat) : Int).toNat]? = some (eI q.path[i]) := by simp [hil]
    refine ic_skip ?_
    refine ic_seq ?_
    refine ic_block ?_ -- 1
    refine ic_seq ?_
    refine ic_drawq 11 (by kernel_rfl) rfl rfl ?_
    refine q_op ?_
    refine q_op ?_
    refine q_op ?_
    refine q_op ?_
    refine q_op ?_
    refine q_op ?_
    refine q_op ?_
    refine q_op ?_
    refine q_op ?_
    refine q_op ?_
    refine q_op ?_
    refine iq_nil ?_
    refine d_done ?_
    refine ic_cond rfl (fun hc => ?_) (fun hc => ?_) -- t69
    · exfalso
      simp at hc
    · -- false
      refine ic_skip ?_
      refine ic_region ?_
      refine x_op ?_
      refine x_op ?_
      refine x_op ?_
      refine il_nil ?_
      exact x_next (q.path.length - (i + 1)) ⟨i + 1, by omega, rfl, rfl, rfl⟩ (by omega) -- round
  · -- false
    refine ic_exit ?_ -- 0
    refine ic_seq ?_
    refine ic_region ?_
    refine x_op ?_
    refine x_op ?_
    refine x_cv (hs.same d false false) ?_
    simp only [decide_true]
    refine x_op ?_
    refine y_cv (awake_calls) ?_
    refine x_op ?_
    refine x_op ?_
    refine il_nil ?_
    refine ic_ret ?_
    repeat (first | with_reducible refine it_ret ?_ | with_reducible refine ib_ret ?_)
    exact x_res1 Tryz.results4 rfl
end Go.Proofs.YtokbhcnomffopaaGreatDoor
end

section
/- RenderPoint: from its contract to its card. -/
set_option linter.unusedVariables false
set_option linter.unusedSimpArgs false
set_option maxHeartbeats 4000000
set_option maxRecDepth 100000
namespace Go.Proofs.YtokbhcnomffopaaGreatDoor
open Go Go.QL Go.RowKit Go.ChangeShapes Go.WideShapes Go.ChangeAt Go.Shelf

theorem renderPoint_witness (os : Os) {H : Type} (enc : TypeId × Value → H) :
    (OpenSpec.ofChange Rows.renderPointSpec).preRow enc Tryz.prog Tryz.f4 Rows.renderPointRow.domain false Rows.renderPointRow.laid ((laidWorld os).forCall (fun _ _ => 0) ⟨#[], #[.slice none 0 0, .agg #[.int .i64 0, .int .i64 0]], []⟩).memory #[.slice none 0 0, .agg #[.int .i64 0, .int .i64 0]] := by
  have hw : (DataW.whole enc Tryz.prog ((laidWorld os).forCall (fun _ _ => 0) ⟨#[], #[.slice none 0 0, .agg #[.int .i64 0, .int .i64 0]], []⟩).memory Tryz.f4.params.toList (OpenSpec.ofChange Rows.renderPointSpec).vars false (#[.slice none 0 0, .agg #[.int .i64 0, .int .i64 0]] : Array Value).toList 8).map (fun x => (x.1, x.2.1)) =
      some ([.nil, .agg [.lit (.int .i64 0), .lit (.int .i64 0)]], []) := by kernel_rfl
  obtain ⟨⟨x1, x2, x3⟩, hx, hx1⟩ := Option.map_eq_some_iff.1 hw
  simp only [Prod.mk.injEq] at hx1
  obtain ⟨rfl, rfl⟩ := hx1
  exact OpenSpec.preRow_of_cond 8 hx (by kernel_rfl) (fun k hk => by cases hk) (by kernel_rfl) (laid_met os _)

theorem renderPoint_lifted (os : Os) (started : os.Started) (H : Type) (enc : TypeId × Value → H) (F : Stop.Interp) :
    ReturnsInHanded {} Tryz.checked os 4 .any ((OpenSpec.ofChange Rows.renderPointSpec).preRow enc Tryz.prog Tryz.f4 Rows.renderPointRow.domain false Rows.renderPointRow.laid) (((OpenSpec.ofChange Rows.renderPointSpec).at F).post enc Tryz.prog Tryz.f4 false true false false) := by
  refine returnsInHanded_of_row (C := Tryz.checked) (s := (OpenSpec.ofChange Rows.renderPointSpec)) own started (by kernel_rfl) Tryz.func4
    (witness_row_atRef (enc := enc) (C := Tryz.checked) false (laidWorld os) #[.slice none 0 0, .agg #[.int .i64 0, .int .i64 0]] rfl (by kernel_rfl) (by kernel_rfl) (by kernel_rfl) (renderPoint_witness os enc)) ?_
  intro W base args ds gs before hval0 hW _ _ hsz0 hL hsh _
  have hW' := hW
  obtain ⟨p, q, hA0, hV0, rfl, _, _⟩ := hW
  have hA : DataW.TrodAll enc Tryz.prog W 0 (fun _ => true) true Tryz.f4.params.toList args.toList ds p := hA0
  have hsz : (DataW.weightsEach Tryz.prog (Tryz.f4.params.toList ++ (OpenSpec.ofChange Rows.renderPointSpec).bare.plain.varTypes Tryz.prog) (ds ++ gs)).all (· ≤ reachBytes) = true := hsz0
  rw [Tryz.params4] at hA hsz
  obtain ⟨v0, v1, d0, d1, p0, p1, rfl, rfl, rfl, h0, h1⟩ := trodAll_two hA
  obtain ⟨rfl, rfl⟩ := trodVars_none hV0
  obtain ⟨a0, n0, c0, rfl⟩ := okWide_slice Tryz.underlying22 (hval0 0 _ _ (by rw [Tryz.params4]; rfl) rfl)
  obtain ⟨c1, rfl, z1⟩ := okWide_struct Tryz.underlying43 (hval0 1 _ _ (by rw [Tryz.params4]; rfl) rfl)
  obtain ⟨fuel0, k0⟩ := h0
  obtain ⟨x0, r0, s0⟩ := (opens_doc) fuel0 _ _ k0 (fun n hn => of_decide_eq_true (List.all_eq_true.1 hsz n (DataW.weights_mem_each (j := 0) rfl rfl n hn)))
  obtain ⟨fuel1, k1⟩ := h1
  obtain ⟨x1, r1, s1⟩ := (opens_pos) fuel1 _ _ k1 (fun n hn => of_decide_eq_true (List.all_eq_true.1 hsz n (DataW.weights_mem_each (j := 1) rfl rfl n hn)))
  have hcall := start (v := .bool true) (vs := #[.slice a0 n0 c0, .agg c1]) (pointLaw_calls x0 s0 x1) (laid_of hL hsh) (.cons (rel_one r0) (.cons (rel_agg r1) rel_nil)) (fun D v' h => bool_is h) (Dat.bool _)
  refine hcall.mono ?_
  rintro e W' ⟨rfl, bel⟩
  have hlt : ∀ x ∈ p0 ++ p1, x.block < W.heap.size := fun x hx => by simpa using hW'.lt x (by simpa using hx)
  have e1 : ((OpenSpec.ofChange Rows.renderPointSpec).at F).fn H ([d0, d1] ++ []) = { results := [.lit (.bool true)], args := [d0, d1] } := rfl
  refine ⟨_, rfl, _, _, _, [], p0 ++ p1, [], hW', ?_, ?_, ?_, bel.frame _, fun h => by cases h⟩
  · rw [e1]; exact trodAll_mk1 (shut_bool Tryz.underlying4 _)
  · rw [e1]; exact trodAll_mk2 (Below.trod laidOut (by kernel_rfl) (of_decide_eq_true (by kernel_rfl)) ⟨fuel0, k0⟩ bel (fun x hx => hlt x (by simp [hx]))) (Below.trod laidOut (by kernel_rfl) (of_decide_eq_true (by kernel_rfl)) ⟨fuel1, k1⟩ bel (fun x hx => hlt x (by simp [hx])))
  · rw [e1]; rfl
theorem renderPoint_holds : Rows.RenderPointSaid :=
  OpenClaim.holds_of_cond 4 Tryz.f4 rfl rfl rfl rfl rfl rfl rfl ⟨rfl, rfl, rfl, rfl, rfl⟩ rfl rfl rfl rfl rfl (by kernel_rfl) Tryz.func4 (by kernel_rfl)
    (of_decide_eq_true (by kernel_rfl)) (by unfold Func.isWrapper; rw [if_neg (of_decide_eq_false (by kernel_rfl))]; exact ⟨rfl, rfl⟩)
    (fun os started H enc _ F0 => by rw [OpenClaim.pre_eq_preRow]; exact renderPoint_lifted os started H enc F0)
theorem renderPoint_card : Rows.RenderPointCardSaid :=
  Claim7.holds_tied_plain_at .later [] [.data, .pinned] true (true, "b79d54f95cbf1f33f01e1f1e23298303b1787279ff25b8b027e7da99582a1e25") false
    renderPoint_holds (fun _ h => by cases h) (by kernel_rfl) (fun _ h => by cases h) renderPoint_row_tie rfl ⟨rfl, rfl⟩ (by kernel_rfl) rfl
    (fun f fn hf hfn => by
      obtain rfl : f = 4 := Option.some.inj ((show Tryz.prog.funcNamed "quillwork/quillworklaw19.RenderPoint" = some 4 by kernel_rfl).symm.trans hf) |>.symm
      obtain rfl : fn = Tryz.f4 := (Option.some.inj (Tryz.func4.symm.trans hfn)).symm
      exact ⟨by kernel_rfl, fun j t ht => by
        rw [Tryz.params4] at ht
        have hm : t ∈ [22, 43] := by simpa using Array.mem_of_getElem? ht
        have hall : ([22, 43].all fun u => !Tryz.prog.wantsStandIn u) = true := by kernel_rfl
        exact (show Tryz.prog.wantsStandIn t = false by simpa using List.all_eq_true.1 hall t hm)⟩)
    (by kernel_rfl)
end Go.Proofs.YtokbhcnomffopaaGreatDoor
end

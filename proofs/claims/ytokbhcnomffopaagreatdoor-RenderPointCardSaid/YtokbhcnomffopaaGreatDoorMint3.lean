/- Part 3 of the texts below the theorem of the last part. -/
import Derived.ChangeArms
import Derived.SizedLaws
import Derived.Test.YtokbhcnomffopaaGreatDoorRows
import Derived.Lib.LaidU8T
import Derived.PinnedBridge
import Derived.Shelf.Vars
import Derived.MakeChecks
import Derived.LaidHandle
import Derived.Deep.DeepHandedRow
import Derived.Deep.DeepWitnessRowRef
import Derived.ProofKit
import Derived.Lib.LaidIn
import Derived.Carry
import Derived.OpenShut
import Derived.Laws.StructEq
import Derived.Lib.DecodeN
import Derived.Lib.MapLaws
import Derived.Lib.ValidLaws
import Derived.Lib.TrimUEq
import Derived.Test.YtokbhcnomffopaaGreatDoorMint2
section
/- The contracts of package value, and of what it calls. -/
set_option linter.unusedVariables false
set_option linter.unusedSimpArgs false
set_option maxHeartbeats 4000000
namespace Go.Proofs.YtokbhcnomffopaaGreatDoor
open Go Go.QL

theorem cloneA_calls (f : Bool) (l : List At) (hl : l.length ≤ 4294967296) : ICalls Tryz.prog 72 [.sl f (l.map eA)] [] (fun u _ => u = eAs l) := by
  refine x_enter Tryz.func72 Tryz.ntmps72 ?_
  refine ic_seq ?_
  refine ic_region ?_
  refine x_op ?_
  refine il_nil ?_
  refine ic_seq ?_
  refine ic_seq ?_
  refine ic_region ?_
  refine x_op ?_
  refine il_kn rfl (op_eqlnil SlC.h rfl rfl rfl) ?_
  rintro v σ' ⟨rfl, b, rfl, hb⟩
  refine ⟨_, x_nf, ?_⟩
  refine il_nil ?_
  refine ic_cond rfl (fun hc => ?_) (fun hc => ?_) -- t4
  · -- true
    refine ic_seq ?_
    refine ic_region ?_
    refine x_op ?_
    refine il_nil ?_
    refine ic_ret ?_
    repeat (first | with_reducible refine it_ret ?_ | with_reducible refine ib_ret ?_)
    have := List.map_eq_nil_iff.1 (hb hc)
    subst this
    exact ⟨rfl, _, ires_wk (ires_tmp Tryz.results72 x_le) (Wk.nils false), rfl⟩
  · -- false
    refine ic_skip ?_
    refine ic_seq ?_
    refine ic_region ?_
    refine x_op ?_
    refine x_op ?_
    refine x_op ?_
    refine x_op ?_
    refine il_nil ?_
    refine ic_freeze 2 rfl rfl (by simp) ?_
    refine ic_ret ?_
    repeat (first | with_reducible refine it_ret ?_ | with_reducible refine ib_ret ?_)
    exact ⟨rfl, _, ires_tmp Tryz.results72 x_le, rfl⟩

abbrev owns_t (l : List Nd) (f : Bool) (i : Nat) : List IV := [.sl f (l.map eN), .junk, .junk, .row 0 i, .junk, .junk, .sl f (l.map eN), .int .i64 l.length, .int .i64 i, .junk, .junk, .junk, .junk, .junk, .junk, .junk, .junk, .junk, .junk]
abbrev owns_s (l : List Nd) (i : Nat) : List IObj := [.row 35 4 ((l.take i).map eN)]
theorem owns_calls' (l : List Nd) (f : Bool) (hl : l.length ≤ 4294967296) (ho : ∀ n ∈ l, ICalls Tryz.prog 45 [eN n] [] (fun u _ => u = eN n)) : ICalls Tryz.prog 52 [.sl f (l.map eN)] [] (fun u _ => u = eNs l) := by
  refine x_enter Tryz.func52 Tryz.ntmps52 ?_
  refine ic_seq ?_
  refine ic_region ?_
  refine x_op ?_
  refine il_nil ?_
  refine ic_seq ?_
  refine ic_region ?_
  refine x_op ?_
  refine il_nil ?_
  refine ic_seq ?_
  refine ic_seq ?_
  refine ic_region ?_
  refine x_op ?_
  refine x_op ?_
  refine x_op ?_
  refine il_nil ?_
  refine ic_block ?_ -- 0
  refine ic_row0t 3 35 4 rfl rfl x_nf x_nf ?_
  -- LOOP
  refine ic_loopT (fun m t σ => ∃ i : Nat, i ≤ l.length ∧ m = l.length - i ∧ t = owns_t l f i ∧ σ = owns_s l i) [] (m := l.length) (loose_mk (t' := owns_t l f 0) (σ' := owns_s l 0) (τ := []) x_wks rfl (Nat.zero_le _) x_lts marks_nil x_olts ?_) ?_
  · exact ⟨0, Nat.zero_le _, rfl, rfl, rfl⟩
  rintro m t σ ⟨i, hi, rfl, rfl, rfl⟩
  dsimp only [owns_t, owns_s]
  refine ic_seq ?_
  refine ic_region ?_
  refine x_op ?_
  refine il_nil ?_
  refine ic_seq ?_
  refine ic_cond rfl (fun hc => ?_) (fun hc => ?_) -- t9
  · -- true
    refine ic_skip ?_
    refine ic_seq ?_
    refine ic_block ?_ -- 1
    refine ic_seq ?_
    refine ic_region ?_
    have hil : i < l.length := by have := of_decide_eq_true hc; omega
    have hix : (l.map eN)[((i : Nat) : Int).toNat]? = some (eN l[i]) := by simp [hil]
    have e1 : (l.take i).length = i := by rw [List.length_take]; omega
    have e2 : (l.take i).map eN ++ [eN l[i]] = (l.take (i + 1)).map eN := by rw [List.take_succ_eq_append_getElem hil, List.map_append]; rfl
    refine x_op ?_
    refine x_op ?_
    refine x_op ?_
    refine x_op ?_
    refine il_nil ?_
    refine ic_region ?_
    refine x_op ?_
    refine x_op ?_
    refine il_callv rfl rfl rfl x_nf ((ho _ (List.getElem_mem hil)).frame1 x_dats (dat_eN _) _) x_nf ?_
    refine x_op ?_
    refine x_op ?_
    refine x_op ?_
    refine il_nil ?_
    refine ic_region ?_
    refine x_op ?_
    refine x_op ?_
    refine il_nil ?_
    simp only [e1, e2, List.length_cons, List.length_nil]
    exact ⟨l.length - (i + 1), by omega, loose_mk (t' := owns_t l f (i + 1)) (σ' := owns_s l (i + 1)) x_wks rfl (Nat.zero_le _) x_lts marks_nil x_olts ⟨i + 1, hil, rfl, rfl, rfl⟩⟩ -- round
  · -- false
    refine ic_exit ?_ -- 0
    refine ic_seq ?_
    refine ic_region ?_
    refine x_op ?_
    refine x_op ?_
    refine il_nil ?_
    obtain rfl : i = l.length := by have := of_decide_eq_false hc; omega
    refine ic_freeze 2 rfl rfl (by simp) ?_
    refine ic_ret ?_
    repeat (first | with_reducible refine it_ret ?_ | with_reducible refine ib_ret ?_)
    refine ⟨rfl, _, ires_tmp Tryz.results52 x_le, ?_⟩
    simp [nf, eNs]
theorem own_calls' (n : Nd) (hl : n.attrs.length ≤ 4294967296) (ho : ICalls Tryz.prog 52 [.sl false (n.kids.map eN)] [] (fun u _ => u = eNs n.kids)) : ICalls Tryz.prog 45 [eN n] [] (fun u _ => u = eN n) := by
  refine x_enter Tryz.func45 Tryz.ntmps45 ?_
  refine ic_seq ?_
  refine ic_region ?_
  refine x_op ?_
  refine x_op ?_
  refine il_nil ?_
  refine ic_seq ?_
  refine ic_drawq 7 (by kernel_rfl) rfl rfl ?_
  refine q_op ?_
  refine q_op ?_
  refine iq_callv rfl rfl rfl x_nf ((cloneA_calls false n.attrs hl).frame1 x_dats (dat_eAs _) _) x_nf ?_
  refine q_op ?_
  refine q_op ?_
  refine iq_callv rfl rfl rfl x_nf (ho.frame1 x_dats (dat_eNs _) _) x_nf ?_
  refine q_op ?_
  refine iq_nil ?_
  refine d_op 7 ?_
  refine d_op 8 ?_
  refine d_op 9 ?_
  refine d_done ?_
  refine ic_seq ?_
  refine ic_region ?_
  refine x_op ?_
  refine x_op ?_
  refine il_nil ?_
  refine ic_ret ?_
  repeat (first | with_reducible refine it_ret ?_ | with_reducible refine ib_ret ?_)
  refine ⟨rfl, _, ires_cell Tryz.results45 TyC.h rfl rfl (by simp), ?_⟩
  simp only [nf]
theorem own_all : ∀ (m : Nat), m ≤ 4294967296 → (∀ n : Nd, n.sz ≤ m → ICalls Tryz.prog 45 [eN n] [] (fun u _ => u = eN n))
  | 0, _, n, h => absurd (n.sz_eq ▸ h) (by omega)
  | m + 1, hm, n, h => by
    have hs := n.sz_eq
    exact own_calls' n (by omega) (owns_calls' n.kids false (by have := szl_len n.kids; omega) fun k hk => own_all m (by omega) k (by have := szl_mem hk; omega))
theorem own_calls (n : Nd) (h : n.sz ≤ 4294967296) : ICalls Tryz.prog 45 [eN n] [] (fun u _ => u = eN n) := own_all _ h n (Nat.le_refl _)
theorem owns_calls (l : List Nd) (f : Bool) (h : szl l ≤ 4294967296) : ICalls Tryz.prog 52 [.sl f (l.map eN)] [] (fun u _ => u = eNs l) :=
  owns_calls' l f (by have := szl_len l; omega) fun n hn => own_calls n (by have := szl_mem hn; omega)
theorem elem_calls (tag : Int) (l : List Nd) (f : Bool) (h : szl l ≤ 4294967296) : ICalls Tryz.prog 29 [.int .i64 tag, .sl f (l.map eN)] [] (fun u _ => u = eN (.mk tag [] ⟨#[]⟩ l)) := by
  refine x_enter Tryz.func29 Tryz.ntmps29 ?_
  refine ic_seq ?_
  refine ic_region ?_
  refine x_op ?_
  refine il_nil ?_
  refine ic_seq ?_
  refine ic_region ?_
  refine x_op ?_
  refine x_op ?_
  refine il_callv rfl rfl rfl x_nf ((owns_calls l f h).frame1 x_dats (dat_eNs _) _) x_nf ?_
  refine x_op ?_
  refine x_op ?_
  refine il_nil ?_
  refine ic_ret ?_
  repeat (first | with_reducible refine it_ret ?_ | with_reducible refine ib_ret ?_)
  exact ⟨rfl, eN (.mk tag [] ⟨#[]⟩ l), ires_wk (ires_cell Tryz.results29 TyC.h rfl rfl (by simp)) (by rw [← eN_mk]; exact Wk.agg x_wks), rfl⟩
theorem text_calls (s : Str) : ICalls Tryz.prog 132 [.str s] [] (fun u _ => u = eN (.mk 0 [] s [])) := by
  refine x_enter Tryz.func132 Tryz.ntmps132 ?_
  refine ic_seq ?_
  refine ic_region ?_
  refine x_op ?_
  refine il_nil ?_
  refine ic_seq ?_
  refine ic_region ?_
  refine x_op ?_
  refine x_op ?_
  refine x_op ?_
  refine il_nil ?_
  refine ic_ret ?_
  repeat (first | with_reducible refine it_ret ?_ | with_reducible refine ib_ret ?_)
  exact ⟨rfl, eN (.mk 0 [] s []), ires_wk (ires_cell Tryz.results132 TyC.h rfl rfl (by simp)) (by rw [← eN_mk]; exact Wk.agg x_wks), rfl⟩
end Go.Proofs.YtokbhcnomffopaaGreatDoor
end

section
/- The contract of value.Wrap. -/
set_option linter.unusedVariables false
set_option linter.unusedSimpArgs false
set_option maxHeartbeats 4000000
namespace Go.Proofs.YtokbhcnomffopaaGreatDoor
open Go Go.QL

abbrev wrap_t (bits : Int) (href : Str) (l : List Nd) (f : Bool) (i : Nat) : List IV := [.int .i64 bits, .str href, .sl f (l.map eN), .junk, .junk, .junk, .junk, eNs (wrapN bits l i), .junk, .junk, .junk, .junk, .sl true [.int .i64 14, .int .i64 13, .int .i64 12, .int .i64 11], .int .i64 4, .int .i64 i,
  .junk, .junk, .junk, .junk, .junk, .junk, .junk, .junk, .junk, .junk, .junk, .junk, .junk, .junk, .junk, .junk, .junk, .junk, .junk, .junk, .junk, .junk, .junk]
theorem wrap_calls (bits : Int) (href : Str) (l : List Nd) (f : Bool) (h : szl l ≤ 4294967296) : ICalls Tryz.prog 105 [.int .i64 bits, .str href, .sl f (l.map eN)] [] (fun u _ => u = eNs (wrapV bits href l)) := by
  refine x_enter Tryz.func105 Tryz.ntmps105 ?_
  refine ic_seq ?_
  refine ic_region ?_
  refine x_op ?_
  refine il_nil ?_
  refine ic_seq ?_
  refine ic_region ?_
  refine x_op ?_
  refine il_callv rfl rfl rfl x_nf ((owns_calls l f h).frame1 x_dats (dat_eNs _) _) x_nf ?_
  refine x_op ?_
  refine il_nil ?_
  refine ic_seq ?_
  refine ic_seq ?_
  refine ic_region ?_
  refine x_op ?_
  refine x_op ?_
  refine x_op ?_
  refine il_nil ?_
  refine ic_block ?_ -- 0
  -- LOOP
  refine ic_loopT (fun m t σ => ∃ i : Nat, i ≤ 4 ∧ m = 4 - i ∧ t = wrap_t bits href l f i ∧ σ = []) [] (m := 4) (loose_mk (t' := wrap_t bits href l f 0) (σ' := []) (τ := []) x_wks rfl (Nat.zero_le _) x_lts marks_nil x_olts ?_) ?_
  · exact ⟨0, Nat.zero_le _, rfl, rfl, rfl⟩
  rintro m t σ ⟨i, hi, rfl, rfl, rfl⟩
  dsimp only [wrap_t]
  refine ic_seq ?_
  refine ic_region ?_
  refine x_op ?_
  refine il_nil ?_
  refine ic_seq ?_
  refine ic_cond rfl (fun hc => ?_) (fun hc => ?_) -- t15
  · -- true
    have hil : i < 4 := by have := of_decide_eq_true hc; omega
    have hix : [IV.int .i64 14, IV.int .i64 13, IV.int .i64 12, IV.int .i64 11][((i : Nat) : Int).toNat]? = some (.int .i64 (14 - i)) := by
      rcases i with _ | _ | _ | _ | i <;> first | rfl | omega
    refine ic_skip ?_
    refine ic_seq ?_
    refine ic_block ?_ -- 1
    refine ic_seq ?_
    refine ic_region ?_
    refine x_op ?_
    refine x_op ?_
    refine x_op ?_
    refine il_nil ?_
    refine ic_seq ?_
    refine ic_region ?_
    refine x_op ?_
    refine x_op ?_
    refine x_op ?_
    refine x_op ?_
    refine x_op ?_
    refine x_op ?_
    refine il_nil ?_
    refine ic_cond rfl (fun hc => ?_) (fun hc => ?_) -- t23
    · -- true
      have e1 : wrapN bits l (i + 1) = [.mk (14 - i) [] ⟨#[]⟩ (wrapN bits l i)] := by
        simp only [wrapN, wrap1]
        rw [if_neg (by simpa using hc)]
      refine ic_region ?_
      refine x_op ?_
      refine x_op ?_
      refine x_op ?_
      refine x_op ?_
      refine x_op ?_
      refine il_nil ?_
      refine ic_region ?_
      refine x_op ?_
      refine x_op ?_
      refine il_nil ?_
      exact ⟨4 - (i + 1), by omega, loose_mk (t' := wrap_t bits href l f (i + 1)) (σ' := []) (by rw [wrap_t, e1]; repeat (first | exact Wks.nil | refine Wks.cons (Wk.refl _) ?_ | refine Wks.cons (Wk.junk _) ?_ | refine Wks.cons (Wk.nd1 (Wk.nils _) (Wk.refl _)) ?_)) rfl (Nat.zero_le _) x_lts marks_nil x_olts ⟨i + 1, hil, rfl, rfl, rfl⟩⟩ -- round
    · -- false
      have e1 : wrapN bits l (i + 1) = wrapN bits l i := by
        simp only [wrapN, wrap1]
        rw [if_pos (by simpa using hc)]
      refine ic_skip ?_
      refine ic_region ?_
      refine x_op ?_
      refine x_op ?_
      refine il_nil ?_
      exact ⟨4 - (i + 1), by omega, loose_mk (t' := wrap_t bits href l f (i + 1)) (σ' := []) (by rw [wrap_t, e1]; repeat (first | exact Wks.nil | refine Wks.cons (Wk.refl _) ?_ | refine Wks.cons (Wk.junk _) ?_)) rfl (Nat.zero_le _) x_lts marks_nil x_olts ⟨i + 1, hil, rfl, rfl, rfl⟩⟩ -- round
  · -- false
    refine ic_exit ?_ -- 0
    obtain rfl : i = 4 := by have := of_decide_eq_false hc; omega
    refine ic_seq ?_
    refine ic_seq ?_
    refine ic_region ?_
    refine x_op ?_
    refine x_op ?_
    refine il_nil ?_
    refine ic_cond rfl (fun hc => ?_) (fun hc => ?_) -- t30
    · -- true
      have e1 : wrapV bits href l = [.mk 10 [hrefAt href] ⟨#[]⟩ (wrapN bits l 4)] := by
        simp only [wrapV]
        rw [if_neg (by simpa using hc)]
      refine ic_region ?_
      refine x_op ?_
      refine x_op ?_
      refine x_op ?_
      refine x_op ?_
      refine x_op ?_
      refine x_op ?_
      refine x_op ?_
      refine il_nil ?_
      refine ic_seq ?_
      refine ic_region ?_
      refine x_op ?_
      refine x_op ?_
      refine il_nil ?_
      refine ic_ret ?_
      repeat (first | with_reducible refine it_ret ?_ | with_reducible refine ib_ret ?_)
      exact ⟨rfl, eNs (wrapV bits href l), ires_wk (ires_tmp Tryz.results105 x_le) (by rw [e1]; exact Wk.nd1 (Wk.sl _ [eA (hrefAt href)]) (Wk.refl _)), rfl⟩
    · -- false
      have e1 : wrapV bits href l = wrapN bits l 4 := by
        simp only [wrapV]
        rw [if_pos (by simpa using hc)]
      refine ic_skip ?_
      refine ic_seq ?_
      refine ic_region ?_
      refine x_op ?_
      refine x_op ?_
      refine il_nil ?_
      refine ic_ret ?_
      repeat (first | with_reducible refine it_ret ?_ | with_reducible refine ib_ret ?_)
      exact ⟨rfl, _, ires_tmp Tryz.results105 x_le, by rw [e1]; rfl⟩
end Go.Proofs.YtokbhcnomffopaaGreatDoor
end

section
/- The contracts of render.parts, and of what tells parts. -/
set_option linter.unusedVariables false
set_option linter.unusedSimpArgs false
set_option maxHeartbeats 4000000
namespace Go.Proofs.YtokbhcnomffopaaGreatDoor
open Go Go.QL

theorem ctext_calls (l : List Int) (f : Bool) : ICalls Tryz.prog 133 [.sl f (l.map eR)] [] (fun u _ => u = .str (strOf l)) := by
  refine x_enter Tryz.func133 Tryz.ntmps133 ?_
  refine ic_seq ?_
  refine ic_region ?_
  refine x_op ?_
  refine il_nil ?_
  refine ic_seq ?_
  refine ic_region ?_
  refine x_op ?_
  refine il_dn rfl (op_strOf (l := l) SlC.h StrC.h IntC.h rfl rfl) x_nf x_nf ?_
  refine x_op ?_
  refine il_nil ?_
  refine ic_ret ?_
  repeat (first | with_reducible refine it_ret ?_ | with_reducible refine ib_ret ?_)
  exact ⟨rfl, _, ires_tmp Tryz.results133 x_le, rfl⟩
theorem partsC_calls (xs : List Cel) (b : Bool) (g : Fn) (fs cs : List IV) : ICalls Tryz.prog 103 [.sl b (xs.map eC), .fn g fs cs] [] (fun u _ => u = .fn (.func 117) [] [.dptr [.sl b (xs.map eC)], .dptr [.fn g fs cs]]) := by
  refine x_enter Tryz.func103 Tryz.ntmps103 ?_
  refine ic_seq ?_
  refine ic_region ?_
  refine x_op ?_
  refine x_op ?_
  refine x_op ?_
  refine il_nil ?_
  refine ic_seq ?_
  refine ic_region ?_
  refine x_op ?_
  refine x_op ?_
  refine il_nil ?_
  refine ic_fbox 0 rfl rfl rfl ?_
  refine ic_fbox 1 rfl rfl rfl ?_
  refine ic_ret ?_
  repeat (first | with_reducible refine it_ret ?_ | with_reducible refine ib_ret ?_)
  exact ⟨rfl, _, ires_tmp Tryz.results103 x_le, rfl⟩
abbrev partsC_t (xs : List Cel) (b : Bool) (g : Nat) (fs cs : List IV) (k : Nat) (i : Nat) (j q : IV) : List IV := [.yf k, .dptr [.sl b (xs.map eC)], .dptr [.fn (.func g) fs cs], .junk, .int .i64 i, j, .junk, .junk, .junk, .junk, .junk, .junk, .junk, .junk, .junk, .junk, .junk, .junk, .junk, .junk, .junk, .junk, .junk, .junk, .junk, .junk, .junk, q, .junk, .junk, .junk, .junk, .junk, .junk, .junk, .junk, .junk, .junk]
theorem partsC1_calls (xs : List Cel) (b : Bool) (g : Nat) (fs cs : List IV) (al : Cel → Cel → Bool) (k : Nat) (J : List Cel → List IObj → Prop) (σ0 : List IObj) (h0 : J xs σ0) (hlen : xs.length ≤ 4294967296) [FunC Tryz.prog g]
    (hal : ∀ x ∈ xs, ∀ y ∈ xs, ∀ σ, ICalls Tryz.prog g (fs ++ [eC x, eC y] ++ cs) σ (fun u σ' => u = .bool (al x y) ∧ σ' = σ))
    (hy : ∀ x tl σ, J (x :: tl) σ → IYield Tryz.prog k [.sl false ((x :: tl.takeWhile (al x)).map eC)] σ (fun t σ' => t = true ∧ J (tl.dropWhile (al x)) σ')) :
    ICalls Tryz.prog 117 [.yf k, .dptr [.sl b (xs.map eC)], .dptr [.fn (.func g) fs cs]] σ0 (fun u σ' => u = .tup [] ∧ J [] σ') := by
  refine x_enter Tryz.func117 Tryz.ntmps117 ?_
  refine ic_seq ?_
  refine ic_region ?_
  refine x_op ?_
  refine il_nil ?_
  refine ic_block ?_ -- 0
  -- LOOP
  refine ic_loopW (fun m t σ => ∃ i : Nat, i ≤ xs.length ∧ m = xs.length - i ∧ t = partsC_t xs b g fs cs k i .junk .junk ∧ J (xs.drop i) σ) [] (m := xs.length) (loosew_mk (t' := partsC_t xs b g fs cs k 0 .junk .junk) x_wks ?_) ?_
  · exact ⟨0, Nat.zero_le _, rfl, rfl, h0⟩
  rintro m t σ ⟨i, hi, rfl, rfl, hJ⟩
  dsimp only [partsC_t]
  refine ic_seq ?_
  refine ic_seq ?_
  refine ic_region ?_
  refine x_op ?_
  refine x_op ?_
  refine x_op ?_
  refine x_op ?_
  refine il_nil ?_
  refine ic_cond rfl (fun hc => ?_) (fun hc => ?_) -- t9
  · -- true
    have hil : i < xs.length := by have := of_decide_eq_true hc; omega
    have hxi : (xs.map eC)[((i : Nat) : Int).toNat]? = some (eC xs[i]) := by simp [hil]
    have hdr : xs.drop i = xs[i] :: xs.drop (i + 1) := List.drop_eq_getElem_cons hil
    refine ic_skip ?_
    refine ic_block ?_ -- 1
    refine ic_seq ?_
    refine ic_region ?_
    refine x_op ?_
    refine x_op ?_
    refine x_op ?_
    refine il_nil ?_
    refine ic_seq ?_
    refine ic_block ?_ -- 2
    -- LOOP
    refine ic_loopW (fun m t σ' => σ' = σ ∧ ∃ j : Nat, i < j ∧ j ≤ xs.length ∧ m = xs.length - j ∧ t = partsC_t xs b g fs cs k i (.int .i64 j) .junk ∧ ∀ y ∈ (xs.drop (i + 1)).take (j - (i + 1)), al xs[i] y = true) [] (m := xs.length - (i + 1)) (loosew_mk (t' := partsC_t xs b g fs cs k i (.int .i64 ((i + 1 : Nat))) .junk) x_wks ?_) ?_
    · exact ⟨rfl, i + 1, by omega, by omega, rfl, rfl, by simp⟩
    rintro m t σ' ⟨rfl, j, hij, hjl, rfl, rfl, hall⟩
    dsimp only [partsC_t]
    refine ic_seq ?_
    refine ic_seqM (fun a s => s = σ' ∧ LooseW (fun t _ => ∃ v : Bool, t = partsC_t xs b g fs cs k i (.int .i64 j) (.bool v) ∧ (v = true → ∃ h : j < xs.length, al xs[i] xs[j] = true) ∧ (v = false → ∀ y, xs[j]? = some y → al xs[i] y = false)) [] a s) ?_ ?_
    · -- DRAW R3
      refine ic_drawq 16 (by kernel_rfl) rfl rfl ?_
      refine q_op ?_
      refine q_op ?_
      refine q_op ?_
      refine q_op ?_
      refine q_op ?_
      rcases Nat.lt_or_ge j xs.length with hjn | hjn
      · have hdec : decide ((j : Int) < (xs.length : Int)) = true := decide_eq_true (by omega)
        have hxj : (xs.map eC)[((j : Nat) : Int).toNat]? = some (eC xs[j]) := by simp [hjn]
        simp only [hdec]
        refine qy_op ?_
        refine qy_op ?_
        refine qy_op ?_
        refine qy_op ?_
        refine qy_op ?_
        refine qy_op ?_
        refine qy_op ?_
        refine qy_op ?_
        refine qy_op ?_
        refine iq_ycallv rfl rfl rfl rfl x_nf (hal xs[i] (List.getElem_mem _) xs[j] (List.getElem_mem _) _) x_nf ?_
        refine q_op ?_
        refine iq_nil ?_
        refine ig_done (by kernel_rfl) ?_
        exact ⟨rfl, loosew_mk (t' := partsC_t xs b g fs cs k i (.int .i64 j) (.bool (al xs[i] xs[j]))) x_wks ⟨_, rfl, fun h => ⟨hjn, h⟩, fun h y hy => by rw [List.getElem?_eq_getElem hjn] at hy; cases hy; exact h⟩⟩
      · have hdec : decide ((j : Int) < (xs.length : Int)) = false := decide_eq_false (by omega)
        simp only [hdec]
        refine qn_op ?_
        refine qn_op ?_
        refine qn_op ?_
        refine qn_op ?_
        refine qn_op ?_
        refine qn_op ?_
        refine qn_op ?_
        refine qn_op ?_
        refine qn_op ?_
        refine qn_op ?_
        refine q_op ?_
        refine iq_nil ?_
        refine ig_done (by kernel_rfl) ?_
        exact ⟨rfl, loosew_mk (t' := partsC_t xs b g fs cs k i (.int .i64 j) (.bool false)) x_wks ⟨_, rfl, fun h => (by cases h), fun h y hy => by rw [List.getElem?_eq_none hjn] at hy; cases hy⟩⟩
    rintro a s ⟨rfl, hl⟩
    refine hl.ic ?_
    rintro t ⟨v, rfl, hv1, hv2⟩
    dsimp only [partsC_t]
    refine ic_cond rfl (fun hc => ?_) (fun hc => ?_) -- t27
    · -- true
      obtain ⟨hjn, hal1⟩ := hv1 hc
      refine ic_skip ?_
      refine ic_block ?_ -- 3
      refine ic_region ?_
      refine x_op ?_
      refine x_op ?_
      refine x_op ?_
      refine il_nil ?_
      refine ⟨xs.length - (j + 1), by omega, loosew_mk (t' := partsC_t xs b g fs cs k i (.int .i64 ((j + 1 : Nat))) .junk) x_wks ⟨rfl, j + 1, by omega, hjn, rfl, rfl, ?_⟩⟩ -- round
      intro y hy
      have e1 : j + 1 - (i + 1) = (j - (i + 1)) + 1 := by omega
      rw [e1, List.take_add_one, List.mem_append] at hy
      rcases hy with hy | hy
      · exact hall y hy
      · rw [List.getElem?_drop, show i + 1 + (j - (i + 1)) = j by omega, List.getElem?_eq_getElem hjn] at hy
        simp at hy
        subst hy
        exact hal1
    · -- false
      obtain ⟨htw, hdw⟩ := takeWhile_split (al xs[i]) (xs.drop (i + 1)) (j - (i + 1)) hall (by rw [List.length_drop]; omega) (fun y hy => hv2 hc y (by rw [List.getElem?_drop, show i + 1 + (j - (i + 1)) = j by omega] at hy; exact hy))
      rw [List.drop_drop, show i + 1 + (j - (i + 1)) = j by omega] at hdw
      have esl : ((xs.map eC).take (j : Int).toNat).drop (i : Int).toNat = (xs[i] :: (xs.drop (i + 1)).takeWhile (al xs[i])).map eC := by
        rw [htw, Int.toNat_natCast, Int.toNat_natCast, ← List.map_take, ← List.map_drop, List.drop_take, hdr, show j - i = (j - (i + 1)) + 1 by omega, List.take_succ_cons]
      refine ic_exit ?_ -- 2
      refine ic_seq ?_
      refine ic_seq ?_
      refine ic_region ?_
      refine x_op ?_
      refine x_op ?_
      refine x_op ?_
      refine x_op ?_
      refine x_op ?_
      rw [esl]
      refine il_kn rfl (op_yield rfl rfl (hy _ _ _ (hdr ▸ hJ))) ?_
      rintro v' σ2 ⟨t, rfl, rfl, hJ2⟩
      refine ⟨_, x_nf, ?_⟩
      refine x_op ?_
      refine il_nil ?_
      refine ic_cond rfl (fun hc => ?_) (fun hc => ?_) -- t36
      · cases hc
      · -- false
        refine ic_skip ?_
        refine ic_region ?_
        refine x_op ?_
        refine x_op ?_
        refine il_nil ?_
        exact ⟨xs.length - j, by omega, loosew_mk (t' := partsC_t xs b g fs cs k j .junk .junk) x_wks ⟨j, hjl, rfl, rfl, hdw ▸ hJ2⟩⟩ -- round
  · -- false
    refine ic_exit ?_ -- 0
    obtain rfl : i = xs.length := by have := of_decide_eq_false hc; omega
    rw [List.drop_length] at hJ
    exact ⟨rfl, _, ires_none Tryz.results117, rfl, hJ⟩
theorem partsL_calls (xs : List Lin) (b : Bool) (g : Fn) (fs cs : List IV) : ICalls Tryz.prog 55 [.sl b (xs.map eL), .fn g fs cs] [] (fun u _ => u = .fn (.func 79) [] [.dptr [.sl b (xs.map eL)], .dptr [.fn g fs cs]]) := by
  refine x_enter Tryz.func55 Tryz.ntmps55 ?_
  refine ic_seq ?_
  refine ic_region ?_
  refine x_op ?_
  refine x_op ?_
  refine x_op ?_
  refine il_nil ?_
  refine ic_seq ?_
  refine ic_region ?_
  refine x_op ?_
  refine x_op ?_
  refine il_nil ?_
  refine ic_fbox 0 rfl rfl rfl ?_
  refine ic_fbox 1 rfl rfl rfl ?_
  refine ic_ret ?_
  repeat (first | with_reducible refine it_ret ?_ | with_reducible refine ib_ret ?_)
  exact ⟨rfl, _, ires_tmp Tryz.results55 x_le, rfl⟩
abbrev partsL_t (xs : List Lin) (b : Bool) (g : Nat) (fs cs : List IV) (k : Nat) (i : Nat) (j q : IV) : List IV := [.yf k, .dptr [.sl b (xs.map eL)], .dptr [.fn (.func g) fs cs], .junk, .int .i64 i, j, .junk, .junk, .junk, .junk, .junk, .junk, .junk, .junk, .junk, .junk, .junk, .junk, .junk, .junk, .junk, .junk, .junk, .junk, .junk, .junk, .junk, q, .junk, .junk, .junk, .junk, .junk, .junk, .junk, .junk, .junk, .junk]
theorem partsL1_calls (xs : List Lin) (b : Bool) (g : Nat) (fs cs : List IV) (al : Lin → Lin → Bool) (k : Nat) (J : List Lin → List IObj → Prop) (σ0 : List IObj) (h0 : J xs σ0) (hlen : xs.length ≤ 4294967296) [FunC Tryz.prog g]
    (hal : ∀ x ∈ xs, ∀ y ∈ xs, ∀ σ, ICalls Tryz.prog g (fs ++ [eL x, eL y] ++ cs) σ (fun u σ' => u = .bool (al x y) ∧ σ' = σ))
    (hy : ∀ x tl σ, J (x :: tl) σ → IYield Tryz.prog k [.sl false ((x :: tl.takeWhile (al x)).map eL)] σ (fun t σ' => t = true ∧ J (tl.dropWhile (al x)) σ')) :
    ICalls Tryz.prog 79 [.yf k, .dptr [.sl b (xs.map eL)], .dptr [.fn (.func g) fs cs]] σ0 (fun u σ' => u = .tup [] ∧ J [] σ') := by
  refine x_enter Tryz.func79 Tryz.ntmps79 ?_
  refine ic_seq ?_
  refine ic_region ?_
  refine x_op ?_
  refine il_nil ?_
  refine ic_block ?_ -- 0
  -- LOOP
  refine ic_loopW (fun m t σ => ∃ i : Nat, i ≤ xs.length ∧ m = xs.length - i ∧ t = partsL_t xs b g fs cs k i .junk .junk ∧ J (xs.drop i) σ) [] (m := xs.length) (loosew_mk (t' := partsL_t xs b g fs cs k 0 .junk .junk) x_wks ?_) ?_
  · exact ⟨0, Nat.zero_le _, rfl, rfl, h0⟩
  rintro m t σ ⟨i, hi, rfl, rfl, hJ⟩
  dsimp only [partsL_t]
  refine ic_seq ?_
  refine ic_seq ?_
  refine ic_region ?_
  refine x_op ?_
  refine x_op ?_
  refine x_op ?_
  refine x_op ?_
  refine il_nil ?_
  refine ic_cond rfl (fun hc => ?_) (fun hc => ?_) -- t9
  · -- true
    have hil : i < xs.length := by have := of_decide_eq_true hc; omega
    have hxi : (xs.map eL)[((i : Nat) : Int).toNat]? = some (eL xs[i]) := by simp [hil]
    have hdr : xs.drop i = xs[i] :: xs.drop (i + 1) := List.drop_eq_getElem_cons hil
    refine ic_skip ?_
    refine ic_block ?_ -- 1
    refine ic_seq ?_
    refine ic_region ?_
    refine x_op ?_
    refine x_op ?_
    refine x_op ?_
    refine il_nil ?_
    refine ic_seq ?_
    refine ic_block ?_ -- 2
    -- LOOP
    refine ic_loopW (fun m t σ' => σ' = σ ∧ ∃ j : Nat, i < j ∧ j ≤ xs.length ∧ m = xs.length - j ∧ t = partsL_t xs b g fs cs k i (.int .i64 j) .junk ∧ ∀ y ∈ (xs.drop (i + 1)).take (j - (i + 1)), al xs[i] y = true) [] (m := xs.length - (i + 1)) (loosew_mk (t' := partsL_t xs b g fs cs k i (.int .i64 ((i + 1 : Nat))) .junk) x_wks ?_) ?_
    · exact ⟨rfl, i + 1, by omega, by omega, rfl, rfl, by simp⟩
    rintro m t σ' ⟨rfl, j, hij, hjl, rfl, rfl, hall⟩
    dsimp only [partsL_t]
    refine ic_seq ?_
    refine ic_seqM (fun a s => s = σ' ∧ LooseW (fun t _ => ∃ v : Bool, t = partsL_t xs b g fs cs k i (.int .i64 j) (.bool v) ∧ (v = true → ∃ h : j < xs.length, al xs[i] xs[j] = true) ∧ (v = false → ∀ y, xs[j]? = some y → al xs[i] y = false)) [] a s) ?_ ?_
    · -- DRAW R3
      refine ic_drawq 16 (by kernel_rfl) rfl rfl ?_
      refine q_op ?_
      refine q_op ?_
      refine q_op ?_
      refine q_op ?_
      refine q_op ?_
      rcases Nat.lt_or_ge j xs.length with hjn | hjn
      · have hdec : decide ((j : Int) < (xs.length : Int)) = true := decide_eq_true (by omega)
        have hxj : (xs.map eL)[((j : Nat) : Int).toNat]? = some (eL xs[j]) := by simp [hjn]
        simp only [hdec]
        refine qy_op ?_
        refine qy_op ?_
        refine qy_op ?_
        refine qy_op ?_
        refine qy_op ?_
        refine qy_op ?_
        refine qy_op ?_
        refine qy_op ?_
        refine qy_op ?_
        refine iq_ycallv rfl rfl rfl rfl x_nf (hal xs[i] (List.getElem_mem _) xs[j] (List.getElem_mem _) _) x_nf ?_
        refine q_op ?_
        refine iq_nil ?_
        refine ig_done (by kernel_rfl) ?_
        exact ⟨rfl, loosew_mk (t' := partsL_t xs b g fs cs k i (.int .i64 j) (.bool (al xs[i] xs[j]))) x_wks ⟨_, rfl, fun h => ⟨hjn, h⟩, fun h y hy => by rw [List.getElem?_eq_getElem hjn] at hy; cases hy; exact h⟩⟩
      · have hdec : decide ((j : Int) < (xs.length : Int)) = false := decide_eq_false (by omega)
        simp only [hdec]
        refine qn_op ?_
        refine qn_op ?_
        refine qn_op ?_
        refine qn_op ?_
        refine qn_op ?_
        refine qn_op ?_
        refine qn_op ?_
        refine qn_op ?_
        refine qn_op ?_
        refine qn_op ?_
        refine q_op ?_
        refine iq_nil ?_
        refine ig_done (by kernel_rfl) ?_
        exact ⟨rfl, loosew_mk (t' := partsL_t xs b g fs cs k i (.int .i64 j) (.bool false)) x_wks ⟨_, rfl, fun h => (by cases h), fun h y hy => by rw [List.getElem?_eq_none hjn] at hy; cases hy⟩⟩
    rintro a s ⟨rfl, hl⟩
    refine hl.ic ?_
    rintro t ⟨v, rfl, hv1, hv2⟩
    dsimp only [partsL_t]
    refine ic_cond rfl (fun hc => ?_) (fun hc => ?_) -- t27
    · -- true
      obtain ⟨hjn, hal1⟩ := hv1 hc
      refine ic_skip ?_
      refine ic_block ?_ -- 3
      refine ic_region ?_
      refine x_op ?_
      refine x_op ?_
      refine x_op ?_
      refine il_nil ?_
      refine ⟨xs.length - (j + 1), by omega, loosew_mk (t' := partsL_t xs b g fs cs k i (.int .i64 ((j + 1 : Nat))) .junk) x_wks ⟨rfl, j + 1, by omega, hjn, rfl, rfl, ?_⟩⟩ -- round
      intro y hy
      have e1 : j + 1 - (i + 1) = (j - (i + 1)) + 1 := by omega
      rw [e1, List.take_add_one, List.mem_append] at hy
      rcases hy with hy | hy
      · exact hall y hy
      · rw [List.getElem?_drop, show i + 1 + (j - (i + 1)) = j by omega, List.getElem?_eq_getElem hjn] at hy
        simp at hy
        subst hy
        exact hal1
    · -- false
      obtain ⟨htw, hdw⟩ := takeWhile_split (al xs[i]) (xs.drop (i + 1)) (j - (i + 1)) hall (by rw [List.length_drop]; omega) (fun y hy => hv2 hc y (by rw [List.getElem?_drop, show i + 1 + (j - (i + 1)) = j by omega] at hy; exact hy))
      rw [List.drop_drop, show i + 1 + (j - (i + 1)) = j by omega] at hdw
      have esl : ((xs.map eL).take (j : Int).toNat).drop (i : Int).toNat = (xs[i] :: (xs.drop (i + 1)).takeWhile (al xs[i])).map eL := by
        rw [htw, Int.toNat_natCast, Int.toNat_natCast, ← List.map_take, ← List.map_drop, List.drop_take, hdr, show j - i = (j - (i + 1)) + 1 by omega, List.take_succ_cons]
      refine ic_exit ?_ -- 2
      refine ic_seq ?_
      refine ic_seq ?_
      refine ic_region ?_
      refine x_op ?_
      refine x_op ?_
      refine x_op ?_
      refine x_op ?_
      refine x_op ?_
      rw [esl]
      refine il_kn rfl (op_yield rfl rfl (hy _ _ _ (hdr ▸ hJ))) ?_
      rintro v' σ2 ⟨t, rfl, rfl, hJ2⟩
      refine ⟨_, x_nf, ?_⟩
      refine x_op ?_
      refine il_nil ?_
      refine ic_cond rfl (fun hc => ?_) (fun hc => ?_) -- t36
      · cases hc
      · -- false
        refine ic_skip ?_
        refine ic_region ?_
        refine x_op ?_
        refine x_op ?_
        refine il_nil ?_
        exact ⟨xs.length - j, by omega, loosew_mk (t' := partsL_t xs b g fs cs k j .junk .junk) x_wks ⟨j, hjl, rfl, rfl, hdw ▸ hJ2⟩⟩ -- round
  · -- false
    refine ic_exit ?_ -- 0
    obtain rfl : i = xs.length := by have := of_decide_eq_false hc; omega
    rw [List.drop_length] at hJ
    exact ⟨rfl, _, ires_none Tryz.results79, rfl, hJ⟩
end Go.Proofs.YtokbhcnomffopaaGreatDoor
end

section
/- The contracts of render.leaves, styled, Row. -/
set_option linter.unusedVariables false
set_option linter.unusedSimpArgs false
set_option maxHeartbeats 4000000
namespace Go.Proofs.YtokbhcnomffopaaGreatDoor
open Go Go.QL

theorem leaves1_calls (x y : Cel) : ICalls Tryz.prog 131 [eC x, eC y] [] (fun u _ => u = .bool (alLeaf x y)) := by
  refine x_enter Tryz.func131 Tryz.ntmps131 ?_
  refine ic_seq ?_
  refine ic_region ?_
  refine x_op ?_
  refine x_op ?_
  refine x_op ?_
  refine il_nil ?_
  refine ic_seq ?_
  refine ic_region ?_
  refine x_op ?_
  refine x_op ?_
  refine x_op ?_
  refine x_op ?_
  unfold alLeaf
  rcases Bool.eq_false_or_eq_true (!decide (x.r = 10)) with hx | hx
  · simp only [hx]
    first | refine n_op ?_ | refine y_op ?_
    first | refine n_op ?_ | refine y_op ?_
    first | refine n_op ?_ | refine y_op ?_
    refine x_op ?_
    refine x_op ?_
    refine il_nil ?_
    refine ic_ret ?_
    repeat (first | with_reducible refine it_ret ?_ | with_reducible refine ib_ret ?_)
    exact ⟨rfl, _, ires_tmp Tryz.results131 x_le, rfl⟩
  · simp only [hx]
    first | refine n_op ?_ | refine y_op ?_
    first | refine n_op ?_ | refine y_op ?_
    first | refine n_op ?_ | refine y_op ?_
    refine x_op ?_
    refine x_op ?_
    refine il_nil ?_
    refine ic_ret ?_
    repeat (first | with_reducible refine it_ret ?_ | with_reducible refine ib_ret ?_)
    exact ⟨rfl, _, ires_tmp Tryz.results131 x_le, rfl⟩
theorem styled1_calls (bit : Int) (x y : Cel) : ICalls Tryz.prog 119 [eC x, eC y, .dptr [.int .i64 bit]] [] (fun u _ => u = .bool (alBit bit x y)) := by
  refine x_enter Tryz.func119 Tryz.ntmps119 ?_
  refine ic_seq ?_
  refine ic_region ?_
  refine x_op ?_
  refine x_op ?_
  refine x_op ?_
  refine il_nil ?_
  refine ic_seq ?_
  refine ic_region ?_
  refine x_op ?_
  refine x_op ?_
  refine x_op ?_
  refine x_op ?_
  refine x_op ?_
  refine x_op ?_
  refine x_op ?_
  refine x_op ?_
  refine x_op ?_
  refine x_op ?_
  refine il_nil ?_
  refine ic_ret ?_
  repeat (first | with_reducible refine it_ret ?_ | with_reducible refine ib_ret ?_)
  exact ⟨rfl, _, ires_tmp Tryz.results119 x_le, rfl⟩
theorem row1_calls (x y : Cel) : ICalls Tryz.prog 104 [eC x, eC y] [] (fun u _ => u = .bool (alHref x y)) := by
  refine x_enter Tryz.func104 Tryz.ntmps104 ?_
  refine ic_seq ?_
  refine ic_region ?_
  refine x_op ?_
  refine x_op ?_
  refine x_op ?_
  refine il_nil ?_
  refine ic_seq ?_
  refine ic_region ?_
  refine x_op ?_
  refine x_op ?_
  refine x_op ?_
  refine x_op ?_
  refine x_op ?_
  refine x_op ?_
  refine il_nil ?_
  refine ic_ret ?_
  repeat (first | with_reducible refine it_ret ?_ | with_reducible refine ib_ret ?_)
  exact ⟨rfl, _, ires_tmp Tryz.results104 x_le, rfl⟩
theorem rowV_cons (x : Cel) (tl : List Cel) : (grp alHref (x :: tl)).flatMap (fun p => wrapV 0 (hdHref p) (styledV 4 1 p)) = wrapV 0 x.href (styledV 4 1 (x :: tl.takeWhile (alHref x))) ++ (grp alHref (tl.dropWhile (alHref x))).flatMap (fun p => wrapV 0 (hdHref p) (styledV 4 1 p)) := by
  rw [grp, List.flatMap_cons]
  rfl
theorem row_calls' (l : List Cel) (b : Bool) (hl : l.length ≤ 16777216) (hst : ∀ (p : List Cel) (f : Bool), p.length ≤ 16777216 → ICalls Tryz.prog 106 [.sl f (p.map eC), .int .i64 1] [] (fun u _ => u = eNs (styledV 4 1 p))) :
    ICalls Tryz.prog 81 [.sl b (l.map eC)] [] (fun u _ => u = eNs (rowV l)) := by
  refine icalls_marks Tryz.func81 rfl (by simp only [Tryz.ntmps81, List.length_cons, List.length_nil, Nat.reduceAdd, Nat.reduceSub, List.replicate_succ, List.replicate_zero, List.cons_append, List.nil_append] <;> rfl) ?_
  refine ic_seq ?_
  refine ic_region ?_
  refine x_op ?_
  refine il_nil ?_
  refine ic_seq ?_
  refine ic_region ?_
  refine x_op ?_
  refine il_nil ?_
  refine ic_row0 0 0 35 4 rfl rfl rfl x_nf ?_
  refine ic_seq ?_
  refine ic_seq ?_
  refine ic_region ?_
  refine x_op ?_
  refine il_callv rfl rfl rfl x_nf ((partsC_calls l b _ _ _).frame1 x_dats (Dat.fn dat_nil (dat_cons (Dat.dptr (dat_cons (Dat.sl (dat_map dat_eC _)) dat_nil)) (dat_cons (Dat.dptr (dat_cons (Dat.fn dat_nil dat_nil) dat_nil)) dat_nil))) _) x_nf ?_
  refine il_nil ?_
  refine ic_block ?_ -- 0
  -- RANGEFUNC t6
  refine ic_rangeFunc rfl rfl (fun fn => ?_)
  generalize hLP : IObj.loop LoopState.ready none fn _ _ _ _ _ = LP
  have hsz := rowV_sz l
  refine (partsC1_calls l b 104 [] [] alHref 3 (fun rem σ => ∃ done : List Nd, done ++ (grp alHref rem).flatMap (fun p => wrapV 0 (hdHref p) (styledV 4 1 p)) = rowV l ∧ rem.length ≤ l.length ∧
      σ = [.box TS_Node [.row 1 done.length], .row 35 4 (done.map eN), .obj (.deferred (some [])), LP]) _ ⟨[], rfl, Nat.le_refl _, rfl⟩ (by omega)
    (fun x _ y _ σ => (row1_calls x y).frame1 (dat_cons (dat_eC _) (dat_cons (dat_eC _) dat_nil)) (.bool _) σ) ?_).mono ?_
  · -- a round
    rintro x tl σ ⟨done, hd, hrl, rfl⟩
    rw [rowV_cons] at hd
    have hdl : szl (rowV l) = szl done + (szl (wrapV 0 x.href (styledV 4 1 (x :: tl.takeWhile (alHref x)))) + szl ((grp alHref (tl.dropWhile (alHref x))).flatMap (fun p => wrapV 0 (hdHref p) (styledV 4 1 p)))) := by rw [← hd, szl_append, szl_append]
    have hs1 := szl_len done
    have hs2 := szl_len (wrapV 0 x.href (styledV 4 1 (x :: tl.takeWhile (alHref x))))
    have htl : (tl.takeWhile (alHref x)).length + (tl.dropWhile (alHref x)).length = tl.length := by rw [← List.length_append, List.takeWhile_append_dropWhile]
    have hss := styledV_sz 4 1 (x :: tl.takeWhile (alHref x))
    simp only [List.length_cons] at hrl hss
    refine IYield.cut ?_
    refine iyield_in (by rw [← hLP]; rfl) rfl (by simp only [List.zip_cons_cons, List.zip_nil_right, List.foldl_cons, List.foldl_nil, nf] <;> rfl) (fun bk => ?_)
    refine ic_region ?_
    refine x_op ?_
    refine il_nil ?_
    refine ⟨by rw [← hLP]; rfl, ?_⟩
    generalize hLB : IObj.loop LoopState.busy none fn _ _ _ _ _ = LB
    refine ic_block ?_ -- 1
    -- DRAW R4
    refine ic_drawq 8 (by kernel_rfl) rfl rfl ?_
    have hix : ((x :: tl.takeWhile (alHref x)).map eC)[(0 : Int).toNat]? = some (eC x) := rfl
    refine q_op ?_
    refine q_op ?_
    refine q_op ?_
    refine q_op ?_
    refine q_op ?_
    refine q_op ?_
    refine iq_callv rfl rfl rfl x_nf ((hst (x :: tl.takeWhile (alHref x)) false (by simp only [List.length_cons]; omega)).frame1 (dat_cons (Dat.sl (dat_map dat_eC _)) (dat_cons (.int _ _) dat_nil)) (dat_eNs _) _) x_nf ?_
    refine iq_callv rfl rfl rfl x_nf ((wrap_calls 0 x.href (styledV 4 1 (x :: tl.takeWhile (alHref x))) false (by omega)).frame1 (dat_cons (.int _ _) (dat_cons (.str _) (dat_cons (dat_eNs _) dat_nil))) (dat_eNs _) _) x_nf ?_
    refine iq_nil ?_
    refine d_op 8 ?_
    refine d_op 9 ?_
    refine d_done ?_
    refine ⟨by rw [← hLB]; rfl, [.box TS_Node [.row 1 (done ++ wrapV 0 x.href (styledV 4 1 (x :: tl.takeWhile (alHref x)))).length], .row 35 4 ((done ++ wrapV 0 x.href (styledV 4 1 (x :: tl.takeWhile (alHref x)))).map eN), .obj (.deferred (some [])), LP], [], ?_, rfl, ?_, rfl, _, by rw [List.append_assoc]; exact hd, by omega, rfl⟩
    · rw [hLP, List.map_append, List.length_append]
      rfl
    · intro k o e
      rcases k with _ | _ | _ | _ | k
      · cases e; exact .inr (olt_box x_lts)
      · cases e; exact .inr (olt_row (dat_map dat_eN _))
      · exact .inl e
      · exact .inl e
      · simp at e
  · -- behind the loop
    rintro u σ' ⟨rfl, done, hd, _, rfl⟩
    simp only [grp, List.flatMap_nil, List.append_nil] at hd
    subst hd
    refine ⟨.ready, none, by rw [← hLP]; rfl, by simp, ?_⟩
    refine ic_seq ?_
    refine ic_region ?_
    refine x_op ?_
    refine x_op ?_
    refine il_nil ?_
    refine ic_freeze 2 rfl rfl (by simp) ?_
    refine ic_ret ?_
    repeat (first | with_reducible refine it_ret ?_ | with_reducible refine ib_ret ?_)
    exact ⟨rfl, _, ires_tmp Tryz.results81 x_le, rfl⟩
end Go.Proofs.YtokbhcnomffopaaGreatDoor
end

section
/- The contract of render.leaves. -/
set_option linter.unusedVariables false
set_option linter.unusedSimpArgs false
set_option maxHeartbeats 4000000
namespace Go.Proofs.YtokbhcnomffopaaGreatDoor
open Go Go.QL

theorem set_last {x : Nd} {z : IV} (done : List Nd) : ((done.map eN ++ [z]).set (done.length : Int).toNat (eN x)) = (done ++ [x]).map eN := by
  rw [Int.toNat_natCast, List.set_append_right _ _ (by simp)]
  simp
theorem leavesV_cons (x : Cel) (tl : List Cel) : (grp alLeaf (x :: tl)).map leafV = leafV (x :: tl.takeWhile (alLeaf x)) :: (grp alLeaf (tl.dropWhile (alLeaf x))).map leafV := by
  rw [grp]; rfl
abbrev leaves_t (l : List Cel) (b : Bool) (ps : List Cel) (i : Nat) : List IV := [.sl b (l.map eC), .junk, .junk, .ptr 0 0, .junk, .row 4 i, .junk, .junk, .junk, .junk, .junk, .junk, .junk, .junk, .junk, .junk, .junk, .junk, .junk, .junk, .junk, .junk,
  .sl false (ps.map eC), .int .i64 ps.length, .int .i64 i, .junk, .junk, .junk, .junk, .junk, .junk, .junk, .junk, .junk, .junk, .junk, .junk, .junk, .junk, .junk, .junk, .junk, .junk]
abbrev leaves_s (done : List Nd) (LB : IObj) (ps : List Cel) (i : Nat) : List IObj := [.box TS_Node [.row 1 done.length], .row 35 4 (done.map eN), .obj (.deferred (some [])), LB, .row TB_int32 1 (((ps.take i).map (·.r)).map eR)]
theorem leaves_calls (l : List Cel) (b : Bool) (hl : l.length ≤ 16777216) : ICalls Tryz.prog 118 [.sl b (l.map eC)] [] (fun u _ => u = eNs (leavesV l)) := by
  refine icalls_marks Tryz.func118 rfl (by simp only [Tryz.ntmps118, List.length_cons, List.length_nil, Nat.reduceAdd, Nat.reduceSub, List.replicate_succ, List.replicate_zero, List.cons_append, List.nil_append] <;> rfl) ?_
  refine ic_seq ?_
  refine ic_region ?_
  refine x_op ?_
  refine il_nil ?_
  refine ic_seq ?_
  refine ic_region ?_
  refine x_op ?_
  refine il_nil ?_
  refine ic_row0 0 0 35 4 rfl rfl rfl x_nf ?_
  refine ic_seq ?_
  refine ic_seq ?_
  refine ic_region ?_
  refine x_op ?_
  refine il_callv rfl rfl rfl x_nf ((partsC_calls l b _ _ _).frame1 x_dats (Dat.fn dat_nil (dat_cons (Dat.dptr (dat_cons (Dat.sl (dat_map dat_eC _)) dat_nil)) (dat_cons (Dat.dptr (dat_cons (Dat.fn dat_nil dat_nil) dat_nil)) dat_nil))) _) x_nf ?_
  refine il_nil ?_
  refine ic_block ?_ -- 0
  -- RANGEFUNC t9
  refine ic_rangeFunc rfl rfl (fun fn => ?_)
  generalize hLP : IObj.loop LoopState.ready none fn _ _ _ _ _ = LP
  have hsz := leavesV_sz l
  have hszl := szl_len (leavesV l)
  refine (partsC1_calls l b 131 [] [] alLeaf 3 (fun rem σ => ∃ done : List Nd, done ++ (grp alLeaf rem).map leafV = leavesV l ∧ rem.length ≤ l.length ∧
      σ = [.box TS_Node [.row 1 done.length], .row 35 4 (done.map eN), .obj (.deferred (some [])), LP]) _ ⟨[], rfl, Nat.le_refl _, rfl⟩ (by omega)
    (fun x _ y _ σ => (leaves1_calls x y).frame1 (dat_cons (dat_eC _) (dat_cons (dat_eC _) dat_nil)) (.bool _) σ) ?_).mono ?_
  · -- a round
    rintro x tl σ ⟨done, hd, hrl, rfl⟩
    rw [leavesV_cons] at hd
    have hdl : (leavesV l).length = done.length + 1 + ((grp alLeaf (tl.dropWhile (alLeaf x))).map leafV).length := by rw [← hd, List.length_append, List.length_cons]; omega
    have htl : (tl.takeWhile (alLeaf x)).length + (tl.dropWhile (alLeaf x)).length = tl.length := by rw [← List.length_append, List.takeWhile_append_dropWhile]
    simp only [List.length_cons] at hrl
    have hix : ((x :: tl.takeWhile (alLeaf x)).map eC)[(0 : Int).toNat]? = some (eC x) := rfl
    refine IYield.cut ?_
    refine iyield_in (by rw [← hLP]; rfl) rfl (by simp only [List.zip_cons_cons, List.zip_nil_right, List.foldl_cons, List.foldl_nil, nf] <;> rfl) (fun bk => ?_)
    refine ic_region ?_
    refine x_op ?_
    refine il_nil ?_
    refine ⟨by rw [← hLP]; rfl, ?_⟩
    generalize hLB : IObj.loop LoopState.busy none fn _ _ _ _ _ = LB
    refine ic_mid (fun a s => a.defers = [] ∧ ∃ τ, s = [.box TS_Node [.row 1 (done.length + 1)], .row 35 4 ((done ++ [leafV (x :: tl.takeWhile (alLeaf x))]).map eN), .obj (.deferred (some [])), LB] ++ τ) ?_ ?_
    · refine ic_block ?_ -- 1
      refine ic_seq ?_
      refine ic_seq ?_
      refine ic_region ?_
      refine x_op ?_
      refine x_op ?_
      refine x_op ?_
      refine x_op ?_
      refine x_op ?_
      refine il_nil ?_
      refine ic_cond rfl (fun hc => ?_) (fun hc => ?_) -- t15
      · -- true
        have hx : x.r = 10 := of_decide_eq_true hc
        have hleaf : leafV (x :: tl.takeWhile (alLeaf x)) = .mk 16 [] ⟨#[]⟩ [] := by simp only [leafV]; rw [if_pos hx]
        refine ic_seq ?_
        -- DRAW R5
        refine ic_drawq 4 (by kernel_rfl) rfl rfl ?_
        refine q_op ?_
        refine iq_callv rfl rfl rfl x_nf ((ICalls.wks (elem_calls 16 [] true (by simp [szl])) (.cons (.refl _) (.cons (.nils _) .nil))).frame1 (dat_cons (.int _ _) (dat_cons .nils dat_nil)) (dat_eN _) _) x_nf ?_
        refine q_op ?_
        refine q_op ?_
        refine iq_nil ?_
        refine d_op 4 ?_
        refine ig_two 5 7 (by kernel_rfl) ?_ ?_
        · refine g_op ?_
          refine ig_two 6 7 (by kernel_rfl) ?_ ?_
          · refine g_op ?_
            refine d_op 7 ?_
            refine d_done ?_
            (refine ic_exit ?_; exact ⟨rfl, [], by rw [hleaf]; (try simp only [set_last, List.append_nil]) <;> rfl⟩)
          · refine g_op ?_
            refine d_op 6 ?_
            refine d_done ?_
            (refine ic_exit ?_; exact ⟨rfl, [], by rw [hleaf]; (try simp only [set_last, List.append_nil]) <;> rfl⟩)
        · refine g_op ?_
          refine d_op 5 ?_
          refine d_op 6 ?_
          refine d_done ?_
          (refine ic_exit ?_; exact ⟨rfl, [], by rw [hleaf]; (try simp only [set_last, List.append_nil]) <;> rfl⟩)
      · -- false
        have hx : ¬ x.r = 10 := of_decide_eq_false hc
        generalize hps : x :: tl.takeWhile (alLeaf x) = ps at hix ⊢
        have hleaf : leafV ps = .mk 0 [] (strOf (ps.map (·.r))) [] := by rw [← hps]; simp only [leafV]; rw [if_neg hx]
        have hpl : ps.length ≤ 16777216 := by rw [← hps, List.length_cons]; omega
        have hcl : Dat (.fn (.func 117) [] [.dptr [.sl b (l.map eC)], .dptr [.fn (.func 131) [] []]]) := Dat.fn dat_nil (dat_cons (Dat.dptr (dat_cons (Dat.sl (dat_map dat_eC _)) dat_nil)) (dat_cons (Dat.dptr (dat_cons (Dat.fn dat_nil dat_nil) dat_nil)) dat_nil))
        have hOLB : OLt 5 LB := by rw [← hLB]; exact olt_loop x_lts x_le
        refine ic_skip ?_
        refine ic_seq ?_
        refine ic_region ?_
        refine x_op ?_
        refine il_nil ?_
        refine ic_seq ?_
        refine ic_seq ?_
        refine ic_region ?_
        refine x_op ?_
        refine x_op ?_
        refine x_op ?_
        refine il_nil ?_
        refine ic_block ?_ -- 2
        refine ic_row0t 5 TB_int32 1 rfl rfl x_nf x_nf ?_
        -- LOOP
        refine ic_loopT (fun m t σ => ∃ i : Nat, i ≤ ps.length ∧ m = ps.length - i ∧ t = leaves_t l b ps i ∧ σ = leaves_s done LB ps i) [] (m := ps.length) (loose_mk (t' := leaves_t l b ps 0) (σ' := leaves_s done LB ps 0) (τ := []) x_wks rfl x_le x_lts marks_nil x_olts ?_) ?_
        · exact ⟨0, Nat.zero_le _, rfl, rfl, rfl⟩
        rintro m t σ ⟨i, hi, rfl, rfl, rfl⟩
        dsimp only [leaves_t, leaves_s]
        refine ic_seq ?_
        refine ic_region ?_
        refine x_op ?_
        refine il_nil ?_
        refine ic_seq ?_
        refine ic_cond rfl (fun hc => ?_) (fun hc => ?_) -- t25
        · -- true
          have hil : i < ps.length := by have := of_decide_eq_true hc; omega
          have hxi : (ps.map eC)[((i : Nat) : Int).toNat]? = some (eC ps[i]) := by simp [hil]
          have e1 : (ps.take i).length = i := by rw [List.length_take]; omega
          have e2 : ((ps.take i).map (·.r)).map eR ++ [.int .i32 ps[i].r] = ((ps.take (i + 1)).map (·.r)).map eR := by rw [List.take_succ_eq_append_getElem hil, List.map_append, List.map_append]; rfl
          refine ic_skip ?_
          refine ic_seq ?_
          refine ic_block ?_ -- 3
          refine ic_seq ?_
          refine ic_region ?_
          refine x_op ?_
          refine x_op ?_
          refine x_op ?_
          refine x_op ?_
          refine il_nil ?_
          refine ic_region ?_
          refine x_op ?_
          refine x_op ?_
          refine x_op ?_
          refine x_op ?_
          refine x_op ?_
          refine x_op ?_
          refine il_nil ?_
          refine ic_region ?_
          refine x_op ?_
          refine x_op ?_
          refine il_nil ?_
          simp only [e1, e2, List.length_cons, List.length_nil]
          exact ⟨ps.length - (i + 1), by omega, loose_mk (t' := leaves_t l b ps (i + 1)) (σ' := leaves_s done LB ps (i + 1)) x_wks rfl x_le x_lts marks_nil x_olts ⟨i + 1, hil, rfl, rfl, rfl⟩⟩ -- round
        · -- false
          refine ic_exit ?_ -- 2
          obtain rfl : i = ps.length := by have := of_decide_eq_false hc; omega
          rw [List.take_length]
          refine ic_freeze 5 rfl rfl (by simp) ?_
          -- DRAW R12
          refine ic_drawq 6 (by kernel_rfl) rfl rfl ?_
          refine q_op ?_
          refine q_op ?_
          refine iq_callv rfl rfl rfl x_nf ((ctext_calls (ps.map (·.r)) false).frame1 (dat_cons (Dat.sl (dat_map dat_eR _)) dat_nil) (.str _) _) x_nf ?_
          refine iq_callv rfl rfl rfl x_nf ((text_calls (strOf (ps.map (·.r)))).frame1 (dat_cons (.str _) dat_nil) (dat_eN _) _) x_nf ?_
          refine q_op ?_
          refine q_op ?_
          refine iq_nil ?_
          refine d_op 6 ?_
          refine ig_two 7 9 (by kernel_rfl) ?_ ?_
          · refine g_op ?_
            refine ig_two 8 9 (by kernel_rfl) ?_ ?_
            · refine g_op ?_
              refine d_op 9 ?_
              refine d_done ?_
              exact ⟨rfl, [.gone], by rw [hleaf]; (try simp only [set_last]) <;> rfl⟩
            · refine g_op ?_
              refine d_op 8 ?_
              refine d_done ?_
              exact ⟨rfl, [.gone], by rw [hleaf]; (try simp only [set_last]) <;> rfl⟩
          · refine g_op ?_
            refine d_op 7 ?_
            refine d_op 8 ?_
            refine d_done ?_
            exact ⟨rfl, [.gone], by rw [hleaf]; (try simp only [set_last]) <;> rfl⟩
    · rintro a s ⟨hdf, τ, rfl⟩
      refine ⟨by rw [← hLB]; rfl, [.box TS_Node [.row 1 (done.length + 1)], .row 35 4 ((done ++ [leafV (x :: tl.takeWhile (alLeaf x))]).map eN), .obj (.deferred (some [])), LP], τ, ?_, rfl, ?_, rfl, done ++ [leafV (x :: tl.takeWhile (alLeaf x))], by rw [List.append_assoc]; exact hd, by omega, by rw [List.length_append]; rfl⟩
      · rw [hLP]
        rfl
      · intro k o e
        rcases k with _ | _ | _ | _ | k
        · cases e; exact .inr (olt_box x_lts)
        · cases e; exact .inr (olt_row (dat_map dat_eN _))
        · exact .inl e
        · exact .inl e
        · simp at e
  · -- behind the loop
    rintro u σ' ⟨rfl, done, hd, _, rfl⟩
    simp only [grp, List.map_nil, List.append_nil] at hd
    subst hd
    refine ⟨.ready, none, by rw [← hLP]; rfl, by simp, ?_⟩
    refine ic_seq ?_
    refine ic_region ?_
    refine x_op ?_
    refine x_op ?_
    refine il_nil ?_
    refine ic_freeze 2 rfl rfl (by simp) ?_
    refine ic_ret ?_
    repeat (first | with_reducible refine it_ret ?_ | with_reducible refine ib_ret ?_)
    exact ⟨rfl, _, ires_tmp Tryz.results118 x_le, rfl⟩
end Go.Proofs.YtokbhcnomffopaaGreatDoor
end

section
/- The contracts of render.styled, Row. -/
set_option linter.unusedVariables false
set_option linter.unusedSimpArgs false
set_option maxHeartbeats 4000000
namespace Go.Proofs.YtokbhcnomffopaaGreatDoor
open Go Go.QL

theorem styled0 (bit : Int) (hb : 15 < bit) (l : List Cel) (b : Bool) (hl : l.length ≤ 16777216) : ICalls Tryz.prog 106 [.sl b (l.map eC), .int .i64 bit] [] (fun u _ => u = eNs (styledV 0 bit l)) := by
  refine icalls_marks Tryz.func106 rfl (by simp only [Tryz.ntmps106, List.length_cons, List.length_nil, Nat.reduceAdd, Nat.reduceSub, List.replicate_succ, List.replicate_zero, List.cons_append, List.nil_append] <;> rfl) ?_
  refine ic_seq ?_
  refine ic_region ?_
  refine x_op ?_
  refine x_op ?_
  refine il_nil ?_
  refine ic_fbox 0 rfl x_fz x_nf ?_
  refine ic_seq ?_
  refine ic_seq ?_
  refine ic_region ?_
  refine x_op ?_
  refine x_op ?_
  refine il_nil ?_
  refine ic_cond rfl (fun hc => ?_) (fun hc => ?_)
  · refine ic_seq ?_
    refine ic_region ?_
    refine x_op ?_
    refine il_callv rfl rfl rfl x_nf ((leaves_calls l b hl).frame1 (dat_cons (Dat.sl (dat_map dat_eC _)) dat_nil) (dat_eNs _) _) x_nf ?_
    refine x_op ?_
    refine il_nil ?_
    refine ic_ret ?_
    repeat (first | with_reducible refine it_ret ?_ | with_reducible refine ib_ret ?_)
    exact ⟨_, ires_tmp Tryz.results106 x_le, rfl⟩
  · exact absurd hb (of_decide_eq_false hc)
theorem styledV_cons (n : Nat) (bit nb : Int) (x : Cel) (tl : List Cel) : (grp (alBit bit) (x :: tl)).flatMap (fun p => wrapV (bitI .and .i64 (hdBits p) bit) ⟨#[]⟩ (styledV n nb p)) =
    wrapV (bitI .and .i64 x.bits bit) ⟨#[]⟩ (styledV n nb (x :: tl.takeWhile (alBit bit x))) ++ (grp (alBit bit) (tl.dropWhile (alBit bit x))).flatMap (fun p => wrapV (bitI .and .i64 (hdBits p) bit) ⟨#[]⟩ (styledV n nb p)) := by
  rw [grp, List.flatMap_cons]
  rfl
theorem styledS (n : Nat) (bit : Int) (hn : n ≤ 4) (hb : bit ≤ 15) (ih : ∀ (p : List Cel) (f : Bool), p.length ≤ 16777216 → ICalls Tryz.prog 106 [.sl f (p.map eC), .int .i64 (IntKind.i64.wrap (bit * 2 ^ min (1 : Int).toNat IntKind.i64.bits))] [] (fun u _ => u = eNs (styledV n (IntKind.i64.wrap (bit * 2 ^ min (1 : Int).toNat IntKind.i64.bits)) p)))
    (l : List Cel) (b : Bool) (hl : l.length ≤ 16777216) : ICalls Tryz.prog 106 [.sl b (l.map eC), .int .i64 bit] [] (fun u _ => u = eNs (styledV (n + 1) bit l)) := by
  have hszr := styledV_sz (n + 1) bit l
  have hszr2 : (1 + 6 * (n + 1)) * l.length ≤ 31 * l.length := Nat.mul_le_mul_right _ (by omega)
  simp only [styledV] at hszr ⊢
  generalize hnb : IntKind.i64.wrap (bit * 2 ^ min (1 : Int).toNat IntKind.i64.bits) = nb at ih hszr ⊢
  have hcl : Dat (.fn (.func 117) [] [.dptr [.sl b (l.map eC)], .dptr [.fn (.func 119) [] [.dptr [.int .i64 bit]]]]) :=
    Dat.fn dat_nil (dat_cons (Dat.dptr (dat_cons (Dat.sl (dat_map dat_eC _)) dat_nil)) (dat_cons (Dat.dptr (dat_cons (Dat.fn dat_nil (dat_cons (Dat.dptr (dat_cons (.int _ _) dat_nil)) dat_nil)) dat_nil)) dat_nil))
  refine icalls_marks Tryz.func106 rfl (by simp only [Tryz.ntmps106, List.length_cons, List.length_nil, Nat.reduceAdd, Nat.reduceSub, List.replicate_succ, List.replicate_zero, List.cons_append, List.nil_append] <;> rfl) ?_
  refine ic_seq ?_
  refine ic_region ?_
  refine x_op ?_
  refine x_op ?_
  refine il_nil ?_
  refine ic_fbox 0 rfl x_fz x_nf ?_
  refine ic_seq ?_
  refine ic_seq ?_
  refine ic_region ?_
  refine x_op ?_
  refine x_op ?_
  refine il_nil ?_
  refine ic_cond rfl (fun hc => ?_) (fun hc => ?_)
  · have := of_decide_eq_true hc; omega
  refine ic_skip ?_
  refine ic_seq ?_
  refine ic_region ?_
  refine x_op ?_
  refine il_nil ?_
  refine ic_row0 1 0 35 4 rfl rfl rfl x_nf ?_
  refine ic_seq ?_
  refine ic_seq ?_
  refine ic_region ?_
  refine x_op ?_
  refine x_op ?_
  refine il_callv rfl rfl rfl x_nf ((partsC_calls l b _ _ _).frame1 (dat_cons (Dat.sl (dat_map dat_eC _)) (dat_cons (Dat.fn dat_nil (dat_cons (Dat.dptr (dat_cons (.int _ _) dat_nil)) dat_nil)) dat_nil)) hcl _) x_nf ?_
  refine il_nil ?_
  refine ic_block ?_ -- 0
  -- RANGEFUNC t13
  refine ic_rangeFunc rfl rfl (fun fn => ?_)
  generalize hLP : IObj.loop LoopState.ready none fn _ _ _ _ _ = LP
  refine (partsC1_calls l b 119 [] [.dptr [.int .i64 bit]] (alBit bit) 4 (fun rem σ => ∃ done : List Nd, done ++ (grp (alBit bit) rem).flatMap (fun p => wrapV (bitI .and .i64 (hdBits p) bit) ⟨#[]⟩ (styledV n nb p)) = (grp (alBit bit) l).flatMap (fun p => wrapV (bitI .and .i64 (hdBits p) bit) ⟨#[]⟩ (styledV n nb p)) ∧ rem.length ≤ l.length ∧
      σ = [.gone, .box TS_Node [.row 2 done.length], .row 35 4 (done.map eN), .obj (.deferred (some [])), LP]) _ ⟨[], rfl, Nat.le_refl _, rfl⟩ (by omega)
    (fun x _ y _ σ => (styled1_calls bit x y).frame1 (dat_cons (dat_eC _) (dat_cons (dat_eC _) (dat_cons (Dat.dptr (dat_cons (.int _ _) dat_nil)) dat_nil))) (.bool _) σ) ?_).mono ?_
  · -- a round
    rintro x tl σ ⟨done, hd, hrl, rfl⟩
    rw [styledV_cons] at hd
    generalize hall : (grp (alBit bit) l).flatMap (fun p => wrapV (bitI .and .i64 (hdBits p) bit) ⟨#[]⟩ (styledV n nb p)) = all at hszr hd ⊢
    have hdl : szl all = szl done + (szl (wrapV (bitI .and .i64 x.bits bit) ⟨#[]⟩ (styledV n nb (x :: tl.takeWhile (alBit bit x)))) + szl ((grp (alBit bit) (tl.dropWhile (alBit bit x))).flatMap (fun p => wrapV (bitI .and .i64 (hdBits p) bit) ⟨#[]⟩ (styledV n nb p)))) := by rw [← hd, szl_append, szl_append]
    have hs1 := szl_len done
    have hs2 := szl_len (wrapV (bitI .and .i64 x.bits bit) ⟨#[]⟩ (styledV n nb (x :: tl.takeWhile (alBit bit x))))
    have htl : (tl.takeWhile (alBit bit x)).length + (tl.dropWhile (alBit bit x)).length = tl.length := by rw [← List.length_append, List.takeWhile_append_dropWhile]
    have hss := styledV_sz n nb (x :: tl.takeWhile (alBit bit x))
    have hss2 : (1 + 6 * n) * (x :: tl.takeWhile (alBit bit x)).length ≤ 25 * (x :: tl.takeWhile (alBit bit x)).length := Nat.mul_le_mul_right _ (by omega)
    simp only [List.length_cons] at hrl hss hss2
    refine IYield.cut ?_
    refine iyield_in (by rw [← hLP]; rfl) rfl (by simp only [List.zip_cons_cons, List.zip_nil_right, List.foldl_cons, List.foldl_nil, nf] <;> rfl) (fun bk => ?_)
    refine ic_region ?_
    refine x_op ?_
    refine il_nil ?_
    refine ⟨by rw [← hLP]; rfl, ?_⟩
    generalize hLB : IObj.loop LoopState.busy none fn _ _ _ _ _ = LB
    refine ic_block ?_ -- 1
    -- DRAW R6
    refine ic_drawq 12 (by kernel_rfl) rfl rfl ?_
    have hix : ((x :: tl.takeWhile (alBit bit x)).map eC)[(0 : Int).toNat]? = some (eC x) := rfl
    refine q_op ?_
    refine q_op ?_
    refine q_op ?_
    refine q_op ?_
    refine q_op ?_
    refine q_op ?_
    refine q_op ?_
    refine q_op ?_
    refine q_op ?_
    refine q_op ?_
    simp only [hnb]
    refine iq_callv rfl rfl rfl x_nf ((ih (x :: tl.takeWhile (alBit bit x)) false (by simp only [List.length_cons]; omega)).frame1 (dat_cons (Dat.sl (dat_map dat_eC _)) (dat_cons (.int _ _) dat_nil)) (dat_eNs _) _) x_nf ?_
    refine iq_callv rfl rfl rfl x_nf ((wrap_calls (bitI .and .i64 x.bits bit) ⟨#[]⟩ (styledV n nb (x :: tl.takeWhile (alBit bit x))) false (by omega)).frame1 (dat_cons (.int _ _) (dat_cons (.str _) (dat_cons (dat_eNs _) dat_nil))) (dat_eNs _) _) x_nf ?_
    refine iq_nil ?_
    refine d_op 12 ?_
    refine d_op 13 ?_
    refine d_done ?_
    refine ⟨by rw [← hLB]; rfl, [.gone, .box TS_Node [.row 2 (done ++ wrapV (bitI .and .i64 x.bits bit) ⟨#[]⟩ (styledV n nb (x :: tl.takeWhile (alBit bit x)))).length], .row 35 4 ((done ++ wrapV (bitI .and .i64 x.bits bit) ⟨#[]⟩ (styledV n nb (x :: tl.takeWhile (alBit bit x)))).map eN), .obj (.deferred (some [])), LP], [], ?_, rfl, ?_, rfl, _, by rw [List.append_assoc]; exact hd, by omega, rfl⟩
    · rw [hLP, List.map_append, List.length_append]
      rfl
    · intro k o e
      rcases k with _ | _ | _ | _ | _ | k
      · exact .inl e
      · cases e; exact .inr (olt_box x_lts)
      · cases e; exact .inr (olt_row (dat_map dat_eN _))
      · exact .inl e
      · exact .inl e
      · simp at e
  · -- behind the loop
    rintro u σ' ⟨rfl, done, hd, _, rfl⟩
    simp only [grp, List.flatMap_nil, List.append_nil] at hd
    subst hd
    refine ⟨.ready, none, by rw [← hLP]; rfl, by simp, ?_⟩
    refine ic_seq ?_
    refine ic_region ?_
    refine x_op ?_
    refine x_op ?_
    refine il_nil ?_
    refine ic_freeze 4 rfl rfl (by simp) ?_
    refine ic_ret ?_
    repeat (first | with_reducible refine it_ret ?_ | with_reducible refine ib_ret ?_)
    exact ⟨rfl, _, ires_tmp Tryz.results106 x_le, rfl⟩
theorem styled_calls (l : List Cel) (b : Bool) (hl : l.length ≤ 16777216) : ICalls Tryz.prog 106 [.sl b (l.map eC), .int .i64 1] [] (fun u _ => u = eNs (styledV 4 1 l)) := by
  have w1 : IntKind.i64.wrap (1 * 2 ^ min (1 : Int).toNat IntKind.i64.bits) = 2 := by decide
  have w2 : IntKind.i64.wrap (2 * 2 ^ min (1 : Int).toNat IntKind.i64.bits) = 4 := by decide
  have w4 : IntKind.i64.wrap (4 * 2 ^ min (1 : Int).toNat IntKind.i64.bits) = 8 := by decide
  have w8 : IntKind.i64.wrap (8 * 2 ^ min (1 : Int).toNat IntKind.i64.bits) = 16 := by decide
  refine styledS 3 1 (by decide) (by decide) (fun p f hp => ?_) l b hl
  rw [w1]
  refine styledS 2 2 (by decide) (by decide) (fun p f hp => ?_) p f hp
  rw [w2]
  refine styledS 1 4 (by decide) (by decide) (fun p f hp => ?_) p f hp
  rw [w4]
  refine styledS 0 8 (by decide) (by decide) (fun p f hp => ?_) p f hp
  rw [w8]
  exact styled0 16 (by decide) p f hp
theorem row_calls (l : List Cel) (b : Bool) (hl : l.length ≤ 16777216) : ICalls Tryz.prog 81 [.sl b (l.map eC)] [] (fun u _ => u = eNs (rowV l)) :=
  row_calls' l b hl fun p f hp => styled_calls p f hp
end Go.Proofs.YtokbhcnomffopaaGreatDoor
end

section
/- The contracts of render.Way, step, tags.Line, node. -/
set_option linter.unusedVariables false
set_option linter.unusedSimpArgs false
set_option maxHeartbeats 4000000
namespace Go.Proofs.YtokbhcnomffopaaGreatDoor
open Go Go.QL

theorem wayS0 (l : Lin) (n : Nat) : OWks [.box 31 (lnc l), .row TB_int 1 (List.replicate n (eI 6))] ([.box 31 (lnc l), .row TB_int 1 ((List.replicate n 6 ++ (l.lists.take 0).map lstTag).map eI)] ++ []) := by
  simp only [List.take_zero, List.map_nil, List.append_nil, List.map_replicate]
  exact OWks.refl _
theorem way_calls (l : Lin) (h : l.lists.length ≤ 16777216) : ICalls Tryz.prog 11 [eL l] [] (fun u _ => u = eIs (wayV l)) := by
  have hq := qN_le l.quote
  have hqn : (if (6 : Int) < (if l.quote < 0 then 0 else l.quote) then 6 else (if l.quote < 0 then 0 else l.quote)) = ((qN l.quote : Nat) : Int) := by
    unfold qN; split <;> split <;> omega
  refine x_enter Tryz.func11 Tryz.ntmps11 ?_
  refine ic_seq ?_
  refine ic_region ?_
  refine x_op ?_
  refine x_op ?_
  refine il_nil ?_
  refine ic_seq ?_
  refine ic_region ?_
  refine x_op ?_
  refine x_op ?_
  refine x_op ?_
  refine x_op (h := by exact op_max rfl rfl rfl) ?_
  refine x_op (h := by exact op_min rfl rfl rfl) ?_
  simp only [hqn]
  refine x_crow (repeat_calls 6 true (qN l.quote) hq) (fun x hx => by rw [List.eq_of_mem_replicate hx]; exact dat_eI 6) ?_
  refine x_op ?_
  refine il_nil ?_
  simp only [List.length_replicate]
  refine ic_seq ?_
  refine ic_seq ?_
  refine ic_region ?_
  refine x_op ?_
  refine x_op ?_
  refine x_op ?_
  refine x_op ?_
  refine il_nil ?_
  refine ic_block ?_ -- 0
  refine x_loop [3, 16] [5, 6, 17, 18, 19, 20, 21, 22, 23, 24, 25, 26] (fun m vs σ => ∃ i : Nat, i ≤ l.lists.length ∧ m = l.lists.length - i ∧ vs = [.row 1 (qN l.quote + i), .int .i64 i] ∧ σ = [.box 31 (lnc l), .row TB_int 1 ((List.replicate (qN l.quote) 6 ++ (l.lists.take i).map lstTag).map eI)]) ⟨0, Nat.zero_le _, rfl, rfl, rfl⟩ ?_ (hs := wayS0 _ _)
  rintro m vs σ ⟨i, hi, rfl, rfl, rfl⟩
  simp only [sets, nf, lnc]
  refine ic_seq ?_
  refine ic_region ?_
  refine x_op ?_
  refine il_nil ?_
  refine ic_seq ?_
  refine ic_cond rfl (fun hc => ?_) (fun hc => ?_) -- t17
  · -- true
    have hil : i < l.lists.length := by have := of_decide_eq_true hc; omega
    have hix : (l.lists.map eI)[((i : Nat) : Int).toNat]? = some (eI l.lists[i]) := by simp [hil]
    have hlen : ((List.replicate (qN l.quote) (6 : Int) ++ (l.lists.take i).map lstTag).map eI).length = qN l.quote + i := by simp; omega
    have e1 : (List.replicate (qN l.quote) (6 : Int) ++ (l.lists.take i).map lstTag).map eI ++ [eI (lstTag l.lists[i])] = (List.replicate (qN l.quote) 6 ++ (l.lists.take (i + 1)).map lstTag).map eI := by
      rw [List.take_succ_eq_append_getElem hil]; simp only [List.map_append, List.map_cons, List.map_nil, List.append_assoc]
    refine ic_skip ?_
    refine ic_seq ?_
    refine ic_block ?_ -- 1
    refine ic_seq ?_
    refine ic_region ?_
    refine x_op ?_
    refine x_op ?_
    refine x_op ?_
    refine il_nil ?_
    refine ic_seq ?_
    refine ic_region ?_
    refine x_op ?_
    refine il_nil ?_
    refine x_mid [6] [20, 21] (fun vs σ => vs = [eI (lstTag l.lists[i])] ∧ σ = [.box 31 (lnc l), .row TB_int 1 ((List.replicate (qN l.quote) 6 ++ (l.lists.take i).map lstTag).map eI)]) ?_ ?_
    ·
      refine ic_seq ?_
      refine ic_region ?_
      refine x_op ?_
      refine x_op ?_
      refine il_nil ?_
      refine ic_cond rfl (fun hc => ?_) (fun hc => ?_) -- t21
      · -- true
        have hk : lstTag l.lists[i] = 7 := by unfold lstTag; rw [if_pos (of_decide_eq_true hc)]
        rw [hk]
        refine ic_region ?_
        refine x_op ?_
        refine il_nil ?_
        exact x_here ⟨rfl, rfl⟩
      · -- false
        have hk : lstTag l.lists[i] = 8 := by unfold lstTag; rw [if_neg (of_decide_eq_false hc)]
        rw [hk]
        refine ic_skip ?_
        exact x_here ⟨rfl, rfl⟩
    rintro vs σ ⟨rfl, rfl⟩
    simp only [sets, nf, lnc]
    refine ic_region ?_
    refine x_op ?_
    refine x_op ?_
    refine x_op ?_
    refine x_op ?_
    refine x_op ?_
    refine il_nil ?_
    refine ic_region ?_
    refine x_op ?_
    refine x_op ?_
    refine il_nil ?_
    have e2 : (List.replicate (qN l.quote) (6 : Int) ++ (l.lists.take i).map lstTag).length + 1 = qN l.quote + (i + 1) := by simp; omega
    simp only [e2, show IV.int .i64 (lstTag l.lists[i]) = eI (lstTag l.lists[i]) from rfl, e1]
    exact x_next (l.lists.length - (i + 1)) ⟨i + 1, by omega, rfl, rfl, rfl⟩ (by omega)
  · -- false
    obtain rfl : i = l.lists.length := by have := of_decide_eq_false hc; omega
    rw [List.take_length]
    refine ic_exit ?_ -- 0
    refine ic_seq ?_
    refine ic_region ?_
    refine x_op ?_
    refine x_op ?_
    refine il_nil ?_
    refine ic_freeze 2 rfl rfl (by simp) ?_
    refine ic_ret ?_
    repeat (first | with_reducible refine it_ret ?_ | with_reducible refine ib_ret ?_)
    exact x_res1 Tryz.results11 rfl
theorem step_calls (l : Lin) (level : Nat) (h : l.lists.length ≤ 16777216) : ICalls Tryz.prog 54 [eL l, .int .i64 level] [] (fun u _ => u = .int .i64 (stepV l level)) := by
  have hlen := wayV_len l
  have hq := qN_le l.quote
  refine x_enter Tryz.func54 Tryz.ntmps54 ?_
  refine ic_seq ?_
  refine ic_region ?_
  refine x_op ?_
  refine x_op ?_
  refine il_nil ?_
  refine ic_seq ?_
  refine ic_seq ?_
  refine ic_region ?_
  refine x_op ?_
  refine x_cv (way_calls l h) ?_
  refine x_op ?_
  refine il_nil ?_
  refine ic_seq ?_
  refine ic_region ?_
  refine x_op ?_
  refine x_op ?_
  refine x_op ?_
  refine x_op ?_
  refine il_nil ?_
  refine ic_cond rfl (fun hc => ?_) (fun hc => ?_) -- t11
  · -- true
    have hl : level < (wayV l).length := by have := of_decide_eq_true hc; omega
    have hix : ((wayV l).map eI)[((level : Nat) : Int).toNat]? = some (eI (stepV l level)) := by
      unfold stepV; simp [List.getD_eq_getElem?_getD, List.getElem?_eq_getElem hl]
    refine ic_seq ?_
    refine ic_region ?_
    refine x_op ?_
    refine x_op ?_
    refine x_op ?_
    refine x_op ?_
    refine x_op ?_
    refine il_nil ?_
    refine ic_ret ?_
    repeat (first | with_reducible refine it_ret ?_ | with_reducible refine ib_ret ?_)
    exact x_res1 Tryz.results54 rfl
  · -- false
    have hl : (wayV l).length ≤ level := by have := of_decide_eq_false hc; omega
    have he : stepV l level = 0 := by unfold stepV; rw [List.getD_eq_getElem?_getD, List.getElem?_eq_none hl]; rfl
    rw [he]
    refine ic_skip ?_
    refine ic_seq ?_
    refine ic_region ?_
    refine x_op ?_
    refine il_nil ?_
    refine ic_ret ?_
    repeat (first | with_reducible refine it_ret ?_ | with_reducible refine ib_ret ?_)
    exact x_res1 Tryz.results54 rfl
theorem line_calls (k : Int) : ICalls Tryz.prog 80 [.int .i64 k] [] (fun u _ => u = .tup [.int .i64 (lineTag k), .bool (!(decide (k < 0) || decide (3 < k)))]) := by
  refine x_enter Tryz.func80 Tryz.ntmps80 ?_
  refine ic_seq ?_
  refine ic_region ?_
  refine x_op ?_
  refine x_op ?_
  refine il_nil ?_
  refine ic_seq ?_
  refine x_mid [9] [4, 5, 6, 7, 8] (fun vs σ => vs = [.bool (decide (k < 0) || decide (3 < k))] ∧ σ = []) ?_ ?_
  · refine ic_region ?_
    repeat' (first | refine x_op ?_ | refine n_op ?_ | refine y_op ?_ | refine il_split (fun _ => ?_) (fun _ => ?_) | refine il_nil ?_)
    all_goals exact x_there
  rintro vs σ ⟨rfl, rfl⟩
  simp only [sets, nf]
  refine ic_cond rfl (fun hc => ?_) (fun hc => ?_) -- t9
  · -- true
    have he : lineTag k = 0 := by unfold lineTag; rw [if_pos (by simpa using hc)]
    rw [he, hc]
    refine ic_seq ?_
    refine ic_region ?_
    refine x_op ?_
    refine x_op ?_
    refine il_nil ?_
    refine ic_ret ?_
    repeat (first | with_reducible refine it_ret ?_ | with_reducible refine ib_ret ?_)
    exact x_res2 Tryz.results80 rfl
  · -- false
    have he : lineTag k = 2 + k := by unfold lineTag; rw [if_neg (by simpa using hc)]
    have hb : 0 ≤ k ∧ k ≤ 3 := by simp at hc; omega
    rw [he, hc]
    refine ic_skip ?_
    refine ic_seq ?_
    refine ic_region ?_
    refine x_op ?_
    refine x_op ?_
    refine x_op ?_
    refine x_op ?_
    refine il_nil ?_
    refine ic_ret ?_
    repeat (first | with_reducible refine it_ret ?_ | with_reducible refine ib_ret ?_)
    exact x_res2 Tryz.results80 rfl
theorem node_calls (l : Lin) (h : l.cells.length ≤ 16777216) (h2 : l.lists.length ≤ 16777216) : ICalls Tryz.prog 56 [eL l] [] (fun u _ => u = eN (nodeV l)) := by
  have hsz := rowV_sz l.cells
  refine x_enter Tryz.func56 Tryz.ntmps56 ?_
  refine ic_seq ?_
  refine ic_region ?_
  refine x_op ?_
  refine x_op ?_
  refine il_nil ?_
  refine ic_seq ?_
  refine ic_region ?_
  refine x_op ?_
  refine x_op ?_
  refine x_cv (line_calls l.kind) ?_
  refine x_op ?_
  refine x_op ?_
  refine x_op ?_
  refine x_op ?_
  refine x_op ?_
  refine il_nil ?_
  refine x_mid [3] [11, 12, 13, 14] (fun vs σ => vs = [.int .i64 (if 0 < l.lists.length then 9 else lineTag l.kind)] ∧ σ = [.box 31 (lnc l), .box 35 [.int .i64 0, .nils, .str ⟨#[]⟩, .nils]]) ?_ ?_
  ·
    refine ic_seq ?_
    refine ic_region ?_
    refine x_op ?_
    refine x_op ?_
    refine x_op ?_
    refine x_op ?_
    refine il_nil ?_
    refine ic_cond rfl (fun hc => ?_) (fun hc => ?_) -- t14
    · -- true
      rw [if_pos (by have := of_decide_eq_true hc; omega)]
      refine ic_region ?_
      refine x_op ?_
      refine il_nil ?_
      exact x_here ⟨rfl, rfl⟩
    · -- false
      rw [if_neg (by have := of_decide_eq_false hc; omega)]
      refine ic_skip ?_
      exact x_here ⟨rfl, rfl⟩
  rintro vs σ ⟨rfl, rfl⟩
  simp only [sets, nf, lnc]
  refine ic_seq ?_
  refine ic_region ?_
  refine x_op ?_
  refine x_op ?_
  refine x_op ?_
  refine x_cv (row_calls l.cells false h) ?_
  refine x_cv (elem_calls (if 0 < l.lists.length then 9 else lineTag l.kind) (rowV l.cells) false (by omega)) ?_
  refine x_op ?_
  refine il_nil ?_
  refine ic_ret ?_
  repeat (first | with_reducible refine it_ret ?_ | with_reducible refine ib_ret ?_)
  exact x_res1 Tryz.results56 rfl
end Go.Proofs.YtokbhcnomffopaaGreatDoor
end

section
/- The contracts of render.nodes and Host. -/
set_option linter.unusedVariables false
set_option linter.unusedSimpArgs false
set_option maxHeartbeats 4000000
namespace Go.Proofs.YtokbhcnomffopaaGreatDoor
open Go Go.QL

theorem nodes1_calls (level : Nat) (x y : Lin) (hx : x.lists.length ≤ 16777216) (hy : y.lists.length ≤ 16777216) : ICalls Tryz.prog 53 [eL x, eL y, .dptr [.int .i64 level]] [] (fun u _ => u = .bool (alLine level x y)) := by
  refine x_enter Tryz.func53 Tryz.ntmps53 ?_
  refine ic_seq ?_
  refine ic_region ?_
  refine x_op ?_
  refine x_op ?_
  refine x_op ?_
  refine il_nil ?_
  refine ic_seq ?_
  refine ic_drawq 14 (by kernel_rfl) rfl rfl ?_
  refine q_op ?_
  refine q_op ?_
  refine q_cv (step_calls x level hx) ?_
  refine q_op ?_
  refine q_op ?_
  rcases Bool.eq_false_or_eq_true (!decide (stepV x level = 0)) with h | h
  · simp only [h]
    refine qy_op ?_
    refine qy_op ?_
    refine qy_cv (step_calls x level hx) ?_
    refine qy_op ?_
    refine qy_op ?_
    refine qy_cv (step_calls y level hy) ?_
    refine qy_op ?_
    refine q_op ?_
    refine q_op ?_
    refine iq_nil ?_
    refine d_done ?_
    refine ic_ret ?_
    repeat (first | with_reducible refine it_ret ?_ | with_reducible refine ib_ret ?_)
    exact x_ret1v Tryz.results53 (he := by rw [alLine, h]; rfl)
  · simp only [h]
    refine qn_op ?_
    refine qn_op ?_
    refine qn_op ?_
    refine qn_op ?_
    refine qn_op ?_
    refine qn_op ?_
    refine qn_op ?_
    refine q_op ?_
    refine q_op ?_
    refine iq_nil ?_
    refine d_done ?_
    refine ic_ret ?_
    repeat (first | with_reducible refine it_ret ?_ | with_reducible refine ib_ret ?_)
    exact x_ret1v Tryz.results53 (he := by rw [alLine, h]; rfl)
theorem nodes_cons (sub : List Lin → List Nd) (level : Nat) (x : Lin) (tl : List Lin) : (grp (alLine level) (x :: tl)).map (grpN sub level) = grpN sub level (x :: tl.takeWhile (alLine level x)) :: (grp (alLine level) (tl.dropWhile (alLine level x))).map (grpN sub level) := by
  rw [grp, List.map_cons]
theorem nodesS (level : Nat) (hlev : level ≤ 1000) (sub : List Lin → List Nd) (c : Nat) (hs : ∀ p, szl (sub p) ≤ lsz (c + 1) p) (d : List Lin) (b : Bool) (hsz : lsz (c + 2) d ≤ 1073741824) (hd1 : ∀ l ∈ d, l.cells.length ≤ 16777216) (hd2 : ∀ l ∈ d, l.lists.length ≤ 16777216)
    (ih : ∀ (x : Lin) (p : List Lin), (∀ l ∈ x :: p, l ∈ d) → lsz (c + 2) (x :: p) ≤ lsz (c + 2) d → stepV x level ≠ 0 → ICalls Tryz.prog 30 [.sl false ((x :: p).map eL), .int .i64 ((level + 1 : Nat) : Int)] [] (fun u _ => u = eNs (sub (x :: p)))) :
    ICalls Tryz.prog 30 [.sl b (d.map eL), .int .i64 level] [] (fun u _ => u = eNs ((grp (alLine level) d).map (grpN sub level))) := by
  have hszr := grpN_szl hs level (alLine level) d
  have hdlen : d.length ≤ 1073741824 := by have := lsz_eq (c + 2) d; have : (c + 2) * d.length = c * d.length + 2 * d.length := Nat.add_mul _ _ _; omega
  generalize hall : (grp (alLine level) d).map (grpN sub level) = all at hszr ⊢
  have hcl : Dat (.fn (.func 79) [] [.dptr [.sl b (d.map eL)], .dptr [.fn (.func 53) [] [.dptr [.int .i64 level]]]]) :=
    Dat.fn dat_nil (dat_cons (Dat.dptr (dat_cons (Dat.sl (dat_map dat_eL _)) dat_nil)) (dat_cons (Dat.dptr (dat_cons (Dat.fn dat_nil (dat_cons (Dat.dptr (dat_cons (.int _ _) dat_nil)) dat_nil)) dat_nil)) dat_nil))
  refine icalls_marks Tryz.func30 rfl (by simp only [Tryz.ntmps30, List.length_cons, List.length_nil, Nat.reduceAdd, Nat.reduceSub, List.replicate_succ, List.replicate_zero, List.cons_append, List.nil_append] <;> rfl) ?_
  refine ic_seq ?_
  refine ic_region ?_
  refine x_op ?_
  refine x_op ?_
  refine il_nil ?_
  refine ic_fbox 0 rfl x_fz x_nf ?_
  refine ic_seq ?_
  refine ic_region ?_
  refine x_op ?_
  refine il_nil ?_
  refine ic_row0 1 0 35 4 rfl rfl rfl x_nf ?_
  refine ic_seq ?_
  refine ic_region ?_
  refine x_op ?_
  refine x_op ?_
  refine il_nil ?_
  refine ic_seq ?_
  refine ic_seq ?_
  refine ic_region ?_
  refine x_op ?_
  refine x_op ?_
  refine il_callv rfl rfl rfl x_nf ((partsL_calls d b _ _ _).frame1 (dat_cons (Dat.sl (dat_map dat_eL _)) (dat_cons (Dat.fn dat_nil (dat_cons (Dat.dptr (dat_cons (.int _ _) dat_nil)) dat_nil)) dat_nil)) hcl _) x_nf ?_
  refine il_nil ?_
  refine ic_block ?_ -- 0
  -- RANGEFUNC t12
  refine ic_rangeFunc rfl rfl (fun fn => ?_)
  generalize hLP : IObj.loop LoopState.ready none fn _ _ _ _ _ = LP
  refine (partsL1_calls d b 53 [] [.dptr [.int .i64 level]] (alLine level) 4 (fun rem σ => (∀ y ∈ rem, y ∈ d) ∧ lsz (c + 2) rem ≤ lsz (c + 2) d ∧ ∃ done : List Nd, done ++ (grp (alLine level) rem).map (grpN sub level) = all ∧
      σ = [.gone, .box TS_Node [.row 2 done.length], .row 35 4 (done.map eN), .obj (.deferred (some [])), LP]) _ ⟨fun _ h => h, Nat.le_refl _, [], hall, rfl⟩ (by omega)
    (fun x hx y hy σ => (nodes1_calls level x y (hd2 x hx) (hd2 y hy)).frame1 (dat_cons (dat_eL _) (dat_cons (dat_eL _) (dat_cons (Dat.dptr (dat_cons (.int _ _) dat_nil)) dat_nil))) (.bool _) σ) ?_).mono ?_
  · -- a round
    rintro x tl σ ⟨hmem, hrl, done, hd, rfl⟩
    rw [nodes_cons] at hd
    have hdl : szl all = szl done + ((grpN sub level (x :: tl.takeWhile (alLine level x))).sz + szl ((grp (alLine level) (tl.dropWhile (alLine level x))).map (grpN sub level))) := by rw [← hd, szl_append]; rfl
    have hs1 := szl_len done
    have hpm : ∀ l ∈ x :: tl.takeWhile (alLine level x), l ∈ d := fun l hl => hmem l (by
      rcases List.mem_cons.1 hl with rfl | hl
      · exact List.mem_cons_self ..
      · exact List.mem_cons_of_mem _ ((List.takeWhile_sublist _).subset hl))
    have hrm : ∀ l ∈ tl.dropWhile (alLine level x), l ∈ d := fun l hl => hmem l (List.mem_cons_of_mem _ (dropWhile_mem _ _ _ hl))
    have h3 : lsz (c + 2) (x :: tl) = lsz (c + 2) (x :: tl.takeWhile (alLine level x)) + lsz (c + 2) (tl.dropWhile (alLine level x)) := by
      rw [← lsz_append, List.cons_append, List.takeWhile_append_dropWhile]
    have hxl := hd2 x (hpm x (List.mem_cons_self ..))
    have hxc := hd1 x (hpm x (List.mem_cons_self ..))
    generalize hps : tl.takeWhile (alLine level x) = ps at hd hdl hpm h3 ⊢
    generalize tl.dropWhile (alLine level x) = rem at hd hdl hrm h3 ⊢
    have hsub := hs (x :: ps)
    have hpz : lsz (c + 2) (x :: ps) ≤ lsz (c + 2) d := by omega
    rw [lsz_succ (c + 1) (x :: ps), lsz_succ c] at h3
    rw [lsz_succ c] at hsub
    have hix : ((x :: ps).map eL)[(0 : Int).toNat]? = some (eL x) := rfl
    refine IYield.cut ?_
    refine iyield_in (by rw [← hLP]; rfl) rfl (by simp only [List.zip_cons_cons, List.zip_nil_right, List.foldl_cons, List.foldl_nil, nf] <;> rfl) (fun bk => ?_)
    refine ic_region ?_
    refine x_op ?_
    refine il_nil ?_
    refine ⟨by rw [← hLP]; rfl, ?_⟩
    generalize hLB : IObj.loop LoopState.busy none fn _ _ _ _ _ = LB
    refine ic_mid (fun a s => a.defers = [] ∧ ∃ τ, s = [.gone, .box TS_Node [.row 2 (done.length + 1)], .row 35 4 ((done ++ [grpN sub level (x :: ps)]).map eN), .obj (.deferred (some [])), LB] ++ τ) ?_ ?_
    · refine ic_block ?_ -- 1
      refine ic_seq ?_
      refine ic_drawq 6 (by kernel_rfl) rfl rfl ?_
      refine q_op ?_
      refine q_op ?_
      refine q_op ?_
      refine q_op ?_
      refine q_cv (step_calls x level hxl) ?_
      refine q_op ?_
      refine iq_nil ?_
      refine d_done ?_
      refine ic_seq ?_
      refine ic_region ?_
      refine x_op ?_
      refine x_op ?_
      refine il_nil ?_
      refine ic_cond rfl (fun hc => ?_) (fun hc => ?_) -- t20
      · -- true
        have hx : stepV x level ≠ 0 := by simpa using hc
        have hg : grpN sub level (x :: ps) = .mk (stepV x level) [] ⟨#[]⟩ (sub (x :: ps)) := by unfold grpN; exact if_neg hx
        refine ic_drawq 9 (by kernel_rfl) rfl rfl ?_
        refine q_op ?_
        refine q_op ?_
        refine q_op ?_
        refine q_op ?_
        refine q_op ?_
        refine q_cv (ih x ps hpm hpz hx) ?_
        refine q_cv (elem_calls (stepV x level) (sub (x :: ps)) false (by omega)) ?_
        refine q_op ?_
        refine q_op ?_
        refine iq_nil ?_
        refine d_op 9 ?_
        refine ig_two 10 12 (by kernel_rfl) ?_ ?_
        · refine g_op ?_
          refine ig_two 11 12 (by kernel_rfl) ?_ ?_
          · refine g_op ?_
            refine d_op 12 ?_
            refine d_done ?_
            exact ⟨rfl, [], by rw [hg]; (try simp only [set_last, List.append_nil]) <;> rfl⟩
          · refine g_op ?_
            refine d_op 11 ?_
            refine d_done ?_
            exact ⟨rfl, [], by rw [hg]; (try simp only [set_last, List.append_nil]) <;> rfl⟩
        · refine g_op ?_
          refine d_op 10 ?_
          refine d_op 11 ?_
          refine d_done ?_
          exact ⟨rfl, [], by rw [hg]; (try simp only [set_last, List.append_nil]) <;> rfl⟩
      · -- false
        have hx : stepV x level = 0 := by simpa using hc
        have hg : grpN sub level (x :: ps) = nodeV x := by unfold grpN; exact if_pos hx
        refine ic_drawq 7 (by kernel_rfl) rfl rfl ?_
        refine q_op ?_
        refine q_op ?_
        refine q_op ?_
        refine q_op ?_
        refine q_cv (node_calls x hxc hxl) ?_
        refine q_op ?_
        refine q_op ?_
        refine iq_nil ?_
        refine d_op 7 ?_
        refine ig_two 8 10 (by kernel_rfl) ?_ ?_
        · refine g_op ?_
          refine ig_two 9 10 (by kernel_rfl) ?_ ?_
          · refine g_op ?_
            refine d_op 10 ?_
            refine d_done ?_
            exact ⟨rfl, [], by rw [hg]; (try simp only [set_last, List.append_nil]) <;> rfl⟩
          · refine g_op ?_
            refine d_op 9 ?_
            refine d_done ?_
            exact ⟨rfl, [], by rw [hg]; (try simp only [set_last, List.append_nil]) <;> rfl⟩
        · refine g_op ?_
          refine d_op 8 ?_
          refine d_op 9 ?_
          refine d_done ?_
          exact ⟨rfl, [], by rw [hg]; (try simp only [set_last, List.append_nil]) <;> rfl⟩
    · rintro a s ⟨hdf, τ, rfl⟩
      refine ⟨by rw [← hLB]; rfl, [.gone, .box TS_Node [.row 2 (done.length + 1)], .row 35 4 ((done ++ [grpN sub level (x :: ps)]).map eN), .obj (.deferred (some [])), LP], τ, ?_, rfl, ?_, rfl, hrm, by omega, done ++ [grpN sub level (x :: ps)], by rw [List.append_assoc]; exact hd, by rw [List.length_append]; rfl⟩
      · rw [hLP]
        rfl
      · intro k o e
        rcases k with _ | _ | _ | _ | _ | k
        · exact .inl e
        · cases e; exact .inr (olt_box x_lts)
        · cases e; exact .inr (olt_row (dat_map dat_eN _))
        · exact .inl e
        · exact .inl e
        · simp at e
  · -- behind the loop
    rintro u σ' ⟨rfl, _, _, done, hd, rfl⟩
    simp only [grp, List.map_nil, List.append_nil] at hd
    subst hd
    refine ⟨.ready, none, by rw [← hLP]; rfl, by simp, ?_⟩
    refine ic_seq ?_
    refine ic_region ?_
    refine x_op ?_
    refine x_op ?_
    refine il_nil ?_
    refine ic_freeze 4 rfl rfl (by simp) ?_
    refine ic_ret ?_
    repeat (first | with_reducible refine it_ret ?_ | with_reducible refine ib_ret ?_)
    exact ⟨rfl, _, ires_tmp Tryz.results30 x_le, rfl⟩
theorem stepV_0 {l : Lin} {level : Nat} (h : (wayV l).length ≤ level) : stepV l level = 0 := by
  unfold stepV
  rw [List.getD_eq_getElem?_getD, List.getElem?_eq_none h]
  rfl
theorem nodes_calls : ∀ (f level : Nat) (d : List Lin) (b : Bool), level + f ≤ 1000 → lsz (f + 2) d ≤ 1073741824 → (∀ l ∈ d, l.cells.length ≤ 16777216) → (∀ l ∈ d, l.lists.length ≤ 16777216) → (∀ l ∈ d, (wayV l).length ≤ level + f) →
    ICalls Tryz.prog 30 [.sl b (d.map eL), .int .i64 level] [] (fun u _ => u = eNs (nodesV f level d))
  | 0, level, d, b, hlev, hsz, h1, h2, hw => by
    rw [nodesV_0 level d (fun l hl => stepV_0 (hw l hl))]
    refine nodesS level hlev (fun _ => []) 0 (fun p => by simp [szl]) d b hsz h1 h2 fun x p hm _ hne => ?_
    exact absurd (stepV_0 (hw x (hm x (List.mem_cons_self ..)))) hne
  | f + 1, level, d, b, hlev, hsz, h1, h2, hw => by
    rw [nodesV_eq]
    refine nodesS level (by omega) (nodesV f (level + 1)) (f + 1) (fun p => nodesV_szl f (level + 1) p) d b hsz h1 h2 fun x p hm hz _ => ?_
    refine nodes_calls f (level + 1) (x :: p) false (by omega) ?_ (fun l hl => h1 l (hm l hl)) (fun l hl => h2 l (hm l hl)) (fun l hl => by have := hw l (hm l hl); omega)
    have : lsz (f + 1 + 2) (x :: p) = lsz (f + 2) (x :: p) + (x :: p).length := lsz_succ (f + 2) (x :: p)
    omega
theorem docMay_len {T : Str → Bool} {d : List Lin} (h : docMay T d = true) : d.length ≤ 200 ∧ dsize d ≤ 4000 ∧ ∀ l ∈ d, l.lists.length ≤ 6 := by
  simp only [docMay, Bool.and_eq_true, decide_eq_true_eq, Bool.not_eq_true'] at h
  obtain ⟨⟨⟨h1, h2⟩, h3⟩, h4⟩ := h
  refine ⟨by omega, by omega, fun l hl => ?_⟩
  have h5 := List.any_eq_false.1 h4 l hl
  simp only [Bool.not_eq_true', Bool.not_eq_false, linMay, lin1, Bool.and_eq_true, Bool.or_eq_true, decide_eq_true_eq, Bool.or_eq_false_iff, decide_eq_false_iff_not] at h5
  omega
theorem host_calls (T : Str → Bool) (d : List Lin) (b : Bool) (h : DocIn T d) : ICalls Tryz.prog 13 [.sl b (d.map eL)] [] (fun u _ => u = .tup [eN (hostV T d).1, .int .i64 (hostV T d).2]) := by
  refine x_enter Tryz.func13 Tryz.ntmps13 ?_
  refine ic_seq ?_
  refine ic_region ?_
  refine x_op ?_
  refine x_op ?_
  refine il_nil ?_
  refine ic_seq ?_
  refine ic_seq ?_
  refine ic_region ?_
  refine x_op ?_
  refine x_cv (docMay_calls T d b h) ?_
  refine x_op ?_
  refine il_nil ?_
  refine ic_cond rfl (fun hc => ?_) (fun hc => ?_) -- t6
  · -- true
    have he : hostV T d = (zeroN, 1) := by unfold hostV; exact if_neg (by simpa using hc)
    refine ic_seq ?_
    refine ic_region ?_
    refine x_op ?_
    refine x_op ?_
    refine x_op ?_
    refine il_nil ?_
    refine ic_ret ?_
    repeat (first | with_reducible refine it_ret ?_ | with_reducible refine ib_ret ?_)
    exact x_res2 Tryz.results13 (by rw [he])
  · -- false
    have hm : docMay T d = true := by simpa using hc
    have he : hostV T d = (.mk 1 [] ⟨#[]⟩ (nodesV 12 0 d), 0) := by unfold hostV; exact if_pos hm
    obtain ⟨hn, hz, hl⟩ := docMay_len hm
    have hs := nodesV_szl 12 0 d
    have hs2 := lsz_eq (12 + 2) d
    refine ic_skip ?_
    refine ic_seq ?_
    refine ic_region ?_
    refine x_op ?_
    refine x_cv (nodes_calls 12 0 d b (by omega) (by omega) h.cells h.l (fun l hx => by have := hl l hx; have := wayV_len l; have := qN_le l.quote; omega)) ?_
    refine x_cv (elem_calls 1 (nodesV 12 0 d) false (by omega)) ?_
    refine x_op ?_
    refine x_op ?_
    refine il_nil ?_
    refine ic_ret ?_
    repeat (first | with_reducible refine it_ret ?_ | with_reducible refine ib_ret ?_)
    exact x_res2 Tryz.results13 (by rw [he])
end Go.Proofs.YtokbhcnomffopaaGreatDoor
end

section
/- QL, part 4: how much text a host has; the point of a place. No program in sight. -/
set_option linter.unusedVariables false
set_option linter.unusedSimpArgs false
namespace Go.QL
open Go Go.RowKit
theorem wrap1_tb (bits t : Int) (l : List Nd) : tbl (wrap1 bits t l) = tbl l := by
  unfold wrap1
  split
  · rfl
  · simp only [tbl, Nd.tb, size_e]; omega
theorem wrapN_tb (bits : Int) (l : List Nd) : ∀ i, tbl (wrapN bits l i) = tbl l
  | 0 => rfl
  | i + 1 => by rw [wrapN, wrap1_tb, wrapN_tb bits l i]
theorem wrapV_tb (bits : Int) (href : Str) (l : List Nd) : tbl (wrapV bits href l) = tbl l := by
  unfold wrapV
  split
  · exact wrapN_tb _ _ _
  · simp only [tbl, Nd.tb, size_e, wrapN_tb]; omega
theorem grp_tb {α : Type} (al : α → α → Bool) (f : List α → List Nd) (c : Nat) (hf : ∀ p, p ≠ [] → tbl (f p) ≤ c * p.length) : ∀ l : List α, tbl ((grp al l).flatMap f) ≤ c * l.length := by
  intro l
  induction l using grp.induct al with
  | case1 => simp [grp, tbl]
  | case2 x l ih =>
    have h1 := hf (x :: l.takeWhile (al x)) (by simp)
    have h2 : (l.takeWhile (al x)).length + (l.dropWhile (al x)).length = l.length := by rw [← List.length_append, List.takeWhile_append_dropWhile]
    rw [grp, List.flatMap_cons, tbl_append]
    simp only [List.length_cons] at h1 ⊢
    have : c * (l.length + 1) = c * ((l.takeWhile (al x)).length + 1) + c * (l.dropWhile (al x)).length := by rw [← Nat.mul_add]; congr 1; omega
    omega
theorem leafV_tb (p : List Cel) : (leafV p).tb ≤ 4 * p.length := by
  cases p with
  | nil => simp [leafV, Nd.tb, tbl, size_e]
  | cons c l =>
    unfold leafV
    simp only
    split
    · simp only [Nd.tb, tbl, size_e]; omega
    · have : (strOf ((c :: l).map (·.r))).size ≤ 4 * ((c :: l).map (·.r)).length := runesBytes_size_le _
      rw [List.length_map] at this
      simp only [Nd.tb, tbl]
      omega
theorem leavesV_tb (l : List Cel) : tbl (leavesV l) ≤ 4 * l.length := by
  have := grp_tb alLeaf (fun p => [leafV p]) 4 (fun p hp => by
    have := leafV_tb p
    show tbl [leafV p] ≤ _
    simp only [tbl]
    omega) l
  have h2 : (grp alLeaf l).flatMap (fun p => [leafV p]) = leavesV l := by
    unfold leavesV
    induction grp alLeaf l with
    | nil => rfl
    | cons p ps ih => rw [List.flatMap_cons, ih]; rfl
  rwa [h2] at this
theorem styledV_tb : ∀ (n : Nat) (bit : Int) (l : List Cel), tbl (styledV n bit l) ≤ 4 * l.length
  | 0, bit, l => leavesV_tb l
  | n + 1, bit, l => by
    simp only [styledV]
    refine grp_tb _ _ _ (fun p hp => ?_) l
    rw [wrapV_tb]
    exact styledV_tb n _ p
theorem rowV_tb (l : List Cel) : tbl (rowV l) ≤ 4 * l.length := by
  unfold rowV
  refine grp_tb _ _ _ (fun p hp => ?_) l
  rw [wrapV_tb]
  exact styledV_tb 4 1 p
theorem nodeV_tb (l : Lin) : (nodeV l).tb ≤ 4 * l.cells.length := by
  have := rowV_tb l.cells
  simp only [nodeV, Nd.tb, size_e]
  omega
theorem dsize_cons (l : Lin) (d : List Lin) : dsize (l :: d) = l.cells.length + dsize d := by simp [dsize]
theorem dsize_append (a b : List Lin) : dsize (a ++ b) = dsize a + dsize b := by simp [dsize, List.sum_append]
theorem grpN_tb {sub : List Lin → List Nd} (hs : ∀ p, tbl (sub p) ≤ 4 * dsize p) (level : Nat) (p : List Lin) (hp : p ≠ []) : (grpN sub level p).tb ≤ 4 * dsize p := by
  cases p with
  | nil => exact absurd rfl hp
  | cons l p =>
    unfold grpN
    split
    · have := nodeV_tb l
      rw [dsize_cons]
      simp only [hdL] at *
      omega
    · have := hs (l :: p)
      simp only [Nd.tb, size_e]
      omega
theorem grpN_tbl {sub : List Lin → List Nd} (hs : ∀ p, tbl (sub p) ≤ 4 * dsize p) (level : Nat) (al : Lin → Lin → Bool) : ∀ d : List Lin, tbl ((grp al d).map (grpN sub level)) ≤ 4 * dsize d
  | [] => by simp [grp, tbl]
  | l :: d => by
    have h1 := grpN_tb hs level (l :: d.takeWhile (al l)) (by simp)
    have h2 := grpN_tbl hs level al (d.dropWhile (al l))
    rw [grp]
    have h3 : dsize (l :: d) = dsize (l :: d.takeWhile (al l)) + dsize (d.dropWhile (al l)) := by
      rw [← dsize_append, List.cons_append, List.takeWhile_append_dropWhile]
    simp only [List.map_cons, tbl]
    omega
  termination_by d => d.length
  decreasing_by
    have := dropWhile_le (al l) d
    simp
    omega
theorem nodesV_tbl : ∀ (f level : Nat) (d : List Lin), tbl (nodesV (f + 1) level d) ≤ 4 * dsize d ∧ tbl (nodesV 0 level d) ≤ 4 * dsize d
  | 0, level, d => by
    have h0 : ∀ (level : Nat) (n : Nat) (d : List Lin), d.length ≤ n → tbl (nodesV 0 level d) ≤ 4 * dsize d := by
      intro level n
      induction n with
      | zero => intro d hd; have : d = [] := List.eq_nil_of_length_eq_zero (by omega); subst this; simp [nodesV, grp, tbl]
      | succ n ih =>
        intro d hd
        cases d with
        | nil => simp [nodesV, grp, tbl]
        | cons l d =>
          have h2 := ih (d.dropWhile (alLine level l)) (by have := dropWhile_le (alLine level l) d; simp at hd; omega)
          have h3 : dsize (l :: d) = l.cells.length + (dsize (d.takeWhile (alLine level l)) + dsize (d.dropWhile (alLine level l))) := by
            rw [← dsize_append, List.takeWhile_append_dropWhile, dsize_cons]
          have h1 := nodeV_tb l
          unfold nodesV at h2 ⊢
          rw [grp]
          simp only [List.map_cons, tbl]
          rw [show hdL (l :: d.takeWhile (alLine level l)) = l from rfl]
          omega
    refine ⟨?_, h0 level d.length d (Nat.le_refl _)⟩
    rw [nodesV_eq]
    exact grpN_tbl (fun p => h0 (level + 1) p.length p (Nat.le_refl _)) level _ d
  | f + 1, level, d => by
    refine ⟨?_, (nodesV_tbl f level d).2⟩
    rw [nodesV_eq]
    exact grpN_tbl (fun p => (nodesV_tbl f (level + 1) p).1) level _ d
/-! ### places -/
def docIsV (d : List Lin) (p : Pos) : Bool := decide (0 ≤ p.line) && (decide (p.line < (d.length : Int)) && (decide (0 ≤ p.at_) && decide (p.at_ ≤ ((d.getD p.line.toNat default).cells.length : Int))))
def pointV (T : Str → Bool) (d : List Lin) (p : Pos) : Pnt × Int :=
  if docMay T d = true ∧ docIsV d p = true then
    (match (lineF (hostV T d).1 [] p.line).1 with
      | none => (⟨[], 0⟩, 0)
      | some (path, n) => if p.at_ = 0 then (⟨path, 0⟩, 0) else
        match (leafF n path p.at_).1 with
        | none => (⟨[], 0⟩, 0)
        | some (q, a) => (⟨q, a⟩, 0))
  else (⟨[], 0⟩, 1)
end Go.QL
end

section
/- The contracts of doc.Is, render.Point. -/
set_option linter.unusedVariables false
set_option linter.unusedSimpArgs false
set_option maxHeartbeats 4000000
namespace Go.Proofs.YtokbhcnomffopaaGreatDoor
open Go Go.QL

theorem docIs_calls (d : List Lin) (b : Bool) (p : Pos) : ICalls Tryz.prog 34 [.sl b (d.map eL), eP p] [] (fun u _ => u = .bool (docIsV d p)) := by
  refine x_enter Tryz.func34 Tryz.ntmps34 ?_
  refine ic_seq ?_
  refine ic_region ?_
  refine x_op ?_
  refine x_op ?_
  refine il_nil ?_
  refine ic_seq ?_
  refine ic_drawq 28 (by kernel_rfl) rfl rfl ?_
  refine q_op ?_
  refine q_op ?_
  refine q_op ?_
  refine q_op ?_
  rcases Bool.eq_false_or_eq_true (decide (p.line ≥ 0)) with h1 | h1
  · simp only [h1]
    refine qy_op ?_
    refine qy_op ?_
    refine qy_op ?_
    refine qy_op ?_
    refine qy_op ?_
    refine q_op ?_
    refine q_op ?_
    rcases Bool.eq_false_or_eq_true (decide (p.line < (d.length : Int))) with h2 | h2
    · simp only [h2]
      refine qy_op ?_
      refine qy_op ?_
      refine qy_op ?_
      refine q_op ?_
      refine q_op ?_
      have hil : p.line.toNat < d.length := by have := of_decide_eq_true h1; have := of_decide_eq_true h2; omega
      obtain ⟨l, hl⟩ : ∃ l, d[p.line.toNat] = l := ⟨_, rfl⟩
      have hxi : (d.map eL)[p.line.toNat]? = some (eL l) := by simp [hil, hl]
      have h0 := of_decide_eq_true h1
      have hg : d.getD p.line.toNat default = l := by simp [List.getD, hil, hl]
      rcases Bool.eq_false_or_eq_true (decide (p.at_ ≥ 0)) with h3 | h3
      · have e : docIsV d p = decide (p.at_ ≤ (l.cells.length : Int)) := by
          unfold docIsV
          rw [hg]
          simp only [ge_iff_le] at h1 h3
          simp [h1, h2, h3]
        rw [e]
        simp only [h3]
        refine qy_op ?_
        refine qy_op ?_
        refine qy_op ?_
        refine qy_op ?_
        refine qy_op ?_
        refine qy_op ?_
        refine qy_op ?_
        refine qy_op ?_
        refine qy_op ?_
        refine qy_op ?_
        refine q_op ?_
        refine q_op ?_
        refine iq_nil ?_
        refine d_done ?_
        refine ic_ret ?_
        repeat (first | with_reducible refine it_ret ?_ | with_reducible refine ib_ret ?_)
        exact x_res1 Tryz.results34 rfl
      · have e : docIsV d p = false := by
          unfold docIsV
          simp only [ge_iff_le] at h1 h3
          simp [h1, h2, h3]
        rw [e]
        simp only [h3]
        refine qn_op ?_
        refine qn_op ?_
        refine qn_op ?_
        refine qn_op ?_
        refine qn_op ?_
        refine qn_op ?_
        refine qn_op ?_
        refine qn_op ?_
        refine qn_op ?_
        refine qn_op ?_
        refine q_op ?_
        refine q_op ?_
        refine iq_nil ?_
        refine d_done ?_
        refine ic_ret ?_
        repeat (first | with_reducible refine it_ret ?_ | with_reducible refine ib_ret ?_)
        exact x_res1 Tryz.results34 rfl
    · have e : docIsV d p = false := by
        unfold docIsV
        simp [h2]
      rw [e]
      simp only [h2]
      refine qn_op ?_
      refine qn_op ?_
      refine qn_op ?_
      refine q_op ?_
      refine q_op ?_
      refine qn_op ?_
      refine qn_op ?_
      refine qn_op ?_
      refine qn_op ?_
      refine qn_op ?_
      refine qn_op ?_
      refine qn_op ?_
      refine qn_op ?_
      refine qn_op ?_
      refine qn_op ?_
      refine q_op ?_
      refine q_op ?_
      refine iq_nil ?_
      refine d_done ?_
      refine ic_ret ?_
      repeat (first | with_reducible refine it_ret ?_ | with_reducible refine ib_ret ?_)
      exact x_res1 Tryz.results34 rfl
  · have e : docIsV d p = false := by
      unfold docIsV
      simp only [ge_iff_le] at h1
      simp [h1]
    rw [e]
    simp only [h1]
    refine qn_op ?_
    refine qn_op ?_
    refine qn_op ?_
    refine qn_op ?_
    refine qn_op ?_
    refine q_op ?_
    refine q_op ?_
    refine qn_op ?_
    refine qn_op ?_
    refine qn_op ?_
    refine q_op ?_
    refine q_op ?_
    refine qn_op ?_
    refine qn_op ?_
    refine qn_op ?_
    refine qn_op ?_
    refine qn_op ?_
    refine qn_op ?_
    refine qn_op ?_
    refine qn_op ?_
    refine qn_op ?_
    refine qn_op ?_
    refine q_op ?_
    refine q_op ?_
    refine iq_nil ?_
    refine d_done ?_
    refine ic_ret ?_
    repeat (first | with_reducible refine it_ret ?_ | with_reducible refine ib_ret ?_)
    exact x_res1 Tryz.results34 rfl
theorem host_bounds {T : Str → Bool} {d : List Lin} (h : docMay T d = true) : (hostV T d).1.sz ≤ 1000000 ∧ (hostV T d).1.tb ≤ 1000000 := by
  obtain ⟨hn, hz, hl⟩ := docMay_len h
  have hs := nodesV_szl 12 0 d
  have hs2 := lsz_eq (12 + 2) d
  have ht := (nodesV_tbl 11 0 d).1
  unfold hostV
  rw [if_pos h]
  simp only [Nd.sz, Nd.tb, size_e, List.length_nil]
  constructor
  · omega
  · show 0 + tbl (nodesV (11 + 1) 0 d) ≤ _
    omega
mutual
theorem lineF_mem : ∀ (n : Nd) (path : List Int) (c : Int) (p : List Int) (m : Nd), (lineF n path c).1 = some (p, m) → m.sz < n.sz ∧ m.tb ≤ n.tb ∧ path.length < p.length ∧ p.length + 1 ≤ path.length + n.sz
  | .mk t a x kids, path, c, p, m, h => by
    rw [lineF] at h
    obtain ⟨h1, h2, h3, h4⟩ := lineL_mem kids 0 path c p m h
    simp only [Nd.sz, Nd.tb]
    omega
theorem lineL_mem : ∀ (l : List Nd) (i : Int) (path : List Int) (c : Int) (p : List Int) (m : Nd), (lineL l i path c).1 = some (p, m) → m.sz ≤ szl l ∧ m.tb ≤ tbl l ∧ path.length < p.length ∧ p.length ≤ path.length + szl l
  | [], i, path, c, p, m, h => by rw [lineL] at h; cases h
  | k :: ks, i, path, c, p, m, h => by
    rw [lineL] at h
    have hk := k.sz_eq
    simp only [szl, tbl]
    split at h
    · split at h
      · cases h
        rw [List.length_append, List.length_cons, List.length_nil]
        omega
      · have := lineL_mem ks (i + 1) path (c - 1) p m h
        omega
    · have h1 := lineF_mem k (path ++ [i]) c p m
      rw [List.length_append, List.length_cons, List.length_nil] at h1
      split at h
      · next r l e =>
        rw [e] at h1
        have := h1 h
        omega
      · next l e =>
        have := lineL_mem ks (i + 1) path l p m h
        omega
end
mutual
theorem leafF_len : ∀ (n : Nd) (path : List Int) (c : Int) (q : List Int) (a : Int), (leafF n path c).1 = some (q, a) → q.length + 1 ≤ path.length + n.sz
  | .mk t b x kids, path, c, q, a, h => by
    rw [leafF] at h
    have := leafL_len kids 0 path c q a h
    simp only [Nd.sz]
    omega
theorem leafL_len : ∀ (l : List Nd) (i : Int) (path : List Int) (c : Int) (q : List Int) (a : Int), (leafL l i path c).1 = some (q, a) → q.length ≤ path.length + szl l
  | [], i, path, c, q, a, h => by rw [leafL] at h; cases h
  | k :: ks, i, path, c, q, a, h => by
    rw [leafL] at h
    have hk := k.sz_eq
    simp only [szl]
    split at h
    · split at h
      · cases h
        omega
      · have := leafL_len ks (i + 1) path (c - 1) q a h
        omega
    · split at h
      · split at h
        · cases h
          rw [List.length_append, List.length_cons, List.length_nil]
          omega
        · have := leafL_len ks (i + 1) path _ q a h
          omega
      · have h1 := leafF_len k (path ++ [i]) c q a
        rw [List.length_append, List.length_cons, List.length_nil] at h1
        split at h
        · next r l e =>
          rw [e] at h1
          have := h1 h
          omega
        · next l e =>
          have := leafL_len ks (i + 1) path l q a h
          omega
end
theorem leafF_zero (path : List Int) (c : Int) : leafF zeroN path c = (none, c) := rfl
theorem point_calls (T : Str → Bool) (d : List Lin) (b : Bool) (p : Pos) (h : DocIn T d) : ICalls Tryz.prog 18 [.sl b (d.map eL), eP p] [] (fun u _ => u = .tup [ePt (pointV T d p).1, .int .i64 (pointV T d p).2]) := by
  refine x_enter Tryz.func18 Tryz.ntmps18 ?_
  refine ic_seq ?_
  refine ic_region ?_
  refine x_op ?_
  refine x_op ?_
  refine x_op ?_
  refine il_nil ?_
  refine ic_seq ?_
  refine ic_region ?_
  refine x_op ?_
  refine x_cv (host_calls T d b h) ?_
  refine x_op ?_
  refine x_op ?_
  refine x_op ?_
  refine x_op ?_
  refine x_op ?_
  refine x_op ?_
  refine il_nil ?_
  refine ic_seq ?_
  refine ic_seq ?_
  refine ic_region ?_
  refine x_op ?_
  refine x_op ?_
  refine x_op ?_
  by_cases hm : docMay T d = true
  · have he : (hostV T d).2 = 0 := by unfold hostV; rw [if_pos hm]
    have hd0 : (!decide ((hostV T d).2 = 0)) = false := by rw [he]; rfl
    obtain ⟨hb1, hb2⟩ := host_bounds hm
    simp only [hd0]
    first | refine n_op ?_ | refine y_op ?_
    first | refine n_op ?_ | refine y_op ?_
    refine y_cv (docIs_calls d b p) ?_
    first | refine n_op ?_ | refine y_op ?_
    refine x_op ?_
    refine il_nil ?_
    refine ic_cond rfl (fun hc => ?_) (fun hc => ?_) -- t26
    · -- true
      have hp : pointV T d p = (⟨[], 0⟩, 1) := by unfold pointV; rw [if_neg]; rintro ⟨_, h2⟩; rw [h2] at hc; cases hc
      rw [hp]
      refine ic_seq ?_
      refine ic_region ?_
      refine x_op ?_
      refine x_op ?_
      refine x_op ?_
      refine il_nil ?_
      refine ic_ret ?_
      repeat (first | with_reducible refine it_ret ?_ | with_reducible refine ib_ret ?_)
      exact x_res2 Tryz.results18 rfl
    · -- false
      have hi : docIsV d p = true := by simpa using hc
      have hpos : 0 ≤ p.line ∧ p.line ≤ 200 ∧ 0 ≤ p.at_ ∧ p.at_ ≤ 16777216 := by
        unfold docIsV at hi
        simp only [Bool.and_eq_true, decide_eq_true_eq] at hi
        obtain ⟨h1, h2, h3, h4⟩ := hi
        have h5 := (docMay_len hm).1
        have h6 : d.getD p.line.toNat default ∈ d := by
          rw [List.getD_eq_getElem?_getD, List.getElem?_eq_getElem (by omega)]
          exact List.getElem_mem _
        have h7 := h.cells _ h6
        omega
      have hcall := line_calls2 (hostV T d).1.sz (hostV T d).1 [] p.line p.at_ (Nat.le_refl _) (by simp; omega) hpos.1 (by omega)
      have hmem := lineF_mem (hostV T d).1 [] p.line
      have hge := lineF_ge (hostV T d).1 [] p.line hpos.1
      simp only [show eIp [] = IV.nils from rfl] at hcall
      refine ic_skip ?_
      refine ic_seq ?_
      refine ic_region ?_
      refine x_op ?_
      refine x_op ?_
      refine x_op ?_
      refine x_op ?_
      refine x_op ?_
      refine x_op ?_
      refine x_op ?_
      refine il_nil ?_
      refine ic_seq ?_
      refine ic_region ?_
      refine x_op ?_
      refine x_op ?_
      rcases e : lineF (hostV T d).1 [] p.line with ⟨_ | ⟨path, n⟩, l'⟩
      · rw [e] at hcall hge
        simp only [lineR] at hcall
        have hpv : pointV T d p = (⟨[], 0⟩, 0) := by unfold pointV; rw [if_pos ⟨hm, hi⟩, e]
        rw [hpv]
        refine x_cvP (k := 3) hcall ?_
        refine x_op ?_
        refine x_op ?_
        refine x_op ?_
        refine x_op ?_
        refine x_op ?_
        refine x_op ?_
        refine x_op ?_
        refine x_op ?_
        refine il_nil ?_
        refine ic_seq ?_
        refine ic_seq ?_
        refine ic_region ?_
        refine x_op ?_
        refine x_op ?_
        refine x_op ?_
        refine il_nil ?_
        refine ic_cond rfl (fun hc => ?_) (fun hc => ?_) -- t43
        · -- true
          refine ic_seq ?_
          refine ic_region ?_
          refine x_op ?_
          refine x_op ?_
          refine x_op ?_
          refine x_op ?_
          refine il_nil ?_
          refine ic_ret ?_
          repeat (first | with_reducible refine it_ret ?_ | with_reducible refine ib_ret ?_)
          exact x_res2 Tryz.results18 rfl
        · -- false
          have hne : ¬ p.at_ = 0 := of_decide_eq_false hc
          have hcall2 := leaf_calls2 1 zeroN [] l' p.at_ (by decide) (by decide) (by decide) (by omega) (by omega)
          rw [leafF_zero] at hcall2
          simp only [leafR, show eIp [] = IV.nils from rfl] at hcall2
          refine ic_skip ?_
          refine ic_seq ?_
          refine ic_region ?_
          refine x_op ?_
          refine x_op ?_
          refine x_op ?_
          refine x_cvP (k := 3) (hu := dat_leafR none) hcall2 ?_
          refine x_op ?_
          refine x_op ?_
          refine x_op ?_
          refine x_op ?_
          refine x_op ?_
          refine x_op ?_
          refine il_nil ?_
          refine ic_seq ?_
          refine ic_region ?_
          refine x_op ?_
          refine x_op ?_
          refine x_cv (cloneInil_calls) ?_
          refine x_op ?_
          refine x_op ?_
          refine il_nil ?_
          refine ic_seq ?_
          refine ic_region ?_
          refine x_op ?_
          refine x_op ?_
          refine x_op ?_
          refine il_nil ?_
          refine ic_ret ?_
          repeat (first | with_reducible refine it_ret ?_ | with_reducible refine ib_ret ?_)
          exact x_res2 Tryz.results18 rfl
      · rw [e] at hcall hge hmem
        simp only [lineR] at hcall
        obtain ⟨hm1, hm2, hm3, hm4⟩ := hmem path n rfl
        have hep : eIp path = .sl false (path.map eI) := by
          unfold eIp
          rw [if_neg]
          intro hpe
          rw [hpe] at hm3
          simp at hm3
        rw [hep] at hcall
        refine x_cvP (k := 3) hcall ?_
        refine x_op ?_
        refine x_op ?_
        refine x_op ?_
        refine x_op ?_
        refine x_op ?_
        refine x_op ?_
        refine x_op ?_
        refine x_op ?_
        refine il_nil ?_
        refine ic_seq ?_
        refine ic_seq ?_
        refine ic_region ?_
        refine x_op ?_
        refine x_op ?_
        refine x_op ?_
        refine il_nil ?_
        refine ic_cond rfl (fun hc => ?_) (fun hc => ?_) -- t43
        · -- true
          have hpv : pointV T d p = (⟨path, 0⟩, 0) := by unfold pointV; rw [if_pos ⟨hm, hi⟩, e]; exact if_pos (of_decide_eq_true hc)
          rw [hpv]
          refine ic_seq ?_
          refine ic_region ?_
          refine x_op ?_
          refine x_op ?_
          refine x_op ?_
          refine x_op ?_
          refine il_nil ?_
          refine ic_ret ?_
          repeat (first | with_reducible refine it_ret ?_ | with_reducible refine ib_ret ?_)
          exact x_res2 Tryz.results18 rfl
        · -- false
          have hne : ¬ p.at_ = 0 := of_decide_eq_false hc
          have hcall2 := leaf_calls2 n.sz n path l' p.at_ (Nat.le_refl _) (by simp at hm4; omega) (by omega) (by omega) (by omega)
          have hpv : pointV T d p = (match (leafF n path p.at_).1 with
            | none => (⟨[], 0⟩, 0)
            | some (q, a) => (⟨q, a⟩, 0)) := by unfold pointV; rw [if_pos ⟨hm, hi⟩, e]; exact if_neg hne
          rw [hep] at hcall2
          have dps : Dat (.sl false (path.map eI)) := Dat.sl (dat_map dat_eI _)
          refine ic_skip ?_
          refine ic_seq ?_
          refine ic_region ?_
          refine x_op ?_
          refine x_op ?_
          refine x_op ?_
          rcases e2 : leafF n path p.at_ with ⟨_ | ⟨q, a⟩, c'⟩
          · rw [e2] at hcall2 hpv
            simp only [leafR] at hcall2
            rw [hpv]
            refine x_cvP (k := 3) (hu := dat_leafR none) hcall2 ?_
            refine x_op ?_
            refine x_op ?_
            refine x_op ?_
            refine x_op ?_
            refine x_op ?_
            refine x_op ?_
            refine il_nil ?_
            refine ic_seq ?_
            refine ic_region ?_
            refine x_op ?_
            refine x_op ?_
            refine x_cv (cloneInil_calls) ?_
            refine x_op ?_
            refine x_op ?_
            refine il_nil ?_
            refine ic_seq ?_
            refine ic_region ?_
            refine x_op ?_
            refine x_op ?_
            refine x_op ?_
            refine il_nil ?_
            refine ic_ret ?_
            repeat (first | with_reducible refine it_ret ?_ | with_reducible refine ib_ret ?_)
            exact x_res2 Tryz.results18 rfl
          · rw [e2] at hcall2 hpv
            simp only [leafR] at hcall2
            rw [hpv]
            have hd := dat_leafR (some (q, a))
            simp only [leafR] at hd
            by_cases hq : q = []
            · subst hq
              simp only [show eIp [] = IV.nils from rfl] at hcall2 hd
              refine x_cvP (k := 3) (hu := hd) hcall2 ?_
              refine x_op ?_
              refine x_op ?_
              refine x_op ?_
              refine x_op ?_
              refine x_op ?_
              refine x_op ?_
              refine il_nil ?_
              refine ic_seq ?_
              refine ic_region ?_
              refine x_op ?_
              refine x_op ?_
              refine x_cv (cloneInil_calls) ?_
              refine x_op ?_
              refine x_op ?_
              refine il_nil ?_
              refine ic_seq ?_
              refine ic_region ?_
              refine x_op ?_
              refine x_op ?_
              refine x_op ?_
              refine il_nil ?_
              refine ic_ret ?_
              repeat (first | with_reducible refine it_ret ?_ | with_reducible refine ib_ret ?_)
              exact x_res2 Tryz.results18 rfl
            · have heq : eIp q = .sl false (q.map eI) := by unfold eIp; rw [if_neg hq]
              rw [heq] at hcall2 hd
              have hql := leafF_len n path p.at_ q a (by rw [e2])
              refine x_cvP (k := 3) (hu := hd) hcall2 ?_
              refine x_op ?_
              refine x_op ?_
              refine x_op ?_
              refine x_op ?_
              refine x_op ?_
              refine x_op ?_
              refine il_nil ?_
              refine ic_seq ?_
              refine ic_region ?_
              refine x_op ?_
              refine x_op ?_
              refine x_crow (cloneI_calls q false hq (by simp at hm4; omega)) (dat_map dat_eI q) ?_
              refine il_frow 6 ?_
              refine x_op ?_
              refine x_op ?_
              refine il_nil ?_
              refine ic_seq ?_
              refine ic_region ?_
              refine x_op ?_
              refine x_op ?_
              refine x_op ?_
              refine il_nil ?_
              refine ic_ret ?_
              repeat (first | with_reducible refine it_ret ?_ | with_reducible refine ib_ret ?_)
              exact x_res2 Tryz.results18 rfl
  · have hp : pointV T d p = (⟨[], 0⟩, 1) := by unfold pointV; rw [if_neg]; rintro ⟨h1, _⟩; exact hm h1
    have he : (hostV T d).2 = 1 := by unfold hostV; rw [if_neg hm]
    have hd0 : (!decide ((hostV T d).2 = 0)) = true := by rw [he]; rfl
    rw [hp]
    simp only [hd0]
    first | refine n_op ?_ | refine y_op ?_
    first | refine n_op ?_ | refine y_op ?_
    first | refine n_op ?_ | refine y_op ?_
    first | refine n_op ?_ | refine y_op ?_
    refine x_op ?_
    refine il_nil ?_
    refine ic_cond rfl (fun hc => ?_) (fun hc => ?_) -- t26
    · -- true
      refine ic_seq ?_
      refine ic_region ?_
      refine x_op ?_
      refine x_op ?_
      refine x_op ?_
      refine il_nil ?_
      refine ic_ret ?_
      repeat (first | with_reducible refine it_ret ?_ | with_reducible refine ib_ret ?_)
      exact x_res2 Tryz.results18 rfl
    · cases hc
end Go.Proofs.YtokbhcnomffopaaGreatDoor
end

section
/- QL, part 5: the documents that every statement of law19 tries, and their hosts. No program in sight. -/
set_option linter.unusedVariables false
set_option linter.unusedSimpArgs false
namespace Go.QL
open Go Go.RowKit
def dA : List Lin := [⟨0, [], 0, []⟩, ⟨0, [], 0, [⟨97, 0, ⟨#[]⟩⟩, ⟨98, 1, ⟨#[]⟩⟩, ⟨99, 3, ⟨#[]⟩⟩, ⟨10, 1, ⟨#[]⟩⟩]⟩]
def dB : List Lin := [⟨0, [0], 0, []⟩, ⟨0, [0, 1], 0, []⟩]
def nA2 : Nd := .mk 11 [] ⟨#[]⟩ [.mk 0 [] ⟨#[98]⟩ [], .mk 12 [] ⟨#[]⟩ [.mk 0 [] ⟨#[99]⟩ []], .mk 16 [] ⟨#[]⟩ []]
def nA1 : Nd := .mk 2 [] ⟨#[]⟩ [.mk 0 [] ⟨#[97]⟩ [], nA2]
def nA : Nd := .mk 1 [] ⟨#[]⟩ [.mk 2 [] ⟨#[]⟩ [], nA1]
def nB1 : Nd := .mk 7 [] ⟨#[]⟩ [.mk 9 [] ⟨#[]⟩ [], .mk 8 [] ⟨#[]⟩ [.mk 9 [] ⟨#[]⟩ []]]
def nB : Nd := .mk 1 [] ⟨#[]⟩ [nB1]
theorem hostA (T : Str → Bool) : hostV T dA = (nA, 0) := by
  unfold hostV
  rw [if_pos (show docMay T dA = true from rfl), show nodesV 12 0 dA = nA.kids by decide +kernel]
  rfl
theorem hostB (T : Str → Bool) : hostV T dB = (nB, 0) := by
  unfold hostV
  rw [if_pos (show docMay T dB = true from rfl), show nodesV 12 0 dB = nB.kids by decide +kernel]
  rfl
theorem pointA (T : Str → Bool) : pointV T dA ⟨1, 4⟩ = (⟨[1, 1], 3⟩, 0) := by
  unfold pointV
  rw [if_pos (show docMay T dA = true ∧ docIsV dA ⟨1, 4⟩ = true from ⟨rfl, rfl⟩), hostA]
  decide +kernel
end Go.QL
end

section
/- The contract of law19.awake. -/
set_option linter.unusedVariables false
set_option linter.unusedSimpArgs false
set_option maxHeartbeats 4000000
namespace Go.Proofs.YtokbhcnomffopaaGreatDoor
open Go Go.QL

theorem targetOf_all (h : Str) (hs : h.size ≤ 1073741824) : TargetOf targetV h := fun _ => target_all h hs
theorem docIn_A : DocIn targetV dA := ⟨fun l hl c hc => targetOf_all _ (by
  simp only [dA, List.mem_cons, List.not_mem_nil, or_false] at hl
  rcases hl with rfl | rfl
  · cases hc
  · simp only [List.mem_cons, List.not_mem_nil, or_false] at hc
    rcases hc with rfl | rfl | rfl | rfl <;> exact Nat.zero_le _), by decide, by decide, by decide⟩
theorem docIn_B : DocIn targetV dB := ⟨fun l hl c hc => (by
  simp only [dB, List.mem_cons, List.not_mem_nil, or_false] at hl
  rcases hl with rfl | rfl <;> cases hc), by decide, by decide, by decide⟩
theorem hostA_calls : ICalls Tryz.prog 13 [.sl false (dA.map eL)] [] (fun u _ => u = .tup [eN nA, .int .i64 0]) := by
  have h := host_calls targetV dA false docIn_A
  rwa [hostA] at h
theorem hostB_calls : ICalls Tryz.prog 13 [.sl false (dB.map eL)] [] (fun u _ => u = .tup [eN nB, .int .i64 0]) := by
  have h := host_calls targetV dB false docIn_B
  rwa [hostB] at h
theorem pointA_calls : ICalls Tryz.prog 18 [.sl false (dA.map eL), eP ⟨1, 4⟩] [] (fun u _ => u = .tup [ePt ⟨[1, 1], 3⟩, .int .i64 0]) := by
  have h := point_calls targetV dA false ⟨1, 4⟩ docIn_A
  rwa [pointA] at h
theorem awake_calls : ICalls Tryz.prog 9 [] [] (fun u _ => u = .bool true) := by
  refine x_enter Tryz.func9 Tryz.ntmps9 ?_
  refine ic_seq ?_
  refine ic_region ?_
  refine x_op ?_
  refine il_nil ?_
  refine ic_seq ?_
  refine ic_region ?_
  refine x_op ?_
  refine x_op ?_
  refine x_op ?_
  refine x_op ?_
  refine x_op ?_
  refine x_op ?_
  refine x_op ?_
  refine x_op ?_
  refine il_wk1 16 (.sl false (dA.map eL)) rfl (Wk.slw rfl (.cons (.refl _) (.cons (.nils _) (.cons (.refl _) (.cons (.nils _) (.cons (.refl _) (.cons (.nils _) (.cons (.refl _) (.cons (.sl _ _) .nil))))))))) x_nf ?_
  refine x_op ?_
  refine il_nil ?_
  refine ic_seq ?_
  refine ic_region ?_
  refine x_op ?_
  refine x_cv (hostA_calls) ?_
  refine x_op ?_
  refine x_op ?_
  refine x_op ?_
  refine x_op ?_
  refine x_op ?_
  refine x_op ?_
  refine il_nil ?_
  refine ic_seq ?_
  refine ic_region ?_
  refine x_op ?_
  refine x_op ?_
  refine x_cv (pointA_calls) ?_
  refine x_op ?_
  refine x_op ?_
  refine x_op ?_
  refine x_op ?_
  refine x_op ?_
  refine x_op ?_
  refine il_nil ?_
  refine ic_seq ?_
  refine ic_seq ?_
  refine ic_region ?_
  refine x_op ?_
  refine x_op ?_
  refine x_op ?_
  first | refine n_op ?_ | refine y_op ?_
  first | refine n_op ?_ | refine y_op ?_
  refine x_op ?_
  refine x_op ?_
  first | refine n_op ?_ | refine y_op ?_
  first | refine n_op ?_ | refine y_op ?_
  first | refine n_op ?_ | refine y_op ?_
  first | refine n_op ?_ | refine y_op ?_
  refine x_op ?_
  refine x_op ?_
  first | refine n_op ?_ | refine y_op ?_
  first | refine n_op ?_ | refine y_op ?_
  first | refine n_op ?_ | refine y_op ?_
  first | refine n_op ?_ | refine y_op ?_
  first | refine n_op ?_ | refine y_op ?_
  first | refine n_op ?_ | refine y_op ?_
  first | refine n_op ?_ | refine y_op ?_
  refine x_op ?_
  refine il_nil ?_
  refine ic_cond rfl (fun hc => ?_) (fun hc => ?_) -- t48
  · cases hc
  refine ic_skip ?_
  refine ic_seq ?_
  refine ic_region ?_
  refine x_op ?_
  refine x_op ?_
  refine x_op ?_
  refine x_op ?_
  refine x_op ?_
  refine x_op ?_
  refine x_op ?_
  refine x_op ?_
  refine x_op ?_
  refine il_nil ?_
  refine ic_seq ?_
  refine ic_region ?_
  refine x_op ?_
  refine x_op ?_
  refine x_op ?_
  refine x_op ?_
  refine x_op ?_
  refine il_wk1 61 (.sl false (dB.map eL)) rfl (Wk.slw rfl (.cons (.refl _) (.cons (.sl _ _) (.cons (.refl _) (.cons (.nils _) (.cons (.refl _) (.cons (.sl _ _) (.cons (.refl _) (.cons (.nils _) .nil))))))))) x_nf ?_
  refine x_cv (hostB_calls) ?_
  refine x_op ?_
  refine x_op ?_
  refine x_op ?_
  refine x_op ?_
  refine x_op ?_
  refine x_op ?_
  refine il_nil ?_
  refine ic_seq ?_
  refine ic_region ?_
  refine x_op ?_
  refine x_op ?_
  refine x_op ?_
  refine x_op ?_
  first | refine n_op ?_ | refine y_op ?_
  first | refine n_op ?_ | refine y_op ?_
  first | refine n_op ?_ | refine y_op ?_
  first | refine n_op ?_ | refine y_op ?_
  refine x_op ?_
  refine x_op ?_
  first | refine n_op ?_ | refine y_op ?_
  first | refine n_op ?_ | refine y_op ?_
  first | refine n_op ?_ | refine y_op ?_
  first | refine n_op ?_ | refine y_op ?_
  first | refine n_op ?_ | refine y_op ?_
  first | refine n_op ?_ | refine y_op ?_
  refine x_op ?_
  refine x_op ?_
  first | refine n_op ?_ | refine y_op ?_
  first | refine n_op ?_ | refine y_op ?_
  first | refine n_op ?_ | refine y_op ?_
  first | refine n_op ?_ | refine y_op ?_
  refine x_op ?_
  refine x_op ?_
  first | refine n_op ?_ | refine y_op ?_
  first | refine n_op ?_ | refine y_op ?_
  first | refine n_op ?_ | refine y_op ?_
  first | refine n_op ?_ | refine y_op ?_
  first | refine n_op ?_ | refine y_op ?_
  refine x_op ?_
  refine x_op ?_
  first | refine n_op ?_ | refine y_op ?_
  first | refine n_op ?_ | refine y_op ?_
  first | refine n_op ?_ | refine y_op ?_
  refine x_op ?_
  refine x_op ?_
  first | refine n_op ?_ | refine y_op ?_
  first | refine n_op ?_ | refine y_op ?_
  refine x_op ?_
  refine x_op ?_
  first | refine n_op ?_ | refine y_op ?_
  first | refine n_op ?_ | refine y_op ?_
  first | refine n_op ?_ | refine y_op ?_
  first | refine n_op ?_ | refine y_op ?_
  refine x_op ?_
  refine x_op ?_
  first | refine n_op ?_ | refine y_op ?_
  first | refine n_op ?_ | refine y_op ?_
  first | refine n_op ?_ | refine y_op ?_
  first | refine n_op ?_ | refine y_op ?_
  first | refine n_op ?_ | refine y_op ?_
  first | refine n_op ?_ | refine y_op ?_
  first | refine n_op ?_ | refine y_op ?_
  refine x_op ?_
  refine x_op ?_
  refine il_nil ?_
  refine ic_ret ?_
  repeat (first | with_reducible refine it_ret ?_ | with_reducible refine ib_ret ?_)
  exact x_res1 Tryz.results9 rfl
end Go.Proofs.YtokbhcnomffopaaGreatDoor
end

section
/- QL, part 6: is a document too long? No program in sight. -/
set_option linter.unusedVariables false
set_option linter.unusedSimpArgs false
namespace Go.QL
open Go Go.RowKit
def hrefN : List Cel → Int → Int
  | [], n => n
  | c :: l, n => if n ≤ 5000 then hrefN l (n + ((c.href.size / 16 : Nat) : Int)) else n
def longL : List Lin → Int → Bool
  | [], _ => false
  | l :: d, n => if 5000 < hrefN l.cells (n + ((l.cells.length : Int) + (l.lists.length : Int))) then true else longL d (hrefN l.cells (n + ((l.cells.length : Int) + (l.lists.length : Int))))
def longV (d : List Lin) : Bool := decide (300 < (d.length : Int)) || longL d 0
/-- What no real document passes. -/
structure Sane (d : List Lin) : Prop where
  n : d.length ≤ 1125899906842624
  c : ∀ l ∈ d, l.cells.length ≤ 1125899906842624
  l : ∀ l ∈ d, l.lists.length ≤ 1125899906842624
  h : ∀ l ∈ d, ∀ c ∈ l.cells, c.href.size ≤ 9223372036854775807
theorem hrefN_le : ∀ (l : List Cel) (n : Int), n ≤ hrefN l n
  | [], n => Int.le_refl _
  | c :: l, n => by
    unfold hrefN
    split
    · have := hrefN_le l (n + ((c.href.size / 16 : Nat) : Int)); omega
    · exact Int.le_refl _
theorem hrefN_mem : ∀ (l : List Cel) (n : Int), hrefN l n ≤ 5000 → ∀ c ∈ l, n + ((c.href.size / 16 : Nat) : Int) ≤ 5000
  | [], n, _, c, hc => by cases hc
  | x :: l, n, h, c, hc => by
    unfold hrefN at h
    split at h
    · have h1 := hrefN_le l (n + ((x.href.size / 16 : Nat) : Int))
      rcases List.mem_cons.1 hc with rfl | hc
      · omega
      · have := hrefN_mem l _ h c hc
        omega
    · omega
theorem longL_f : ∀ (d : List Lin) (n : Int), 0 ≤ n → longL d n = false → (n + (dsize d : Int) ≤ 5000 ∨ d = []) ∧ (∀ l ∈ d, l.cells.length ≤ 5000 ∧ l.lists.length ≤ 5000 ∧ ∀ c ∈ l.cells, c.href.size ≤ 80016)
  | [], n, _, _ => ⟨.inr rfl, fun l hl => by cases hl⟩
  | l :: d, n, h0, h => by
    unfold longL at h
    split at h
    · cases h
    · next hle =>
      have h1 := hrefN_le l.cells (n + ((l.cells.length : Int) + (l.lists.length : Int)))
      have h2 := hrefN_mem l.cells (n + ((l.cells.length : Int) + (l.lists.length : Int))) (by omega)
      obtain ⟨h3, h4⟩ := longL_f d _ (by omega) h
      refine ⟨.inl ?_, fun x hx => ?_⟩
      · rw [dsize_cons]
        rcases h3 with h3 | rfl
        · omega
        · simp [dsize]; omega
      · rcases List.mem_cons.1 hx with rfl | hx
        · exact ⟨by omega, by omega, fun c hc => by have := h2 c hc; omega⟩
        · exact h4 x hx
theorem long_f {d : List Lin} (h : longV d = false) : d.length ≤ 300 ∧ dsize d ≤ 5000 ∧ ∀ l ∈ d, l.cells.length ≤ 5000 ∧ l.lists.length ≤ 5000 ∧ ∀ c ∈ l.cells, c.href.size ≤ 80016 := by
  unfold longV at h
  simp only [Bool.or_eq_false_iff, decide_eq_false_iff_not] at h
  obtain ⟨h1, h2⟩ := longL_f d 0 (by omega) h.2
  refine ⟨by omega, ?_, h2⟩
  rcases h1 with h1 | rfl
  · omega
  · simp [dsize]
end Go.QL
end

section
/- The contract of law19.long. -/
set_option linter.unusedVariables false
set_option linter.unusedSimpArgs false
set_option maxHeartbeats 4000000
namespace Go.Proofs.YtokbhcnomffopaaGreatDoor
open Go Go.QL

theorem long_calls (d : List Lin) (b : Bool) (h : Sane d) : ICalls Tryz.prog 7 [.sl b (d.map eL)] [] (fun u _ => u = .bool (longV d)) := by
  have hn := h.n
  refine x_enter Tryz.func7 Tryz.ntmps7 ?_
  refine ic_seq ?_
  refine ic_region ?_
  refine x_op ?_
  refine il_nil ?_
  refine ic_seq ?_
  refine ic_seq ?_
  refine ic_region ?_
  refine x_op ?_
  refine x_op ?_
  refine x_op ?_
  refine il_nil ?_
  refine ic_cond rfl (fun hc => ?_) (fun hc => ?_) -- t8
  · -- true
    refine ic_seq ?_
    refine ic_region ?_
    refine x_op ?_
    refine il_nil ?_
    refine ic_ret ?_
    repeat (first | with_reducible refine it_ret ?_ | with_reducible refine ib_ret ?_)
    have e : longV d = true := by unfold longV; rw [hc]; rfl
    rw [e]
    exact x_res1 Tryz.results7 rfl
  · -- false
    have e : longV d = longL d 0 := by unfold longV; rw [hc]; rfl
    have hd := of_decide_eq_false hc
    rw [e]
    refine ic_skip ?_
    refine ic_seq ?_
    refine ic_region ?_
    refine x_op ?_
    refine il_nil ?_
    refine ic_seq ?_
    refine ic_seq ?_
    refine ic_region ?_
    refine x_op ?_
    refine il_nil ?_
    refine ic_block ?_ -- 0
    refine x_loop [3, 4] [2, 5, 9, 10, 11, 12, 13, 14, 15, 16, 17, 18, 19, 20, 21, 22, 23, 24, 25, 26, 27, 28, 29, 30, 31, 32, 33, 34, 35, 36, 37, 38, 39, 40, 41, 42, 43, 44, 45, 46, 47, 48, 49, 50, 51, 52, 53, 54, 55, 56, 57, 58] (fun m vs σ => ∃ (i : Nat) (n : Int), i ≤ d.length ∧ longL (d.drop i) n = longL d 0 ∧ 0 ≤ n ∧ n ≤ 5000 ∧ m = d.length - i ∧ vs = [.int .i64 n, .int .i64 i] ∧ σ = []) ⟨0, 0, Nat.zero_le _, rfl, Int.le_refl _, by omega, rfl, rfl, rfl⟩ ?_
    rintro m vs σ ⟨i, n, hi, hl, hn0, hn1, rfl, rfl, rfl⟩
    simp only [sets, nf]
    refine ic_seq ?_
    refine ic_seq ?_
    refine ic_region ?_
    refine x_op ?_
    refine x_op ?_
    refine x_op ?_
    refine x_op ?_
    refine il_nil ?_
    refine ic_cond rfl (fun hc => ?_) (fun hc => ?_) -- t12
    · -- true
      have hil : i < d.length := by have := of_decide_eq_true hc; omega
      obtain ⟨l, hk⟩ : ∃ l, d[i] = l := ⟨_, rfl⟩
      have hlm : l ∈ d := hk ▸ List.getElem_mem hil
      have hxi : (d.map eL)[((i : Nat) : Int).toNat]? = some (eL l) := by simp [hil, hk]
      have hcl := h.c l hlm
      have hll := h.l l hlm
      have hhl := h.h l hlm
      rw [List.drop_eq_getElem_cons hil, hk, longL] at hl
      refine ic_skip ?_
      refine ic_seq ?_
      refine ic_block ?_ -- 1
      refine ic_seq ?_
      refine ic_drawq 16 (by kernel_rfl) rfl rfl ?_
      refine q_op ?_
      refine q_op ?_
      refine q_op ?_
      refine q_op ?_
      refine q_op ?_
      refine q_op ?_
      refine q_op ?_
      refine q_op ?_
      refine q_op ?_
      refine q_op ?_
      refine q_op ?_
      refine q_op ?_
      refine q_op ?_
      refine q_op ?_
      refine q_op ?_
      refine q_op ?_
      refine iq_nil ?_
      refine d_done ?_
      generalize hst : n + ((l.cells.length : Int) + (l.lists.length : Int)) = st at hl
      refine ic_seq ?_
      refine ic_seq ?_
      refine ic_region ?_
      refine x_op ?_
      refine il_nil ?_
      refine ic_block ?_ -- 2
      refine x_loop [3, 5] [30, 31, 32, 33, 34, 35, 36, 37, 38, 39, 40, 41, 42, 43, 44, 45, 46, 47, 48, 49, 50, 51, 52, 53, 54, 55, 56] (fun m vs σ => ∃ (k : Nat) (n' : Int), k ≤ l.cells.length ∧ hrefN (l.cells.drop k) n' = hrefN l.cells st ∧ 0 ≤ n' ∧ n' ≤ 4611686018427387904 ∧ m = l.cells.length - k ∧ vs = [.int .i64 n', .int .i64 k] ∧ σ = []) ⟨0, st, Nat.zero_le _, rfl, by omega, by omega, rfl, rfl, rfl⟩ ?_
      rintro m vs σ ⟨k, n', hk', hl', hn0', hn1', rfl, rfl, rfl⟩
      simp only [sets, nf]
      refine ic_seq ?_
      refine ic_seq ?_
      refine ic_region ?_
      refine x_op ?_
      refine x_op ?_
      refine x_op ?_
      refine x_op ?_
      refine x_op ?_
      refine x_op ?_
      refine x_op ?_
      refine x_op ?_
      refine x_op ?_
      rcases Bool.eq_false_or_eq_true (decide ((k : Int) < (l.cells.length : Int))) with h1 | h1
      · simp only [h1]
        first | refine n_op ?_ | refine y_op ?_
        first | refine n_op ?_ | refine y_op ?_
        refine x_op ?_
        refine il_nil ?_
        refine ic_cond rfl (fun hc => ?_) (fun hc => ?_) -- t41
        · -- true
          have hkl : k < l.cells.length := by have := of_decide_eq_true h1; omega
          obtain ⟨c, hck⟩ : ∃ c, l.cells[k] = c := ⟨_, rfl⟩
          have hcm : c ∈ l.cells := hck ▸ List.getElem_mem hkl
          have hxc : (l.cells.map eC)[((k : Nat) : Int).toNat]? = some (eC c) := by simp [hkl, hck]
          have hch := hhl c hcm
          rw [List.drop_eq_getElem_cons hkl, hck, hrefN, if_pos (of_decide_eq_true hc)] at hl'
          have hle := of_decide_eq_true hc
          refine ic_skip ?_
          refine ic_seq ?_
          refine ic_block ?_ -- 3
          refine ic_region ?_
          refine x_op ?_
          refine x_op ?_
          refine x_op ?_
          refine x_op ?_
          refine x_op ?_
          refine x_op ?_
          refine x_op ?_
          refine x_op ?_
          refine x_op ?_
          refine x_op ?_
          refine x_op ?_
          refine x_op ?_
          have hq : IntKind.i64.wrap (Int.tdiv (c.href.size : Int) 16) = ((c.href.size / 16 : Nat) : Int) := by
            rw [show (16 : Int) = ((16 : Nat) : Int) from rfl, ← Int.ofNat_tdiv, IntKind.wrap_i64]
            omega
          simp only [hq]
          refine x_op ?_
          refine x_op ?_
          refine il_nil ?_
          refine ic_region ?_
          refine x_op ?_
          refine x_op ?_
          refine x_op ?_
          refine il_nil ?_
          exact x_next (l.cells.length - (k + 1)) ⟨k + 1, n' + ((c.href.size / 16 : Nat) : Int), by omega, hl', by omega, by omega, rfl, rfl, rfl⟩ (by omega) -- round
        · -- false
          have hkl : k < l.cells.length := by have := of_decide_eq_true h1; omega
          refine ic_exit ?_ -- 2
          have hr : hrefN l.cells st = n' := by rw [← hl', List.drop_eq_getElem_cons hkl, hrefN, if_neg (of_decide_eq_false hc)]
          rw [hr] at hl
          refine ic_seq ?_
          refine ic_region ?_
          refine x_op ?_
          refine x_op ?_
          refine il_nil ?_
          refine ic_cond rfl (fun hc => ?_) (fun hc => ?_) -- t58
          · -- true
            rw [if_pos (of_decide_eq_true hc)] at hl
            rw [← hl]
            refine ic_seq ?_
            refine ic_region ?_
            refine x_op ?_
            refine il_nil ?_
            refine ic_ret ?_
            repeat (first | with_reducible refine it_ret ?_ | with_reducible refine ib_ret ?_)
            exact x_res1 Tryz.results7 rfl
          · -- false
            rw [if_neg (of_decide_eq_false hc)] at hl
            have hle := of_decide_eq_false hc
            refine ic_skip ?_
            refine ic_region ?_
            refine x_op ?_
            refine x_op ?_
            refine x_op ?_
            refine il_nil ?_
            exact x_next (d.length - (i + 1)) ⟨i + 1, n', by omega, hl, hn0', by omega, rfl, rfl, rfl⟩ (by omega) -- round
      · simp only [h1]
        first | refine n_op ?_ | refine y_op ?_
        first | refine n_op ?_ | refine y_op ?_
        refine x_op ?_
        refine il_nil ?_
        refine ic_cond rfl (fun hc => ?_) (fun hc => ?_) -- t41
        · cases hc
        · have hkl : k = l.cells.length := by have := of_decide_eq_false h1; omega
          refine ic_exit ?_ -- 2
          have hr : hrefN l.cells st = n' := by rw [← hl', hkl, List.drop_length, hrefN]
          rw [hr] at hl
          refine ic_seq ?_
          refine ic_region ?_
          refine x_op ?_
          refine x_op ?_
          refine il_nil ?_
          refine ic_cond rfl (fun hc => ?_) (fun hc => ?_) -- t58
          · -- true
            rw [if_pos (of_decide_eq_true hc)] at hl
            rw [← hl]
            refine ic_seq ?_
            refine ic_region ?_
            refine x_op ?_
            refine il_nil ?_
            refine ic_ret ?_
            repeat (first | with_reducible refine it_ret ?_ | with_reducible refine ib_ret ?_)
            exact x_res1 Tryz.results7 rfl
          · -- false
            rw [if_neg (of_decide_eq_false hc)] at hl
            have hle := of_decide_eq_false hc
            refine ic_skip ?_
            refine ic_region ?_
            refine x_op ?_
            refine x_op ?_
            refine x_op ?_
            refine il_nil ?_
            exact x_next (d.length - (i + 1)) ⟨i + 1, n', by omega, hl, hn0', by omega, rfl, rfl, rfl⟩ (by omega) -- round
    · -- false
      refine ic_exit ?_ -- 0
      obtain rfl : i = d.length := by have := of_decide_eq_false hc; omega
      rw [List.drop_length, longL] at hl
      rw [← hl]
      refine ic_seq ?_
      refine ic_region ?_
      refine x_op ?_
      refine il_nil ?_
      refine ic_ret ?_
      repeat (first | with_reducible refine it_ret ?_ | with_reducible refine ib_ret ?_)
      exact x_res1 Tryz.results7 rfl
end Go.Proofs.YtokbhcnomffopaaGreatDoor
end

section
/- QL, part 7: what comes in is plain data. No program in sight. -/
set_option linter.unusedVariables false
set_option linter.unusedSimpArgs false
namespace Go.QL
open Go Go.RowKit
/-- All memory of a world. -/
def DMof (w : World) : DM := fun b o => w.cell? ⟨b, o, none⟩
section
variable {H : Type} {enc : TypeId × Value → H} {P : Program} {w : World} {sp : Nat → Bool} {held : Bool}
/-- Cells of a type are read as what f tells. -/
def Opens (enc : TypeId × Value → H) (P : Program) (w : World) (sp : Nat → Bool) (held : Bool) (t : TypeId) {α : Type} (f : α → IV) (p : α → Prop) : Prop :=
  ∀ (fuel : Nat) (cs : List Value) (x : DataW H × List MemPlace), DataW.trod enc P w 0 sp held fuel t cs = some x → (∀ n ∈ x.1.weights P t, n ≤ reachBytes) → ∃ a, Rel2 (DMof w) [] (flat (f a)) cs ∧ p a
theorem opens_int {t : TypeId} {k : IntKind} (ht : P.underlying t = some (.int k)) : Opens enc P w sp held t (IV.int k) (fun n => (Lit.int k n).wf = true) := fun fuel cs x h _ => by
  obtain ⟨n, rfl, rfl, hw⟩ := DataW.trod_int ht h
  exact ⟨n, ⟨rfl, fun i u v e e' => by
    rcases i with _ | i <;> simp [flat] at e e'
    subst e; subst e'; exact .int _ _⟩, hw⟩
theorem opens_str {t : TypeId} (ht : P.underlying t = some .string) : Opens enc P w sp held t IV.str (fun s => s.size ≤ reachBytes) := fun fuel cs x h hw => by
  obtain ⟨s, rfl, rfl, _⟩ := DataW.trod_string ht h
  refine ⟨s, ⟨rfl, fun i u v e e' => ?_⟩, ?_⟩
  · rcases i with _ | i <;> simp [flat] at e e'
    subst e; subst e'; exact .str _
  · have := hw s.data.toList.length (by simp [DataW.weights])
    simpa using this
theorem weightsAll_of {e : TypeId} : ∀ {l : List (DataW H)} {d : DataW H}, d ∈ l → ∀ n ∈ d.weights P e, n ∈ DataW.weightsAll P e l
  | d0 :: l, d, hd, n, hn => by
    simp only [DataW.weightsAll, List.mem_append]
    rcases List.mem_cons.1 hd with rfl | h
    · exact .inl hn
    · exact .inr (weightsAll_of h n hn)
theorem opens_slice {t e : TypeId} {α : Type} {f : α → IV} {p : α → Prop} {sz : Nat} (ht : P.underlying t = some (.slice e)) (he : Opens enc P w sp held e f p) (hsz : P.cellsOf e = sz) (h0 : 0 < sz) (hb : 0 < P.bytesOf e) (hf : ∀ a, (flat (f a)).length = sz) :
    Opens enc P w sp held t (fun l : List α => IV.sl false (l.map f)) (fun l => l.length ≤ reachBytes ∧ ∀ a ∈ l, p a) := fun fuel cs x h hw => by
  rcases DataW.trod_slice ht h with ⟨rfl, rfl⟩ | ⟨a, len, cap, elems, rest, n, rfl, rfl, rfl, hbase, hlc, hcm, hel, hat, _⟩
  · refine ⟨[], ⟨rfl, fun i u v e e' => ?_⟩, Nat.zero_le _, fun a ha => by cases ha⟩
    rcases i with _ | i <;> simp [flat] at e e'
    subst e; subst e'
    exact VR.nils.nil_sl false
  · have hwt : (len + rest.length) * P.bytesOf e ≤ reachBytes := hw _ (by simp [DataW.weights, ht, hel])
    have hlen : len ≤ reachBytes := by
      have h1 : len + rest.length ≤ (len + rest.length) * P.bytesOf e := Nat.le_mul_of_pos_right _ hb
      omega
    have hwe : ∀ y ∈ elems, ∀ n ∈ y.1.weights P e, n ≤ reachBytes := fun y hy n hn => hw n (by
      simp only [DataW.weights, ht, List.mem_cons, List.mem_append]
      exact .inr (.inl (weightsAll_of (List.mem_map_of_mem hy) n hn)))
    have key : ∀ i : Fin len, ∃ a0 : α, (∃ ci, w.cells? 0 (a.add (i.val * P.cellsOf e)) (P.cellsOf e) = some ci ∧ Rel2 (DMof w) [] (flat (f a0)) ci) ∧ p a0 := by
      intro i
      have h1 := hat i.val i.isLt
      rw [List.getElem?_eq_getElem (by rw [hel]; exact i.isLt), Option.bind_eq_some_iff] at h1
      obtain ⟨ci, hc1, hc2⟩ := h1
      obtain ⟨a0, hr, hp⟩ := he n ci _ hc2 (hwe _ (List.getElem_mem _))
      exact ⟨a0, ⟨ci, hc1, hr⟩, hp⟩
    obtain ⟨g0, hg0⟩ := Classical.axiomOfChoice key
    have hl : (List.ofFn g0).length = len := by simp
    have hcell : ∀ (i : Nat) (hi : i < len) (j : Nat) (hj : j < sz), ∃ v, w.cell? ((a.add (i * sz)).add j) = some v ∧ ∀ u, (flat (f (g0 ⟨i, hi⟩)))[j]? = some u → VR (DMof w) [] u v := by
      intro i hi j hj
      obtain ⟨⟨ci, hc1, hr⟩, _⟩ := hg0 ⟨i, hi⟩
      rw [hsz] at hc1
      unfold World.cells? at hc1
      rw [if_pos (Nat.zero_le _)] at hc1
      have h1 := mapM_some_get hc1 j j (by simp [hj])
      have h2 := mapM_some_length hc1
      simp at h2
      refine ⟨ci[j], by rw [h1]; simp [h2, hj], fun u hu => hr.2 j u _ hu (by simp [h2, hj])⟩
    refine ⟨List.ofFn g0, ?_, by rw [hl]; exact hlen, fun a0 ha0 => by
      obtain ⟨i, rfl⟩ := List.mem_ofFn.1 ha0
      exact (hg0 i).2⟩
    refine ⟨rfl, fun i u v e1 e2 => ?_⟩
    rcases i with _ | i <;> simp [flat] at e1 e2
    subst e1; subst e2
    have hfl : ∀ y ∈ (List.ofFn g0).map f, (flat y).length = sz := fun y hy => by
      obtain ⟨a0, _, rfl⟩ := List.mem_map.1 hy
      exact hf a0
    have hfl2 := flats_length hfl
    rw [List.length_map, hl] at hfl2
    have haddr : 0 < len → a = ⟨a.block, a.off, none⟩ := fun hp => by
      obtain ⟨v, hv, _⟩ := hcell 0 hp 0 h0
      rw [Nat.zero_mul, show a.add 0 = a from rfl, show a.add 0 = a from rfl] at hv
      obtain ⟨bk, of, spt⟩ := a
      unfold World.cell? at hv
      cases spt with
      | none => rfl
      | some s =>
        exfalso
        split at hv <;> simp at hv
    have hget : ∀ (j : Nat) (u : IV), (flats ((List.ofFn g0).map f))[j]? = some u → ∃ v, w.cell? ⟨a.block, a.off + j, none⟩ = some v ∧ VR (DMof w) [] u v := by
      intro j u hu
      have hj : j < len * sz := by
        have := (List.getElem?_eq_some_iff.1 hu).1
        omega
      have hi : j / sz < len := (Nat.div_lt_iff_lt_mul h0).2 hj
      have hm : j % sz < sz := Nat.mod_lt _ h0
      have hdm : j / sz * sz + j % sz = j := by rw [Nat.mul_comm]; exact Nat.div_add_mod j sz
      have hx : ((List.ofFn g0).map f)[j / sz]? = some (f (g0 ⟨j / sz, hi⟩)) := by simp [hi]
      have h1 := flats_at hfl hx hm
      rw [hdm, hu] at h1
      obtain ⟨v, hv, hr⟩ := hcell (j / sz) hi (j % sz) hm
      refine ⟨v, ?_, hr u h1.symm⟩
      have ha := haddr (Nat.lt_of_le_of_lt (Nat.zero_le _) hi)
      generalize a.block = bk at ha ⊢
      generalize a.off = of at ha ⊢
      subst ha
      rw [Addr_add, Addr_add, Nat.add_assoc, hdm] at hv
      exact hv
    have hgl : (List.ofFn fun i => f (g0 i)) = (List.ofFn g0).map f := by rw [List.map_ofFn]; rfl
    have hlen2 : ((List.ofFn g0).map f).length = len := by simp
    have := VR.sl (D := DMof w) (ρ := []) false ((List.ofFn g0).map f) (some a) cap a.block a.off (fun j => (w.cell? ⟨a.block, a.off + j, none⟩).getD undef) (by rw [hlen2]; exact hlc) hcm (fun h => by cases h) (fun hne => by
      have hp : 0 < len := by
        rcases Nat.eq_zero_or_pos len with h | h
        · exact absurd (List.eq_nil_of_length_eq_zero (by rw [hlen2]; exact h)) hne
        · exact h
      exact congrArg some (haddr hp)) (fun j u hu => by
      obtain ⟨v, hv, _⟩ := hget j u hu
      show w.cell? ⟨a.block, a.off + j, none⟩ = some _
      rw [hv]; rfl) (fun j u hu => by
      obtain ⟨v, hv, hr⟩ := hget j u hu
      simp only [hv, Option.getD_some]
      exact hr)
    rw [hlen2] at this
    simpa [hgl] using this
theorem open_fields {t : TypeId} {fs : Array Field} (ht : P.underlying t = some (.struct fs)) (hc : P.cellsOf t = fs.size) (ho : ∀ (i : Nat) f, fs[i]? = some f → f.offset = i ∧ P.cellsOf f.type = 1) {fuel : Nat} {cs : List Value} {x : DataW H × List MemPlace}
    (h : DataW.trod enc P w 0 sp held fuel t cs = some x) (hw : ∀ n ∈ x.1.weights P t, n ≤ reachBytes) : cs.length = fs.size ∧ ∀ (i : Nat) (f : Field) c, fs[i]? = some f → cs[i]? = some c →
      ∃ n y, DataW.trod enc P w 0 sp held n f.type [c] = some y ∧ ∀ n ∈ y.1.weights P f.type, n ≤ reachBytes := by
  obtain ⟨xs, n, rfl, rfl, hl, hxl, hat⟩ := DataW.trod_struct ht h
  refine ⟨by rw [hl, hc], fun i f c hf hcs => ?_⟩
  obtain ⟨h1, h2⟩ := ho i f hf
  have h3 := hat i f hf
  rw [h1, h2] at h3
  have hil : i < fs.size := (Array.getElem?_eq_some_iff.1 hf).1
  have h4 : (cs.drop i).take 1 = [c] := by
    have hcl := (List.getElem?_eq_some_iff.1 hcs).1
    rw [List.drop_eq_getElem_cons hcl, List.take_succ_cons, List.take_zero]
    congr 1
    exact (List.getElem?_eq_some_iff.1 hcs).2
  rw [h4, List.getElem?_eq_getElem (by omega)] at h3
  refine ⟨n, _, h3, fun m hm => hw m ?_⟩
  simp only [DataW.weights, ht]
  exact DataW.weights_mem_each (j := i) (by simp [hf]) (by simp [hxl, hil]) m hm
theorem rel_one {D : DM} {ρ : List Slot} {u : IV} {v : Value} (h : Rel2 D ρ [u] [v]) : VR D ρ u v := h.2 0 u v rfl rfl
theorem opens_s2 {t : TypeId} {f0 f1 : Field} {α0 α1 : Type} {e0 : α0 → IV} {e1 : α1 → IV} {p0 : α0 → Prop} {p1 : α1 → Prop} (ht : P.underlying t = some (.struct #[f0, f1])) (hc : P.cellsOf t = 2) (ho : ∀ (i : Nat) f, #[f0, f1][i]? = some f → f.offset = i ∧ P.cellsOf f.type = 1)
    (o0 : Opens enc P w sp held f0.type e0 p0) (o1 : Opens enc P w sp held f1.type e1 p1) (h0 : ∀ a, flat (e0 a) = [e0 a]) (h1 : ∀ a, flat (e1 a) = [e1 a])
    {fuel : Nat} {cs : List Value} {x : DataW H × List MemPlace} (h : DataW.trod enc P w 0 sp held fuel t cs = some x) (hw : ∀ n ∈ x.1.weights P t, n ≤ reachBytes) : ∃ a0 a1, Rel2 (DMof w) [] [e0 a0, e1 a1] cs ∧ p0 a0 ∧ p1 a1 := by
  obtain ⟨hl, hf⟩ := open_fields ht hc ho h hw
  match cs, hl with
  | [c0, c1], _ =>
    obtain ⟨_, _, t0, w0⟩ := hf 0 f0 c0 rfl rfl
    obtain ⟨_, _, t1, w1⟩ := hf 1 f1 c1 rfl rfl
    obtain ⟨a0, r0, q0⟩ := o0 _ _ _ t0 w0
    obtain ⟨a1, r1, q1⟩ := o1 _ _ _ t1 w1
    rw [h0] at r0; rw [h1] at r1
    exact ⟨a0, a1, .cons (rel_one r0) r1, q0, q1⟩
theorem opens_s3 {t : TypeId} {f0 f1 f2 : Field} {α0 α1 α2 : Type} {e0 : α0 → IV} {e1 : α1 → IV} {e2 : α2 → IV} {p0 : α0 → Prop} {p1 : α1 → Prop} {p2 : α2 → Prop} (ht : P.underlying t = some (.struct #[f0, f1, f2])) (hc : P.cellsOf t = 3) (ho : ∀ (i : Nat) f, #[f0, f1, f2][i]? = some f → f.offset = i ∧ P.cellsOf f.type = 1)
    (o0 : Opens enc P w sp held f0.type e0 p0) (o1 : Opens enc P w sp held f1.type e1 p1) (o2 : Opens enc P w sp held f2.type e2 p2) (h0 : ∀ a, flat (e0 a) = [e0 a]) (h1 : ∀ a, flat (e1 a) = [e1 a]) (h2 : ∀ a, flat (e2 a) = [e2 a])
    {fuel : Nat} {cs : List Value} {x : DataW H × List MemPlace} (h : DataW.trod enc P w 0 sp held fuel t cs = some x) (hw : ∀ n ∈ x.1.weights P t, n ≤ reachBytes) : ∃ a0 a1 a2, Rel2 (DMof w) [] [e0 a0, e1 a1, e2 a2] cs ∧ p0 a0 ∧ p1 a1 ∧ p2 a2 := by
  obtain ⟨hl, hf⟩ := open_fields ht hc ho h hw
  match cs, hl with
  | [c0, c1, c2], _ =>
    obtain ⟨_, _, t0, w0⟩ := hf 0 f0 c0 rfl rfl
    obtain ⟨_, _, t1, w1⟩ := hf 1 f1 c1 rfl rfl
    obtain ⟨_, _, t2, w2⟩ := hf 2 f2 c2 rfl rfl
    obtain ⟨a0, r0, q0⟩ := o0 _ _ _ t0 w0
    obtain ⟨a1, r1, q1⟩ := o1 _ _ _ t1 w1
    obtain ⟨a2, r2, q2⟩ := o2 _ _ _ t2 w2
    rw [h0] at r0; rw [h1] at r1; rw [h2] at r2
    exact ⟨a0, a1, a2, .cons (rel_one r0) (.cons (rel_one r1) r2), q0, q1, q2⟩
theorem opens_s4 {t : TypeId} {f0 f1 f2 f3 : Field} {α0 α1 α2 α3 : Type} {e0 : α0 → IV} {e1 : α1 → IV} {e2 : α2 → IV} {e3 : α3 → IV} {p0 : α0 → Prop} {p1 : α1 → Prop} {p2 : α2 → Prop} {p3 : α3 → Prop} (ht : P.underlying t = some (.struct #[f0, f1, f2, f3])) (hc : P.cellsOf t = 4) (ho : ∀ (i : Nat) f, #[f0, f1, f2, f3][i]? = some f → f.offset = i ∧ P.cellsOf f.type = 1)
    (o0 : Opens enc P w sp held f0.type e0 p0) (o1 : Opens enc P w sp held f1.type e1 p1) (o2 : Opens enc P w sp held f2.type e2 p2) (o3 : Opens enc P w sp held f3.type e3 p3) (h0 : ∀ a, flat (e0 a) = [e0 a]) (h1 : ∀ a, flat (e1 a) = [e1 a]) (h2 : ∀ a, flat (e2 a) = [e2 a]) (h3 : ∀ a, flat (e3 a) = [e3 a])
    {fuel : Nat} {cs : List Value} {x : DataW H × List MemPlace} (h : DataW.trod enc P w 0 sp held fuel t cs = some x) (hw : ∀ n ∈ x.1.weights P t, n ≤ reachBytes) : ∃ a0 a1 a2 a3, Rel2 (DMof w) [] [e0 a0, e1 a1, e2 a2, e3 a3] cs ∧ p0 a0 ∧ p1 a1 ∧ p2 a2 ∧ p3 a3 := by
  obtain ⟨hl, hf⟩ := open_fields ht hc ho h hw
  match cs, hl with
  | [c0, c1, c2, c3], _ =>
    obtain ⟨_, _, t0, w0⟩ := hf 0 f0 c0 rfl rfl
    obtain ⟨_, _, t1, w1⟩ := hf 1 f1 c1 rfl rfl
    obtain ⟨_, _, t2, w2⟩ := hf 2 f2 c2 rfl rfl
    obtain ⟨_, _, t3, w3⟩ := hf 3 f3 c3 rfl rfl
    obtain ⟨a0, r0, q0⟩ := o0 _ _ _ t0 w0
    obtain ⟨a1, r1, q1⟩ := o1 _ _ _ t1 w1
    obtain ⟨a2, r2, q2⟩ := o2 _ _ _ t2 w2
    obtain ⟨a3, r3, q3⟩ := o3 _ _ _ t3 w3
    rw [h0] at r0; rw [h1] at r1; rw [h2] at r2; rw [h3] at r3
    exact ⟨a0, a1, a2, a3, .cons (rel_one r0) (.cons (rel_one r1) (.cons (rel_one r2) r3)), q0, q1, q2, q3⟩
end
end Go.QL
end

section
/- What comes in: documents; the base of a call; a statement out of its contract. -/
set_option linter.unusedVariables false
set_option linter.unusedSimpArgs false
set_option maxHeartbeats 4000000
set_option maxRecDepth 100000
namespace Go.Proofs.YtokbhcnomffopaaGreatDoor
open Go Go.QL Go.RowKit
section
variable {H : Type} {enc : TypeId × Value → H} {w : World} {sp : Nat → Bool} {held : Bool}
theorem opens_ints : Opens enc Tryz.prog w sp held 27 eIs (fun l => l.length ≤ reachBytes ∧ ∀ a ∈ l, (Lit.int .i64 a).wf = true) :=
  opens_slice (f := eI) (sz := 1) Tryz.underlying27 (opens_int Tryz.underlying3) (by kernel_rfl) (by decide) (of_decide_eq_true (by kernel_rfl)) (fun _ => rfl)
theorem opens_cel : Opens enc Tryz.prog w sp held 57 eC (fun c => c.href.size ≤ reachBytes) := fun fuel cs x h hw => by
  obtain ⟨a0, a1, a2, hr, _, _, hp⟩ := opens_s3 Tryz.underlying57 (by kernel_rfl) (fun i f h => by
    rcases i with _ | _ | _ | i <;> simp at h <;> (subst h; exact ⟨rfl, by kernel_rfl⟩)) (opens_int Tryz.underlying21) (opens_int Tryz.underlying3) (opens_str Tryz.underlying9) (fun _ => rfl) (fun _ => rfl) (fun _ => rfl) h hw
  exact ⟨⟨a0, a1, a2⟩, hr, hp⟩
theorem opens_lin : Opens enc Tryz.prog w sp held 31 eL (fun l => l.cells.length ≤ reachBytes ∧ l.lists.length ≤ reachBytes ∧ ∀ c ∈ l.cells, c.href.size ≤ reachBytes) := fun fuel cs x h hw => by
  obtain ⟨a0, a1, a2, a3, hr, _, h1, _, h3⟩ := opens_s4 Tryz.underlying31 (by kernel_rfl) (fun i f h => by
    rcases i with _ | _ | _ | _ | i <;> simp at h <;> (subst h; exact ⟨rfl, by kernel_rfl⟩)) (opens_int Tryz.underlying3) opens_ints (opens_int Tryz.underlying3)
    (opens_slice (f := eC) (sz := 3) Tryz.underlying29 opens_cel (by kernel_rfl) (by decide) (of_decide_eq_true (by kernel_rfl)) (fun _ => rfl)) (fun _ => rfl) (fun _ => rfl) (fun _ => rfl) (fun _ => rfl) h hw
  exact ⟨⟨a0, a1, a2, a3⟩, hr, h3.1, h1.1, h3.2⟩
theorem opens_doc : Opens enc Tryz.prog w sp held 22 (fun d : List Lin => .sl false (d.map eL)) Sane := fun fuel cs x h hw => by
  obtain ⟨d, hr, h1, h2⟩ := opens_slice (f := eL) (sz := 4) Tryz.underlying22 opens_lin (by kernel_rfl) (by decide) (of_decide_eq_true (by kernel_rfl)) (fun _ => rfl) fuel cs x h hw
  have hb : reachBytes ≤ 1125899906842624 := by decide
  exact ⟨d, hr, Nat.le_trans h1 hb, fun l hl => Nat.le_trans (h2 l hl).1 hb, fun l hl => Nat.le_trans (h2 l hl).2.1 hb, fun l hl c hc => Nat.le_trans ((h2 l hl).2.2 c hc) (by decide)⟩
theorem opens_pos : Opens enc Tryz.prog w sp held 43 eP (fun _ => True) := fun fuel cs x h hw => by
  obtain ⟨a0, a1, hr, _, _⟩ := opens_s2 Tryz.underlying43 (by kernel_rfl) (fun i f h => by
    rcases i with _ | _ | i <;> simp at h <;> (subst h; exact ⟨rfl, by kernel_rfl⟩)) (opens_int Tryz.underlying3) (opens_int Tryz.underlying3) (fun _ => rfl) (fun _ => rfl) h hw
  exact ⟨⟨a0, a1⟩, hr, trivial⟩
theorem rel_nil {D : DM} {ρ : List Slot} : Rel2 D ρ [] [] := ⟨rfl, fun i u v e _ => by simp at e⟩
theorem rel_agg {D : DM} {ρ : List Slot} {us : List IV} {cs : Array Value} (h : Rel2 D ρ us cs.toList) : VR D ρ (.agg us) (.agg cs) := by simpa using h.agg
end
/-- The base of the first call. -/
theorem start {f : FuncId} {args : List IV} {u : IV} {v : Value} {vs : Array Value} {W : World} (h : ICalls Tryz.prog f args [] (fun u' _ => u' = u)) (hL : Laid W) (hr : Rel2 (DMof W) [] args vs.toList) (hv : ∀ D v', VR D [] u v' → v' = v) (hd : Dat u) :
    Calls Tryz.prog f vs W fun e w' => e = .returned v ∧ Below W.heap.size W w' := by
  have hlf : ∀ b, LB b → ¬ W.heap.size ≤ b := fun b hb hf => by
    have key : ∀ {o v}, W.cell? ⟨b, o, none⟩ = some v → False := fun {o v} h => absurd (World.block_lt_of_cell? W _ h) (Nat.not_lt.2 hf)
    obtain ⟨h1, ⟨m, h2⟩, _⟩ := hL
    rcases hb with rfl | rfl | rfl | hb
    · exact key (h1.1 0 (by decide))
    · exact key (h1.2 0 (by decide)).1
    · exact key h2
    · exact hb
  let B : Base := ⟨W, DMof W, hL, fun b => W.heap.size ≤ b, fun _ h => h, hlf⟩
  have hst : St B (DMof W) [] [] W := ⟨Keeps.refl _ _, fun _ _ _ e => e, fun _ _ _ e => .inl e, rfl, fun k s o e => (by simp at e), fun k s b e => (by simp at e), fun j k s t b e => (by simp at e)⟩
  refine (h B (DMof W) [] W vs hst hr).mono ?_
  rintro e w' ⟨D', ρ', u', v', σ', rfl, _, hs, hv', rfl⟩
  exact ⟨by rw [hv D' v' (hv'.dat hd [])], hs.below.all⟩
theorem bool_is {D : DM} {ρ : List Slot} {b : Bool} {v : Value} (h : VR D ρ (.bool b) v) : v = .bool b := by cases h; rfl
theorem laid_of {W : World} (hL : laidMetH Tryz.prog [("unicode/utf8.acceptRanges", Rows.laid_unicode_utf8_acceptRanges), ("unicode/utf8.first", Rows.laid_unicode_utf8_first)] W) (hsh : W.ShapedOpen Tryz.prog) : Laid W := by
  rw [MakeChecks.laidMetH_plain _ _ _ (by kernel_rfl)] at hL
  refine ⟨utf8Tabs_of_readsT (U8Types.of196 Tryz.lays196) ⟨by kernel_rfl, by kernel_rfl, by kernel_rfl, by kernel_rfl, by kernel_rfl, by kernel_rfl, by kernel_rfl⟩ ?_ ?_, ?_, trivial⟩
  · have := Go.Lib.laidMet.reads hL (.tail _ (.head _))
    rwa [show Rows.laid_unicode_utf8_first = Lib.firstData from Pinned.utf8First_eq] at this
  · have := Go.Lib.laidMet.reads hL (.head _)
    rwa [show (Rows.laid_unicode_utf8_acceptRanges : DataW Unit) = Lib.acceptData by kernel_rfl] at this
  · exact cell_of_shapedOpen_int (zero := #[.int .i64 0]) (t := 3) hsh (of_decide_eq_true (by kernel_rfl)) (by kernel_rfl) rfl (by kernel_rfl) (by kernel_rfl) Tryz.underlying3
end Go.Proofs.YtokbhcnomffopaaGreatDoor
end

section
/- From a contract to the row: what comes in, the witness. -/
set_option linter.unusedVariables false
set_option linter.unusedSimpArgs false
set_option maxHeartbeats 4000000
set_option maxRecDepth 100000
namespace Go.Proofs.YtokbhcnomffopaaGreatDoor
open Go Go.QL Go.RowKit Go.ChangeShapes Go.WideShapes Go.ChangeAt

theorem laidOut : laidOutB Tryz.prog = true := by kernel_rfl
theorem own : ownKnob Tryz.prog.godebug = none := by kernel_rfl
abbrev laidL : List (String × DataW Unit) := [("unicode/utf8.acceptRanges", Rows.laid_unicode_utf8_acceptRanges), ("unicode/utf8.first", Rows.laid_unicode_utf8_first)]
/-- A world in which the two tables are laid. -/
noncomputable def laidWorld (os : Os) : World :=
  let w0 := World.holding Tryz.prog os ⟨#[], #[], []⟩
  let put (h : Array Obj) (g : Nat) (cs : Array Value) : Array Obj := h.modify g fun
    | .cells _ t frozen => .cells cs t frozen
    | o => o
  let h1 := put w0.heap 0 (Lib.firstTab.map fun z => Value.int .u8 z).toArray
  let h2 := put h1 1 ((List.range 16).flatMap fun i => [Value.int .u8 (Lib.accLo i), Value.int .u8 (Lib.accHi i)]).toArray
  { w0 with heap := h2 }
theorem laid_met (os : Os) (args : Array Value) : laidMet Tryz.prog laidL ((laidWorld os).forCall (fun _ _ => 0) ⟨#[], args, []⟩).memory :=
  (LaidIn.of_run (l := laidL) [1, 0] 8 (by kernel_rfl) (by kernel_rfl) (by kernel_rfl) (by kernel_rfl)).met
end Go.Proofs.YtokbhcnomffopaaGreatDoor
end

section
/- QL, part 8: are two structs the same? Plain; no program in sight. -/
set_option linter.unusedVariables false
set_option linter.unusedSimpArgs false
namespace Go.QL
open Go Go.RowKit
section
variable {P : Program} {r : RN} {o : Oper} {e : Val2} {σ : List IObj}
theorem VR.agg_inv {D : DM} {ρ : List Slot} {xs : List IV} {v : Value} (h : VR D ρ (.agg xs) v) : ∃ vs : Array Value, v = .agg vs ∧ Rel2 D ρ xs vs.toList := by
  cases h with
  | agg _ vs hl hv => exact ⟨vs, rfl, by simpa using hl, fun i u v e e' => hv i u v e (by simpa using e')⟩
theorem VR.eA_inv {D : DM} {ρ : List Slot} {x : At} {v : Value} (h : VR D ρ (eA x) v) : v = .agg #[.string x.name, .string x.value] := by
  obtain ⟨vs, rfl, hr⟩ := VR.agg_inv (xs := [.str x.name, .str x.value]) h
  obtain ⟨a, t1, e1, h1, hr1⟩ := hr.head
  obtain ⟨b, t2, e2, h2, hr2⟩ := hr1.head
  have h3 : t2 = [] := List.eq_nil_of_length_eq_zero hr2.1.symm
  subst e2
  rw [h1.str_inv, h2.str_inv, h3] at e1
  exact congrArg _ (Array.toList_inj.1 e1)
theorem VR.eC_inv {D : DM} {ρ : List Slot} {x : Cel} {v : Value} (h : VR D ρ (eC x) v) : v = .agg #[.int .i32 x.r, .int .i64 x.bits, .string x.href] := by
  obtain ⟨vs, rfl, hr⟩ := VR.agg_inv (xs := [.int .i32 x.r, .int .i64 x.bits, .str x.href]) h
  obtain ⟨a, t1, e1, h1, hr1⟩ := hr.head
  obtain ⟨b, t2, e2, h2, hr2⟩ := hr1.head
  obtain ⟨c, t3, e3, h3, hr3⟩ := hr2.head
  have h4 : t3 = [] := List.eq_nil_of_length_eq_zero hr3.1.symm
  subst e2; subst e3
  rw [h1.int_inv, h2.int_inv, h3.str_inv, h4] at e1
  exact congrArg _ (Array.toList_inj.1 e1)
theorem run_part1 {t : TypeId} {cs : Array Value} {i : Nat} {v : Value} (w : World) (ha : (isAgg t).run P w = .ok false w) (hi : cs[i]? = some v) : (part t cs i).run P w = .ok v w := by
  simp [part, Sem.run_bind, ha, Result.andThen, hi]
theorem ba_eq (a b : ByteArray) : (a.toList == b.toList) = decide (a = b) := toList_eq a b
theorem run_eqA {T : TypeId} {f0 f1 : Field} (hT : P.underlying T = some (.struct #[f0, f1])) (hp : P.stoodInHeld T = false) (n0 : f0.name ≠ "_") (n1 : f1.name ≠ "_") (o0 : f0.offset = 0) (o1 : f1.offset = 1) (t0 : P.underlying f0.type = some .string) (t1 : P.underlying f1.type = some .string)
    (a0 : ∀ w, (isAgg f0.type).run P w = .ok false w) (a1 : ∀ w, (isAgg f1.type).run P w = .ok false w) (x y : At) (w : World) (d : Nat) :
    (Op.equalIn (d + 2) T (.agg #[.string x.name, .string x.value]) (.agg #[.string y.name, .string y.value])).run P w = .ok (decide (x = y)) w := by
  have hfs : P.fieldsOf T = #[f0, f1] := by unfold Program.fieldsOf; rw [hT]
  have e1 := fun xs ys => run_equalIn_struct (P := P) w (d + 1) T xs ys (by rw [hfs]; exact hT) hp
  rw [e1, hfs]
  simp only [Op.eqFields, n0, n1, ne_eq, not_false_eq_true, if_true, Sem.run_bind, o0, o1]
  rw [run_part1 w (a0 w) (v := .string x.name) rfl, Result.andThen_ok, run_part1 w (a0 w) (v := .string y.name) rfl, Result.andThen_ok, run_equalIn_string w d _ _ _ t0, Result.andThen_ok, ba_eq]
  rcases x with ⟨a, b⟩
  rcases y with ⟨c, f⟩
  by_cases h : a = c
  · subst h
    simp only [decide_true, Bool.not_true, Bool.false_eq_true, if_false, Sem.run_bind]
    rw [run_part1 w (a1 w) (v := .string b) rfl, Result.andThen_ok, run_part1 w (a1 w) (v := .string f) rfl, Result.andThen_ok, run_equalIn_string w d _ _ _ t1, Result.andThen_ok, ba_eq]
    by_cases h2 : b = f
    · subst h2
      simp [Op.eqFields]
    · simp [h2]
  · simp [h]
theorem op_neqAt {T yt : TypeId} {x y : Operand} {f0 f1 : Field} {a b : At} (hT : P.underlying T = some (.struct #[f0, f1])) (hp : P.stoodInHeld T = false) (hq : P.eqGuardType P.depth T = false) (n0 : f0.name ≠ "_") (n1 : f1.name ≠ "_") (o0 : f0.offset = 0) (o1 : f1.offset = 1) (t0 : P.underlying f0.type = some .string) (t1 : P.underlying f1.type = some .string)
    (a0 : ∀ w, (isAgg f0.type).run P w = .ok false w) (a1 : ∀ w, (isAgg f1.type).run P w = .ok false w) (ho : o.op = .binOp .neq T x y yt) (hx : e x = eA a) (hy : e y = eA b) : OpQ P r o e σ (.bool (!decide (a = b))) σ := by
  refine opq_pure (by rw [ho]; rfl) fun W0 D ρ w A hs ha => ⟨.bool (!decide (a = b)), ?_, .bool _⟩
  have e1 := ha x (by simp [ho, Op.operands]); rw [hx] at e1; have e1 := VR.eA_inv e1
  have e2 := ha y (by simp [ho, Op.operands]); rw [hy] at e2; have e2 := VR.eA_inv e2
  simp only [execOp, ho, e1, e2, Sem.run_bind, run_eqGuard_agg w .neq T x y _ _ hq, Result.andThen_ok, run_neq_struct, run_eqA hT hp n0 n1 o0 o1 t0 t1 a0 a1 a b w 9998, Sem.run_pure]
end
end Go.QL
end

section
/- QL, part 9: a host tells its document: the lines. No program in sight. -/
set_option linter.unusedVariables false
set_option linter.unusedSimpArgs false
namespace Go.QL
open Go Go.RowKit
mutual
/-- The lines of nodes, each with the tags of the boxes around it. -/
def flatN : Nd → List (List Int × Nd)
  | .mk t a x k => if 6 ≤ t ∧ t ≤ 8 then (flatL k).map (fun p => (t :: p.1, p.2)) else [([], .mk t a x k)]
def flatL : List Nd → List (List Int × Nd)
  | [] => []
  | n :: l => flatN n ++ flatL l
end
theorem flat_grp (level : Nat) (F : List Lin → Nd) (φ : Lin → List Int × Nd) : ∀ (d : List Lin), (∀ x p, (∀ y ∈ p, alLine level x y = true) → (∀ y ∈ x :: p, y ∈ d) → flatN (F (x :: p)) = (x :: p).map φ) → flatL ((grp (alLine level) d).map F) = d.map φ
  | [], _ => by simp [grp, flatL]
  | x :: tl, h => by
    have h1 := h x (tl.takeWhile (alLine level x)) (fun y hy => by
      have := List.all_takeWhile (p := alLine level x) (l := tl)
      exact List.all_eq_true.1 this y hy) (fun y hy => by
      rcases List.mem_cons.1 hy with rfl | hy
      · exact List.mem_cons_self ..
      · exact List.mem_cons_of_mem _ ((List.takeWhile_sublist _).subset hy))
    have h2 := flat_grp level F φ (tl.dropWhile (alLine level x)) (fun y p hp hm => h y p hp fun z hz => List.mem_cons_of_mem _ (dropWhile_mem _ _ _ (hm z hz)))
    rw [grp, List.map_cons, flatL, h1, h2, ← List.map_append, List.cons_append, List.takeWhile_append_dropWhile]
  termination_by d => d.length
  decreasing_by
    have := dropWhile_le (alLine level x) tl
    simp
    omega
theorem way_mem {l : Lin} {t : Int} (h : t ∈ wayV l) : 6 ≤ t ∧ t ≤ 8 := by
  unfold wayV at h
  rcases List.mem_append.1 h with h | h
  · rw [List.eq_of_mem_replicate h]; omega
  · obtain ⟨k, _, rfl⟩ := List.mem_map.1 h
    unfold lstTag
    split <;> omega
theorem step_way (l : Lin) (level : Nat) : (stepV l level = 0 ∧ (wayV l).drop level = []) ∨ (6 ≤ stepV l level ∧ stepV l level ≤ 8 ∧ (wayV l).drop level = stepV l level :: (wayV l).drop (level + 1)) := by
  unfold stepV
  rcases Nat.lt_or_ge level (wayV l).length with h | h
  · refine .inr ?_
    have e : (wayV l).getD level 0 = (wayV l)[level] := by rw [List.getD_eq_getElem?_getD, List.getElem?_eq_getElem h]; rfl
    rw [e]
    have := way_mem (List.getElem_mem h)
    exact ⟨this.1, this.2, List.drop_eq_getElem_cons h⟩
  · refine .inl ⟨?_, List.drop_eq_nil_of_le h⟩
    rw [List.getD_eq_getElem?_getD, List.getElem?_eq_none h]
    rfl
theorem nodeV_flat (l : Lin) : flatN (nodeV l) = [([], nodeV l)] := by
  unfold nodeV
  rw [flatN, if_neg]
  unfold lineTag
  split
  · omega
  · split <;> omega
theorem flat_nodes : ∀ (f level : Nat) (d : List Lin), (∀ l ∈ d, (wayV l).length ≤ level + f) → flatL (nodesV f level d) = d.map fun l => ((wayV l).drop level, nodeV l)
  | 0, level, d, h => by
    rw [nodesV_0 level d (fun l hl => by
      rcases step_way l level with ⟨h1, _⟩ | ⟨h1, _, h3⟩
      · exact h1
      · have := h l hl
        rw [List.drop_eq_nil_of_le (by omega)] at h3
        cases h3)]
    refine flat_grp level _ _ d fun x p hp hm => ?_
    have hx := h x (hm x (List.mem_cons_self ..))
    have hd : (wayV x).drop level = [] := List.drop_eq_nil_of_le (by omega)
    have hs : stepV x level = 0 := by
      rcases step_way x level with ⟨h1, _⟩ | ⟨_, _, h3⟩
      · exact h1
      · rw [hd] at h3; cases h3
    cases p with
    | cons y p => have := hp y (List.mem_cons_self ..); simp [alLine, hs] at this
    | nil =>
      unfold grpN
      rw [if_pos (show stepV (hdL [x]) level = 0 from hs)]
      show flatN (nodeV x) = [((wayV x).drop level, nodeV x)]
      rw [nodeV_flat, hd]
  | f + 1, level, d, h => by
    rw [nodesV_eq]
    refine flat_grp level _ _ d fun x p hp hm => ?_
    rcases step_way x level with ⟨hs, hd⟩ | ⟨h1, h2, h3⟩
    · cases p with
      | cons y p => have := hp y (List.mem_cons_self ..); simp [alLine, hs] at this
      | nil =>
        unfold grpN
        rw [if_pos (show stepV (hdL [x]) level = 0 from hs)]
        show flatN (nodeV x) = [((wayV x).drop level, nodeV x)]
        rw [nodeV_flat, hd]
    · have hne : ¬ stepV x level = 0 := by omega
      unfold grpN
      rw [if_neg (show ¬ stepV (hdL (x :: p)) level = 0 from hne)]
      show flatN (.mk (stepV x level) [] ⟨#[]⟩ (nodesV f (level + 1) (x :: p))) = _
      rw [flatN, if_pos ⟨h1, h2⟩, flat_nodes f (level + 1) (x :: p) (fun l hl => by have := h l (hm l hl); omega), List.map_map]
      refine List.map_congr_left fun l hl => ?_
      have hstep : stepV l level = stepV x level := by
        rcases List.mem_cons.1 hl with rfl | hl
        · rfl
        · have := hp l hl
          simp only [alLine, Bool.and_eq_true, decide_eq_true_eq] at this
          exact this.2.symm
      rcases step_way l level with ⟨h4, _⟩ | ⟨_, _, h4⟩
      · omega
      · rw [h4, hstep]; rfl
theorem rep_inj : ∀ (n m : Nat) (a b : List Int), (6 : Int) ∉ a → (6 : Int) ∉ b → List.replicate n 6 ++ a = List.replicate m 6 ++ b → n = m ∧ a = b
  | 0, 0, a, b, _, _, h => ⟨rfl, by simpa using h⟩
  | 0, m + 1, a, b, ha, _, h => by
    exfalso
    simp only [List.replicate_zero, List.nil_append, List.replicate_succ, List.cons_append] at h
    exact ha (h ▸ List.mem_cons_self ..)
  | n + 1, 0, a, b, _, hb, h => by
    exfalso
    simp only [List.replicate_zero, List.nil_append, List.replicate_succ, List.cons_append] at h
    exact hb (h ▸ List.mem_cons_self ..)
  | n + 1, m + 1, a, b, ha, hb, h => by
    simp only [List.replicate_succ, List.cons_append, List.cons.injEq, true_and] at h
    obtain ⟨h1, h2⟩ := rep_inj n m a b ha hb h
    exact ⟨by omega, h2⟩
theorem not6 (l : List Int) : (6 : Int) ∉ l.map lstTag := fun h => by
  obtain ⟨k, _, hk⟩ := List.mem_map.1 h
  unfold lstTag at hk
  split at hk <;> omega
theorem lst_inj : ∀ (a b : List Int), (∀ k ∈ a, k = 0 ∨ k = 1) → (∀ k ∈ b, k = 0 ∨ k = 1) → a.map lstTag = b.map lstTag → a = b
  | [], [], _, _, _ => rfl
  | [], y :: b, _, _, h => by simp at h
  | x :: a, [], _, _, h => by simp at h
  | x :: a, y :: b, ha, hb, h => by
    simp only [List.map_cons, List.cons.injEq] at h
    have hx := ha x (List.mem_cons_self ..)
    have hy := hb y (List.mem_cons_self ..)
    have h1 : x = y := by
      have := h.1
      unfold lstTag at this
      rcases hx with rfl | rfl <;> rcases hy with rfl | rfl <;> simp at this ⊢
    rw [h1, lst_inj a b (fun k hk => ha k (List.mem_cons_of_mem _ hk)) (fun k hk => hb k (List.mem_cons_of_mem _ hk)) h.2]
/-- What is so of a line that may be. -/
theorem lin_may {T : Str → Bool} {l : Lin} (h : linMay T l = true) : 0 ≤ l.quote ∧ l.quote ≤ 6 ∧ 0 ≤ l.kind ∧ l.kind ≤ 3 ∧ (l.lists ≠ [] → l.kind = 0) ∧ (∀ k ∈ l.lists, k = 0 ∨ k = 1) ∧ ∀ c ∈ l.cells, celNot T c = false := by
  simp only [linMay, lin1, lin2, Bool.and_eq_true, Bool.not_eq_true', Bool.or_eq_false_iff, decide_eq_false_iff_not, Bool.and_eq_false_iff, Bool.not_eq_false'] at h
  obtain ⟨⟨⟨⟨⟨h1, h2⟩, h3⟩, h4⟩, h5⟩, h6, h7, h8⟩ := h
  refine ⟨by omega, by omega, by omega, by omega, fun hne => ?_, fun k hk => ?_, fun c hc => ?_⟩
  · have : 0 < l.lists.length := List.length_pos_iff.2 hne
    rcases h6 with h6 | h6
    · omega
    · simpa using h6
  · have := List.any_eq_false.1 h7 k hk
    simp only [lstNot, Bool.and_eq_true, Bool.not_eq_true', decide_eq_false_iff_not, not_and, Decidable.not_not] at this
    by_cases hk0 : k = 0
    · exact .inl hk0
    · exact .inr (this hk0)
  · simpa using List.any_eq_false.1 h8 c hc
theorem line_inj {T : Str → Bool} {x y : Lin} (hx : linMay T x = true) (hy : linMay T y = true) (hw : wayV x = wayV y) (hn : nodeV x = nodeV y) (hr : rowV x.cells = rowV y.cells → x.cells = y.cells) : x = y := by
  obtain ⟨a1, a2, a3, a4, a5, a6, _⟩ := lin_may hx
  obtain ⟨b1, b2, b3, b4, b5, b6, _⟩ := lin_may hy
  unfold wayV at hw
  obtain ⟨hq, hl0⟩ := rep_inj _ _ _ _ (not6 _) (not6 _) hw
  have hl := lst_inj _ _ a6 b6 hl0
  clear hl0
  simp only [nodeV, Nd.mk.injEq, true_and] at hn
  have hc := hr hn.2
  have hquote : x.quote = y.quote := by
    unfold qN at hq
    split at hq <;> split at hq <;> omega
  have hkind : x.kind = y.kind := by
    by_cases he : x.lists = []
    · have hn1 := hn.1
      rw [← hl, he] at hn1
      simp only [List.length_nil, Nat.lt_irrefl, if_false, lineTag] at hn1
      split at hn1 <;> split at hn1 <;> omega
    · rw [a5 he, b5 (hl ▸ he)]
  rcases x with ⟨q, l, k, c⟩
  rcases y with ⟨q', l', k', c'⟩
  simp only at hquote hl hkind hc
  rw [hquote, hl, hkind, hc]
end Go.QL
end

section
/- QL, part A: runes and bytes, there and back. No program in sight. -/
set_option linter.unusedVariables false
set_option linter.unusedSimpArgs false
namespace Go.QL
open Go Go.RowKit
def encL (r : Int) : List UInt8 := (Utf8.encode r).data.toList
theorem vrune_valid {r : Int} (h : vrune r = true) : Utf8.valid r = true ∧ 0 ≤ r ∧ r ≤ 1114111 ∧ (r < 55296 ∨ 57343 < r) := by
  unfold vrune at h
  simp only [Bool.or_eq_true, Bool.and_eq_true, decide_eq_true_eq] at h
  refine ⟨?_, by omega, by omega, by omega⟩
  unfold Utf8.valid
  simp only [Bool.or_eq_true, Bool.and_eq_true, decide_eq_true_eq]
  omega
theorem u8_nat {n : Nat} (h : n < 256) : (UInt8.ofNat n).toNat = n := by simp [UInt8.toNat_ofNat, Nat.mod_eq_of_lt h]
theorem get_at (pre rest : List UInt8) (k : Nat) : ((⟨(pre ++ rest).toArray⟩ : ByteArray).get! (pre.length + k)) = (rest[k]?).getD 0 := by
  show (pre ++ rest).toArray[pre.length + k]! = _
  rw [getElem!_def]
  simp only [List.getElem?_toArray, List.getElem?_append_right (Nat.le_add_right _ _), Nat.add_sub_cancel_left]
  cases rest[k]? <;> rfl
set_option maxRecDepth 100000 in
theorem enc_dec (pre post : List UInt8) (r : Int) (h : vrune r = true) : Utf8.decode ⟨(pre ++ (encL r ++ post)).toArray⟩ pre.length = (r.toNat, (encL r).length) := by
  obtain ⟨hv, h0, h1, h2⟩ := vrune_valid h
  have hsz : (⟨(pre ++ (encL r ++ post)).toArray⟩ : ByteArray).size - pre.length = (encL r).length + post.length := by
    show (pre ++ (encL r ++ post)).toArray.size - _ = _
    simp
  have g0 := get_at pre (encL r ++ post) 0
  have g1 := get_at pre (encL r ++ post) 1
  have g2 := get_at pre (encL r ++ post) 2
  have g3 := get_at pre (encL r ++ post) 3
  rw [Lib.decode_at, hsz, g1, g2, g3]
  rw [Nat.add_zero] at g0
  rw [g0]
  obtain ⟨c, hc⟩ : ∃ c : Nat, r = c := ⟨r.toNat, by omega⟩
  subst hc
  simp only [Int.toNat_natCast]
  have hcv : (if Utf8.valid (c : Int) = true then (c : Int).toNat else Utf8.runeError) = c := by rw [if_pos hv]; rfl
  unfold encL Utf8.encode
  simp only [hcv]
  by_cases c1 : c < 128
  · simp only [c1, if_true]
    simp only [List.cons_append, List.nil_append, List.getElem?_cons_zero, Option.getD_some, List.length_cons, List.length_nil]
    rw [u8_nat (by omega)]
    unfold Lib.decodeN
    rw [if_pos c1]
  · by_cases c2 : c < 2048
    · simp only [c1, c2, if_true, if_false]
      simp only [List.cons_append, List.nil_append, List.getElem?_cons_zero, List.getElem?_cons_succ, Option.getD_some, List.length_cons, List.length_nil]
      rw [u8_nat (by omega), u8_nat (by omega)]
      unfold Lib.decodeN
      rw [if_neg (by omega), if_pos ⟨by omega, by omega, by omega⟩, if_pos (by omega)]
      exact Prod.ext (by simp only; omega) rfl
    · by_cases c3 : c < 65536
      · simp only [c1, c2, c3, if_true, if_false]
        simp only [List.cons_append, List.nil_append, List.getElem?_cons_zero, List.getElem?_cons_succ, Option.getD_some, List.length_cons, List.length_nil]
        rw [u8_nat (by omega), u8_nat (by omega), u8_nat (by omega)]
        unfold Lib.decodeN
        rw [if_neg (by omega), if_neg (by omega), if_pos ⟨by omega, ⟨by omega, by omega⟩, by omega, by omega⟩, if_pos ⟨by omega, by omega⟩]
        exact Prod.ext (by simp only; omega) rfl
      · simp only [c1, c2, c3, if_true, if_false]
        simp only [List.cons_append, List.nil_append, List.getElem?_cons_zero, List.getElem?_cons_succ, Option.getD_some, List.length_cons, List.length_nil]
        rw [u8_nat (by omega), u8_nat (by omega), u8_nat (by omega), u8_nat (by omega)]
        unfold Lib.decodeN
        rw [if_neg (by omega), if_neg (by omega), if_neg (by omega), if_pos ⟨by omega, ⟨by omega, by omega⟩, ⟨by omega, by omega⟩, by omega, by omega⟩, if_pos ⟨by omega, by omega⟩]
        exact Prod.ext (by simp only; omega) rfl
theorem encL_pos (r : Int) : 0 < (encL r).length := by
  unfold encL Utf8.encode
  simp only
  repeat' split
  all_goals exact Nat.succ_pos _
theorem strOf_list (l : List Int) : strOf l = ⟨(l.flatMap encL).toArray⟩ := by
  have key : ∀ (l : List Int) (a : ByteArray), l.foldl (fun r n => r ++ Utf8.encode n) a = ⟨(a.data.toList ++ l.flatMap encL).toArray⟩ := by
    intro l
    induction l with
    | nil => intro a; simp
    | cons x l ih =>
      intro a
      rw [List.foldl_cons, ih]
      simp [encL]
  have := key l ByteArray.empty
  simpa [runesBytes] using this
theorem runes_go (rest : List Int) : ∀ (pre : List UInt8) (n : Nat) (acc : Array Value), (∀ r ∈ rest, vrune r = true) → (rest.flatMap encL).length ≤ n → Conv.runesFrom ⟨(pre ++ rest.flatMap encL).toArray⟩ n pre.length acc = acc ++ (rest.map (Value.int .i32)).toArray := by
  induction rest with
  | nil =>
    intro pre n acc _ _
    cases n with
    | zero => simp [Conv.runesFrom]
    | succ n =>
      unfold Conv.runesFrom
      rw [if_neg]
      · simp
      · show ¬ pre.length < (pre ++ [].flatMap encL).toArray.size
        simp
  | cons r rest ih =>
    intro pre n acc hv hn
    have hp := encL_pos r
    rw [List.flatMap_cons] at hn ⊢
    rw [List.length_append] at hn
    obtain ⟨m, rfl⟩ : ∃ m, n = m + 1 := ⟨n - 1, by omega⟩
    have hd := enc_dec pre (rest.flatMap encL) r (hv r (List.mem_cons_self ..))
    have h0 := (vrune_valid (hv r (List.mem_cons_self ..))).2.1
    unfold Conv.runesFrom
    rw [if_pos (by
      show pre.length < (pre ++ (encL r ++ rest.flatMap encL)).toArray.size
      simp; omega), hd]
    simp only
    have := ih (pre ++ encL r) m (acc.push (.int .i32 (Int.ofNat r.toNat))) (fun x hx => hv x (List.mem_cons_of_mem _ hx)) (by omega)
    rw [List.append_assoc, List.length_append] at this
    rw [this]
    have e : Int.ofNat r.toNat = r := by simp; omega
    rw [e]
    simp
theorem runes_str (l : List Int) (h : ∀ r ∈ l, vrune r = true) : runesL (strOf l) = l := by
  unfold runesL
  rw [strOf_list]
  have := runes_go l [] (l.flatMap encL).toArray.size #[] h (by simp)
  simp only [List.nil_append, List.length_nil] at this
  show (Conv.runesFrom _ (l.flatMap encL).toArray.size 0 #[]).toList.map _ = l
  rw [this]
  simp [List.map_map, Function.comp_def]
end Go.QL
end

section
/- QL, part B: a row tells its cells. No program in sight. -/
set_option linter.unusedVariables false
set_option linter.unusedSimpArgs false
namespace Go.QL
open Go Go.RowKit
def attrV : List At → Str
  | [] => ⟨#[]⟩
  | a :: _ => a.value
mutual
/-- The cells of nodes. -/
def cellsN : Nd → Int → Str → List Cel
  | .mk t a x k, b, h =>
    if t = 0 then (runesL x).map fun r => ⟨r, b, h⟩
    else if t = 16 then [⟨10, b, h⟩]
    else if t = 10 then cellsL k b (attrV a)
    else if t = 11 then cellsL k (b + 1) h
    else if t = 12 then cellsL k (b + 2) h
    else if t = 13 then cellsL k (b + 4) h
    else if t = 14 then cellsL k (b + 8) h
    else []
def cellsL : List Nd → Int → Str → List Cel
  | [], _, _ => []
  | n :: l, b, h => cellsN n b h ++ cellsL l b h
end
theorem cellsL_append (b : Int) (h : Str) : ∀ l m : List Nd, cellsL (l ++ m) b h = cellsL l b h ++ cellsL m b h
  | [], m => by simp [cellsL]
  | n :: l, m => by rw [List.cons_append, cellsL, cellsL, cellsL_append b h l m, List.append_assoc]
theorem cells_grp (al : Cel → Cel → Bool) (F : List Cel → List Nd) (φ : Cel → Cel) (b : Int) (h : Str) : ∀ (d : List Cel), (∀ x p, (∀ y ∈ p, al x y = true) → (∀ y ∈ x :: p, y ∈ d) → cellsL (F (x :: p)) b h = (x :: p).map φ) → cellsL ((grp al d).flatMap F) b h = d.map φ
  | [], _ => by simp [grp, cellsL]
  | x :: tl, hF => by
    have h1 := hF x (tl.takeWhile (al x)) (fun y hy => by
      have := List.all_takeWhile (p := al x) (l := tl)
      exact List.all_eq_true.1 this y hy) (fun y hy => by
      rcases List.mem_cons.1 hy with rfl | hy
      · exact List.mem_cons_self ..
      · exact List.mem_cons_of_mem _ ((List.takeWhile_sublist _).subset hy))
    have h2 := cells_grp al F φ b h (tl.dropWhile (al x)) (fun y p hp hm => hF y p hp fun z hz => List.mem_cons_of_mem _ (dropWhile_mem _ _ _ (hm z hz)))
    rw [grp, List.flatMap_cons, cellsL_append, h1, h2, ← List.map_append, List.cons_append, List.takeWhile_append_dropWhile]
  termination_by d => d.length
  decreasing_by
    have := dropWhile_le (al x) tl
    simp
    omega
theorem leaves_cells (b : Int) (h : Str) (l : List Cel) (hv : ∀ c ∈ l, vrune c.r = true) : cellsL (leavesV l) b h = l.map fun c => ⟨c.r, b, h⟩ := by
  have e : leavesV l = (grp alLeaf l).flatMap fun p => [leafV p] := by
    unfold leavesV
    induction grp alLeaf l with
    | nil => rfl
    | cons p ps ih => rw [List.flatMap_cons, ← ih]; rfl
  rw [e]
  refine cells_grp alLeaf _ _ b h l fun x p hp hm => ?_
  simp only [cellsL, List.append_nil]
  by_cases hx : x.r = 10
  · cases p with
    | cons y p => have := hp y (List.mem_cons_self ..); simp [alLeaf, hx] at this
    | nil =>
      simp only [leafV]
      rw [if_pos hx, cellsN, if_neg (by decide), if_pos rfl, List.map_cons, hx]
      rfl
  · simp only [leafV]
    rw [if_neg hx, cellsN, if_pos rfl, runes_str _ (fun r hr => by
      obtain ⟨c, hc, rfl⟩ := List.mem_map.1 hr
      exact hv c (hm c hc)), List.map_map]
    rfl
def bitsV : Nat → Int → Int → Int
  | 0, _, _ => 0
  | n + 1, bit, x => bitI .and .i64 x bit + bitsV n (IntKind.i64.wrap (bit * 2 ^ min (1 : Int).toNat IntKind.i64.bits)) x
theorem wrap_cells (v : Int) (hv : v = 0 ∨ v = 1 ∨ v = 2 ∨ v = 4 ∨ v = 8) (l : List Nd) (b : Int) (h : Str) : cellsL (wrapN v l 4) b h = cellsL l (b + v) h := by
  rcases hv with rfl | rfl | rfl | rfl | rfl
  · rw [show wrapN 0 l 4 = l from rfl, Int.add_zero]
  · rw [show wrapN 1 l 4 = [.mk 11 [] ⟨#[]⟩ l] from rfl]; simp [cellsL, cellsN]
  · rw [show wrapN 2 l 4 = [.mk 12 [] ⟨#[]⟩ l] from rfl]; simp [cellsL, cellsN]
  · rw [show wrapN 4 l 4 = [.mk 13 [] ⟨#[]⟩ l] from rfl]; simp [cellsL, cellsN]
  · rw [show wrapN 8 l 4 = [.mk 14 [] ⟨#[]⟩ l] from rfl]; simp [cellsL, cellsN]
/-- One bit of some. -/
def Bit1 (bit : Int) : Prop := ∀ x : Int, 0 ≤ x → x ≤ 15 → bitI .and .i64 x bit = 0 ∨ bitI .and .i64 x bit = 1 ∨ bitI .and .i64 x bit = 2 ∨ bitI .and .i64 x bit = 4 ∨ bitI .and .i64 x bit = 8
theorem styled_cells (h : Str) : ∀ (n : Nat) (bit b : Int) (l : List Cel), (∀ k, k < n → Bit1 (bit * 2 ^ k)) → 0 < bit → bit * 2 ^ n ≤ 16 → (∀ c ∈ l, vrune c.r = true) → (∀ c ∈ l, 0 ≤ c.bits ∧ c.bits ≤ 15) → cellsL (styledV n bit l) b h = l.map fun c => ⟨c.r, b + bitsV n bit c.bits, h⟩
  | 0, bit, b, l, _, _, _, hv, _ => by
    rw [styledV, leaves_cells b h l hv]
    simp [bitsV]
  | n + 1, bit, b, l, hB, h0, h16, hv, hb => by
    have hp2 : (0 : Int) < 2 ^ n := Int.pow_pos (by decide)
    have hb8 : bit ≤ 8 := by
      have e : bit * 2 ^ (n + 1) = bit * 2 ^ n * 2 := by rw [Int.pow_succ, Int.mul_assoc]
      have : bit * 1 ≤ bit * 2 ^ n := Int.mul_le_mul_of_nonneg_left (by omega) (by omega)
      omega
    have hw : IntKind.i64.wrap (bit * 2 ^ min (1 : Int).toNat IntKind.i64.bits) = bit * 2 := by
      rw [show min (1 : Int).toNat IntKind.i64.bits = 1 from rfl, Int.pow_one, IntKind.wrap_i64]
      omega
    simp only [styledV, bitsV, hw]
    refine cells_grp (alBit bit) _ _ b h l fun x p hp hm => ?_
    have hx := hb x (hm x (List.mem_cons_self ..))
    have h1 := hB 0 (by omega)
    rw [Int.pow_zero, Int.mul_one] at h1
    show cellsL (wrapV (bitI .and .i64 x.bits bit) ⟨#[]⟩ (styledV n (bit * 2) (x :: p))) b h = _
    unfold wrapV
    rw [if_pos rfl, wrap_cells _ (h1 x.bits hx.1 hx.2)]
    rw [styled_cells h n (bit * 2) _ (x :: p) (fun k hk => by
      have := hB (k + 1) (by omega)
      rwa [Int.pow_succ, Int.mul_comm (2 ^ k) 2, ← Int.mul_assoc] at this) (by omega) (by
      rw [Int.mul_assoc, Int.mul_comm 2, ← Int.pow_succ]; exact h16) (fun c hc => hv c (hm c hc)) (fun c hc => hb c (hm c hc))]
    refine List.map_congr_left fun c hc => ?_
    have hcb : bitI .and .i64 c.bits bit = bitI .and .i64 x.bits bit := by
      rcases List.mem_cons.1 hc with rfl | hc
      · rfl
      · have := hp c hc
        unfold alBit at this
        exact (of_decide_eq_true this).symm
    rw [hcb, Int.add_assoc]
theorem bits_all : ∀ n : Fin 16, bitsV 4 1 (n.val : Int) = n.val := by decide +kernel
theorem bit_all : ∀ k : Fin 4, ∀ n : Fin 16, bitI .and .i64 (n.val : Int) (1 * 2 ^ k.val) = 0 ∨ bitI .and .i64 (n.val : Int) (1 * 2 ^ k.val) = 1 ∨ bitI .and .i64 (n.val : Int) (1 * 2 ^ k.val) = 2 ∨ bitI .and .i64 (n.val : Int) (1 * 2 ^ k.val) = 4 ∨ bitI .and .i64 (n.val : Int) (1 * 2 ^ k.val) = 8 := by decide +kernel
theorem row_cells (l : List Cel) (hv : ∀ c ∈ l, vrune c.r = true) (hb : ∀ c ∈ l, 0 ≤ c.bits ∧ c.bits ≤ 15) : cellsL (rowV l) 0 ⟨#[]⟩ = l := by
  unfold rowV
  have key := cells_grp alHref (fun p => wrapV 0 (hdHref p) (styledV 4 1 p)) (fun c => c) 0 ⟨#[]⟩ l fun x p hp hm => by
    have hbit : ∀ k, k < 4 → Bit1 ((1 : Int) * 2 ^ k) := fun k hk y h0 h1 => by
      have := bit_all ⟨k, hk⟩ ⟨y.toNat, by omega⟩
      simp only at this
      rwa [Int.toNat_of_nonneg h0] at this
    have hsty := fun h => styled_cells h 4 1 0 (x :: p) hbit (by decide) (by decide) (fun c hc => hv c (hm c hc)) (fun c hc => hb c (hm c hc))
    have hfin : (x :: p).map (fun c => (⟨c.r, 0 + bitsV 4 1 c.bits, x.href⟩ : Cel)) = (x :: p).map fun c => c := by
      refine List.map_congr_left fun c hc => ?_
      have h1 := hb c (hm c hc)
      have h2 := bits_all ⟨c.bits.toNat, by omega⟩
      simp only [Int.toNat_of_nonneg h1.1] at h2
      have h3 : c.href = x.href := by
        rcases List.mem_cons.1 hc with rfl | hc
        · rfl
        · have := hp c hc
          unfold alHref at this
          exact (of_decide_eq_true this).symm
      rw [h2, ← h3, Int.zero_add]
    show cellsL (wrapV 0 x.href (styledV 4 1 (x :: p))) 0 ⟨#[]⟩ = _
    unfold wrapV
    split
    · next he =>
      rw [wrap_cells 0 (.inl rfl), Int.add_zero, hsty, ← he]
      exact hfin
    · rw [cellsL, cellsL, List.append_nil, cellsN, if_neg (by decide), if_neg (by decide), if_pos rfl, wrap_cells 0 (.inl rfl), Int.add_zero, hsty]
      exact hfin
  rw [key, List.map_id']
/-- A host tells its document. -/
theorem may_cells {T : Str → Bool} {c : Cel} (h : celNot T c = false) : vrune c.r = true ∧ 0 ≤ c.bits ∧ c.bits ≤ 15 := by
  simp only [celNot, Bool.or_eq_false_iff, Bool.and_eq_false_iff, Bool.not_eq_false', decide_eq_false_iff_not, Bool.not_eq_true'] at h
  obtain ⟨⟨⟨h1, h2⟩, h3⟩, _⟩ := h
  refine ⟨?_, by omega, by omega⟩
  rcases h1 with h1 | h1
  · unfold charMay at h1
    have := of_decide_eq_true h1
    by_cases hv : vrune c.r = true
    · exact hv
    · unfold cls at this
      rw [if_pos (by simpa using hv)] at this
      omega
  · have : c.r = 10 := by simpa using h1
    rw [this]; decide
theorem docMay_lines {T : Str → Bool} {d : List Lin} (h : docMay T d = true) : ∀ l ∈ d, linMay T l = true := fun l hl => by
  simp only [docMay, Bool.and_eq_true, Bool.not_eq_true'] at h
  have := List.any_eq_false.1 h.2 l hl
  simpa using this
theorem host_way {T : Str → Bool} {d : List Lin} (h : docMay T d = true) : ∀ l ∈ d, (wayV l).length ≤ 0 + 12 := fun l hl => by
  have := lin_may (docMay_lines h l hl)
  have h2 := wayV_len l
  have h3 := qN_le l.quote
  have h4 : l.lists.length ≤ 6 := by
    have h5 := docMay_lines h l hl
    simp only [linMay, lin1, Bool.and_eq_true, Bool.not_eq_true', Bool.or_eq_false_iff, decide_eq_false_iff_not] at h5
    omega
  omega
theorem host_inj {T : Str → Bool} {a b : List Lin} (ha : docMay T a = true) (hb : docMay T b = true) (h : (hostV T a).1 = (hostV T b).1) : a = b := by
  unfold hostV at h
  rw [if_pos ha, if_pos hb] at h
  simp only [Nd.mk.injEq, true_and] at h
  have e1 := flat_nodes 12 0 a (host_way ha)
  have e2 := flat_nodes 12 0 b (host_way hb)
  rw [h, e2] at e1
  have key : ∀ (a b : List Lin), (∀ l ∈ a, linMay T l = true) → (∀ l ∈ b, linMay T l = true) → (b.map fun l => ((wayV l).drop 0, nodeV l)) = (a.map fun l => ((wayV l).drop 0, nodeV l)) → a = b := by
    intro a
    induction a with
    | nil => intro b _ _ h; simp at h; exact h.symm
    | cons x a ih =>
      intro b hx hy h
      cases b with
      | nil => simp at h
      | cons y b =>
        simp only [List.map_cons, List.cons.injEq, Prod.mk.injEq, List.drop_zero] at h
        have mx := hx x (List.mem_cons_self ..)
        have my := hy y (List.mem_cons_self ..)
        have hxy : x = y := line_inj mx my h.1.1.symm h.1.2.symm fun hr => by
          have cx := (lin_may mx).2.2.2.2.2.2
          have cy := (lin_may my).2.2.2.2.2.2
          have rx := row_cells x.cells (fun c hc => (may_cells (cx c hc)).1) (fun c hc => (may_cells (cx c hc)).2)
          have ry := row_cells y.cells (fun c hc => (may_cells (cy c hc)).1) (fun c hc => (may_cells (cy c hc)).2)
          rw [← rx, ← ry, hr]
        rw [hxy, ih b (fun l hl => hx l (List.mem_cons_of_mem _ hl)) (fun l hl => hy l (List.mem_cons_of_mem _ hl)) (by simpa using h.2)]
  exact key a b (docMay_lines ha) (docMay_lines hb) e1
end Go.QL
end

section
/- QL, part C: values and targets in the reference's own words (ref03). No program in sight. -/
set_option linter.unusedVariables false
set_option linter.unusedSimpArgs false
namespace Go.QL
open Go Go.RowKit
/-- The runes of bytes. -/
def runesB : Nat → List UInt8 → List Int
  | 0, _ => []
  | n + 1, l => if l = [] then [] else ((Lib.decodeL l).1 : Int) :: runesB n (l.drop (Lib.decodeL l).2)
theorem drop_ne (s : ByteArray) (i : Nat) : s.data.toList.drop i = [] ↔ ¬ i < s.size := by
  rw [List.drop_eq_nil_iff]
  show s.data.toList.length ≤ i ↔ ¬ i < s.data.size
  rw [Array.length_toList]
  omega
theorem runes_B (s : ByteArray) : ∀ (n i : Nat) (acc : Array Value), Conv.runesFrom s n i acc = acc ++ ((runesB n (s.data.toList.drop i)).map (Value.int .i32)).toArray
  | 0, i, acc => by simp [Conv.runesFrom, runesB]
  | n + 1, i, acc => by
    unfold Conv.runesFrom runesB
    by_cases h : i < s.size
    · rw [if_pos h, if_neg (fun e => (drop_ne s i).1 e h), Lib.decodeL_drop, List.drop_drop]
      simp only
      rw [runes_B s n]
      simp
    · rw [if_neg h, if_pos ((drop_ne s i).2 h)]
      simp
theorem runesL_B (s : ByteArray) : runesL s = runesB s.size s.data.toList := by
  unfold runesL
  rw [runes_B, List.drop_zero]
  simp [List.map_map, Function.comp_def]
theorem strAll_B (p : Int → Bool) (s : ByteArray) : ∀ (n i : Nat), strAll p s n i = (runesB n (s.data.toList.drop i)).all p
  | 0, i => rfl
  | n + 1, i => by
    unfold strAll runesB
    by_cases h : i < s.size
    · rw [if_pos h, if_neg (fun e => (drop_ne s i).1 e h), Lib.decodeL_drop, List.drop_drop, strAll_B p s n, List.all_cons]
    · rw [if_neg h, if_pos ((drop_ne s i).2 h)]
      rfl
theorem u8_i (z : Int) (n : Nat) (h : z = n) : z.toNat.toUInt8 = UInt8.ofNat n := by subst h; rw [Int.toNat_natCast]
set_option maxRecDepth 100000 in
theorem enc_eq (r : Int) (h : vrune r = true) : encL r = Lib.encodeRune r := by
  obtain ⟨hv, h0, h1, h2⟩ := vrune_valid h
  obtain ⟨c, rfl⟩ : ∃ c : Nat, r = c := ⟨r.toNat, by omega⟩
  have hcv : (if Utf8.valid (c : Int) = true then (c : Int).toNat else Utf8.runeError) = c := by rw [if_pos hv]; rfl
  unfold encL Utf8.encode Lib.encodeRune
  simp only [hcv]
  by_cases c1 : c < 128
  · rw [if_pos c1, Lib.encodeRuneZ_one (by omega) (by omega)]
    rfl
  rw [if_neg c1]
  by_cases c2 : c < 2048
  · rw [if_pos c2, Lib.encodeRuneZ_two (by omega) (by omega)]
    simp only [List.map_cons, List.map_nil]
    rw [u8_i _ (192 + c / 64) (by omega), u8_i _ (128 + c % 64) (by omega)]
  rw [if_neg c2]
  by_cases c3 : c < 65536
  · rw [if_pos c3, Lib.encodeRuneZ_three (by omega)]
    simp only [List.map_cons, List.map_nil]
    rw [u8_i _ (224 + c / 4096) (by omega), u8_i _ (128 + c / 64 % 64) (by omega), u8_i _ (128 + c % 64) (by omega)]
  rw [if_neg c3, Lib.encodeRuneZ_four (by omega) (by omega)]
  simp only [List.map_cons, List.map_nil]
  rw [u8_i _ (240 + c / 262144) (by omega), u8_i _ (128 + c / 4096 % 64) (by omega), u8_i _ (128 + c / 64 % 64) (by omega), u8_i _ (128 + c % 64) (by omega)]
theorem decode_vrune (l : List UInt8) : vrune ((Lib.decodeL l).1 : Int) = true := by
  have hb : ∀ k, (l.getD k 0).toNat < 256 := fun k => (l.getD k 0).toNat_lt
  have b0 := hb 0
  have b1 := hb 1
  have b2 := hb 2
  have b3 := hb 3
  rw [Lib.decodeL_N]
  unfold vrune Lib.decodeN
  simp only [Bool.or_eq_true, Bool.and_eq_true, decide_eq_true_eq]
  repeat' split
  all_goals omega
set_option maxRecDepth 100000 in
theorem valid_str : ∀ (n : Nat) (l : List UInt8), l.length ≤ n → (Lib.validGoD n l = true ↔ (runesB n l).flatMap encL = l)
  | 0, l, h => by
    have : l = [] := List.eq_nil_of_length_eq_zero (by omega)
    subst this
    simp [Lib.validGoD, runesB]
  | n + 1, l, h => by
    unfold Lib.validGoD runesB
    by_cases hl : l = []
    · simp [hl]
    rw [if_neg hl, if_neg hl, List.flatMap_cons, enc_eq _ (decode_vrune l)]
    by_cases hbad : (Lib.decodeL l).1 = 65533 ∧ (Lib.decodeL l).2 = 1
    · rw [if_pos hbad, hbad.1]
      refine ⟨fun h => (by cases h), fun e => ?_⟩
      exfalso
      have e3 : Lib.encodeRune ((65533 : Nat) : Int) = [239, 191, 189] := by decide
      rw [e3] at e
      obtain ⟨t, ht⟩ : ∃ t, l = [239, 191, 189] ++ t := ⟨_, e.symm⟩
      have hw : (Lib.decodeL l).2 = 3 := by
        rw [Lib.decodeL_N, ht]
        have hlen : ([239, 191, 189] ++ t : List UInt8).length = t.length + 3 := by simp
        rw [hlen]
        show (Lib.decodeN (t.length + 3) 239 191 189 _).2 = 3
        unfold Lib.decodeN
        rw [if_neg (by omega), if_neg (by omega), if_pos (by omega), if_pos (by omega)]
      omega
    · rw [if_neg hbad, Lib.encode_decode l hl hbad]
      have hw := Lib.decodeL_width l
      rw [valid_str n (l.drop (Lib.decodeL l).2) (by rw [List.length_drop]; have := List.length_pos_iff.2 hl; omega)]
      constructor
      · intro e; rw [e, List.take_append_drop]
      · intro e
        have e2 : List.take (Lib.decodeL l).2 l ++ (runesB n (l.drop (Lib.decodeL l).2)).flatMap encL = List.take (Lib.decodeL l).2 l ++ l.drop (Lib.decodeL l).2 := by rw [e, List.take_append_drop]
        exact List.append_cancel_left e2
/-- P3.1: values, as ref03 tells them. -/
def valueR (s : Str) : Bool := decide ((s.size : Int) ≤ 200) && (decide (strOf (runesL s) = s) && (runesL s).all charMay)
theorem str_list (s : Str) : s = ⟨s.data.toList.toArray⟩ := by cases s; simp
theorem valueR_eq (s : Str) : valueR s = valueV s := by
  unfold valueR valueV
  have h1 : strAll charMay s s.size 0 = (runesL s).all charMay := by rw [strAll_B, List.drop_zero, runesL_B]
  have h2 : Lib.validD s.data.toList = decide (strOf (runesL s) = s) := by
    have hl : s.data.toList.length = s.size := Array.length_toList
    have key := valid_str s.size s.data.toList (by omega)
    rw [← runesL_B] at key
    unfold Lib.validD
    rw [hl, strOf_list]
    rw [Bool.eq_iff_iff, key, decide_eq_true_iff]
    constructor
    · intro e; rw [e]
    · intro e
      have := congrArg (fun x : ByteArray => x.data.toList) e
      simpa using this
  rw [h1, h2]
  rcases Bool.eq_false_or_eq_true ((runesL s).all charMay) with h | h <;> rcases Bool.eq_false_or_eq_true (decide (strOf (runesL s) = s)) with h' | h' <;> rcases Bool.eq_false_or_eq_true (decide ((s.size : Int) ≤ 200)) with h'' | h'' <;> rw [h, h', h''] <;> rfl
/-! ### the script's word -/
def lowB (b : UInt8) : UInt8 := if 65 ≤ b.toNat ∧ b.toNat ≤ 90 then b + 32 else b
theorem low_ascii (b : UInt8) (h : b.toNat < 128) : Lib.encodeRune (lowR (b.toNat : Int)) = [lowB b] := by
  have key : ∀ n : Fin 128, Lib.encodeRune (lowR (((UInt8.ofNat n.val).toNat : Nat) : Int)) = [lowB (UInt8.ofNat n.val)] := by decide +kernel
  have := key ⟨b.toNat, h⟩
  simpa using this
theorem enc_high (r : Int) (h : 128 ≤ r) : ∃ b t, Lib.encodeRune r = b :: t ∧ 128 ≤ b.toNat := by
  have u : ∀ (z : Int) (n : Nat), z = n → n < 256 → (z.toNat.toUInt8).toNat = n := fun z n h hn => by subst h; simp [Nat.mod_eq_of_lt hn]
  unfold Lib.encodeRune Lib.encodeRuneZ
  rw [if_neg (by omega)]
  split
  · exact ⟨_, _, rfl, by rw [u _ (192 + (r / 64).toNat) (by omega) (by omega)]; omega⟩
  · split
    · exact ⟨_, _, rfl, by rw [u _ (224 + (r / 4096).toNat) (by omega) (by omega)]; omega⟩
    · split
      · exact ⟨_, _, rfl, by rw [u _ (240 + (r / 262144).toNat) (by omega) (by omega)]; omega⟩
      · exact ⟨_, _, rfl, by decide⟩
theorem lowB_high (b : UInt8) (h : 128 ≤ b.toNat) : lowB b = b := by unfold lowB; rw [if_neg (by omega)]
theorem map_low : ∀ (n : Nat) (l word : List UInt8), l.length ≤ n → (∀ b ∈ word, b.toNat < 128) → (Lib.mapD lowR l = word ↔ l.map lowB = word)
  | 0, l, word, h, _ => by
    have : l = [] := List.eq_nil_of_length_eq_zero (by omega)
    subst this
    rfl
  | n + 1, [], word, h, _ => by rfl
  | n + 1, b :: t, word, h, hw => by
    rw [Lib.mapD_step lowR (b :: t) (by simp), List.map_cons]
    by_cases hb : b.toNat < 128
    · have hd := Lib.decodeL_ascii b t hb
      have h0 : 0 ≤ lowR ((b.toNat : Nat) : Int) := by unfold lowR; split <;> omega
      rw [hd]
      simp only
      rw [if_pos h0, low_ascii b hb, List.drop_succ_cons, List.drop_zero]
      cases word with
      | nil => simp
      | cons x word =>
        have ih := map_low n t word (by simp at h; omega) (fun y hy => hw y (List.mem_cons_of_mem _ hy))
        simp only [List.singleton_append, List.cons.injEq]
        rw [ih]
    · have hsz : 0 < (⟨(b :: t).toArray⟩ : ByteArray).size := Nat.succ_pos _
      have hd := decode_high ⟨(b :: t).toArray⟩ 0 hsz (by show 128 ≤ b.toNat; omega)
      have hd1 : 128 ≤ (Lib.decodeL (b :: t)).1 := hd.1
      have h0 : 0 ≤ lowR ((Lib.decodeL (b :: t)).1 : Int) := by unfold lowR; split <;> omega
      rw [if_pos h0, lowB_high b (by omega)]
      have h128 : 128 ≤ lowR ((Lib.decodeL (b :: t)).1 : Int) := by unfold lowR; split <;> omega
      obtain ⟨x, y, he, hx⟩ := enc_high _ h128
      rw [he]
      cases word with
      | nil => simp
      | cons z word =>
        have hz := hw z (List.mem_cons_self ..)
        simp only [List.cons_append, List.cons.injEq]
        constructor
        · rintro ⟨rfl, _⟩; omega
        · rintro ⟨rfl, _⟩; omega
theorem index_colon : ∀ l : List UInt8, (Lib.index l [58] = -1 ∧ l.takeWhile (fun b => !decide (b = 58)) = l) ∨ (∃ i : Nat, Lib.index l [58] = i ∧ l.takeWhile (fun b => !decide (b = 58)) = l.take i)
  | [] => .inl ⟨rfl, rfl⟩
  | b :: l => by
    unfold Lib.index
    by_cases hb : b = 58
    · subst hb
      refine .inr ⟨0, ?_, ?_⟩
      · simp
      · simp
    · have hp : [58].isPrefixOf (b :: l) = false := by
        simp only [List.isPrefixOf, Bool.and_eq_false_iff]
        exact .inl (by simpa using fun e => hb e.symm)
      rw [hp]
      have ht : (b :: l).takeWhile (fun b => !decide (b = 58)) = b :: l.takeWhile (fun b => !decide (b = 58)) := by
        rw [List.takeWhile_cons, if_pos (by simp [hb])]
      rw [ht]
      rcases index_colon l with ⟨h1, h2⟩ | ⟨i, h1, h2⟩
      · refine .inl ⟨?_, by rw [h2]⟩
        rw [h1]; rfl
      · refine .inr ⟨i + 1, ?_, by rw [h2]; rfl⟩
        rw [h1]
        have : ((i : Int) == -1) = false := by rw [beq_eq_false_iff_ne]; omega
        simp [this]
theorem cut_colon (l : List UInt8) : (Lib.cut l [58]).1 = l.takeWhile fun b => !decide (b = 58) := by
  unfold Lib.cut
  rcases index_colon l with ⟨h1, h2⟩ | ⟨i, h1, h2⟩
  · rw [if_neg (by omega), h2]
  · rw [if_pos (by omega), h2, h1, Int.toNat_natCast]
def wordB : List UInt8 := [106, 97, 118, 97, 115, 99, 114, 105, 112, 116]
/-- The head of a text: what is ahead of its first colon. -/
def headB (s : Str) : List UInt8 := s.data.toList.takeWhile fun b => !decide (b = 58)
def scriptR (s : Str) : Bool := decide ((headB s).map lowB = wordB)
theorem scriptR_eq (s : Str) : scriptR s = scriptV s := by
  unfold scriptR scriptV
  rw [cut_colon, decide_eq_decide, ← map_low (headB s).length (headB s) wordB (Nat.le_refl _) (by decide)]
  constructor
  · intro e
    show (⟨(Lib.mapD lowR (headB s)).toArray⟩ : ByteArray) = _
    rw [e]; rfl
  · intro e
    have := congrArg (fun x : ByteArray => x.data.toList) e
    simpa [headB, wordB] using this
end Go.QL
end

section
/- QL, part E: the script's word, byte by byte; targets of ref03. No program in sight. -/
set_option linter.unusedVariables false
set_option linter.unusedSimpArgs false
namespace Go.QL
open Go Go.RowKit
def lowI (c : Int) : Int := if 65 ≤ c ∧ c ≤ 90 then c + 32 else c
def wordS : Str := ⟨#[106, 97, 118, 97, 115, 99, 114, 105, 112, 116]⟩
theorem sbyte_at (s : Str) (i : Nat) (h : i < s.data.toList.length) : sbyte s i = (s.data.toList[i].toNat : Int) := by
  have h2 : i < s.size := by rw [Array.length_toList] at h; exact h
  unfold sbyte
  rw [dif_pos h2]
  rw [Array.getElem_toList]
  rfl
theorem lowI_B : ∀ b : UInt8, ((lowB b).toNat : Int) = lowI (b.toNat : Int) := fun b => by
  have key : ∀ n : Fin 256, ((lowB (UInt8.ofNat n.val)).toNat : Int) = lowI ((UInt8.ofNat n.val).toNat : Int) := by decide +kernel
  have := key ⟨b.toNat, b.toNat_lt⟩
  simpa using this
theorem len_size (s : Str) : s.data.toList.length = s.size := Array.length_toList
theorem sbyte_58 (s : Str) (i : Nat) (h : i < s.data.toList.length) : s.data.toList[i] = 58 ↔ sbyte s i = 58 := by
  rw [sbyte_at s i h]
  constructor
  · intro e; rw [e]; rfl
  · intro e
    exact UInt8.toNat_inj.1 (by have : (s.data.toList[i].toNat : Int) = 58 := e; show s.data.toList[i].toNat = 58; omega)
theorem head_len (s : Str) (i : Nat) (hi : i ≤ s.size) (hpre : ∀ j, j < i → sbyte s j ≠ 58) (hend : i = s.size ∨ sbyte s i = 58) : headB s = s.data.toList.take i := by
  have hl := len_size s
  refine (takeWhile_split _ s.data.toList i (fun x hx => ?_) (by omega) (fun y hy => ?_)).1
  · obtain ⟨j, hj, he⟩ := List.getElem_of_mem hx
    rw [List.length_take] at hj
    have hj2 : j < s.data.toList.length := by omega
    have he2 : s.data.toList[j] = x := by rw [← he, List.getElem_take]
    have := hpre j (by omega)
    have hne : ¬ x = 58 := fun e => this ((sbyte_58 s j hj2).1 (he2.trans e))
    simp [hne]
  · obtain ⟨h1, h2⟩ := List.getElem?_eq_some_iff.1 hy
    rcases hend with rfl | h
    · omega
    · have := (sbyte_58 s i h1).2 h
      rw [h2] at this
      simp [this]
theorem script_len (s : Str) (i : Nat) (hi : i ≤ s.size) (h : headB s = s.data.toList.take i) (hne : i ≠ 10) : scriptR s = false := by
  have hl := len_size s
  unfold scriptR
  refine decide_eq_false fun e => hne ?_
  have := congrArg List.length e
  rw [h, List.length_map, List.length_take] at this
  have h10 : wordB.length = 10 := rfl
  omega
theorem script_byte (s : Str) (h10 : 10 ≤ s.size) (h : headB s = s.data.toList.take 10) (k : Nat) (hk : k < 10) (hne : lowI (sbyte s k) ≠ sbyte wordS k) : scriptR s = false := by
  have hl := len_size s
  unfold scriptR
  refine decide_eq_false fun e => hne ?_
  have hk1 : k < s.data.toList.length := by omega
  have hk2 : k < ((s.data.toList.take 10).map lowB).length := by rw [List.length_map, List.length_take]; omega
  have hk3 : k < wordB.length := hk
  rw [h] at e
  have e2 : ((s.data.toList.take 10).map lowB)[k] = wordB[k] := by
    have e3 : ((s.data.toList.take 10).map lowB)[k]? = wordB[k]? := by rw [e]
    rw [List.getElem?_eq_getElem hk2, List.getElem?_eq_getElem hk3] at e3
    exact Option.some.inj e3
  rw [List.getElem_map, List.getElem_take] at e2
  rw [sbyte_at s k hk1, ← lowI_B, e2, sbyte_at wordS k hk]
  rfl
theorem script_all (s : Str) (h10 : 10 ≤ s.size) (h : headB s = s.data.toList.take 10) (ha : ∀ k, k < 10 → lowI (sbyte s k) = sbyte wordS k) : scriptR s = true := by
  have hl := len_size s
  unfold scriptR
  refine decide_eq_true ?_
  rw [h]
  refine List.ext_getElem (by rw [List.length_map, List.length_take]; show min 10 _ = 10; omega) fun k h1 h2 => ?_
  have hk : k < 10 := h2
  have hk1 : k < s.data.toList.length := by omega
  have := ha k hk
  rw [sbyte_at s k hk1, ← lowI_B, sbyte_at wordS k hk] at this
  rw [List.getElem_map, List.getElem_take]
  refine UInt8.toNat_inj.1 ?_
  have e : wordS.data.toList[k] = wordB[k] := rfl
  rw [e] at this
  omega
theorem sbyte_range (s : Str) (i : Nat) : 0 ≤ sbyte s i ∧ sbyte s i < 256 := by
  unfold sbyte
  split
  · have := s[i].toNat_lt; omega
  · omega
/-- P3.1: targets, as ref03 tells them. -/
def targetR (s : Str) : Bool := valueR s && ((!decide (s = ⟨#[]⟩)) && ((!decide (sbyte s 0 = 32)) && ((!decide (sbyte s (s.size - 1) = 32)) && !scriptR s)))
theorem targetR_eq (s : Str) : targetR s = targetV s := by
  unfold targetR targetV
  rw [valueR_eq, scriptR_eq]
end Go.QL
end

section
/- The contracts of what tells whether a text may be (ref01, ref03). -/
set_option linter.unusedVariables false
set_option linter.unusedSimpArgs false
set_option maxHeartbeats 4000000
namespace Go.Proofs.YtokbhcnomffopaaGreatDoor
open Go Go.QL

theorem runes_calls (s : Str) (hr : (runesL s).length ≤ 70368744177664) : ICalls Tryz.prog 134 [.str s] [] (fun u _ => u = eRs (runesL s)) := by
  refine x_enter Tryz.func134 Tryz.ntmps134 ?_
  refine ic_seq ?_
  refine ic_region ?_
  refine x_op ?_
  refine il_nil ?_
  refine ic_seq ?_
  refine ic_region ?_
  refine x_op ?_
  refine x_op ?_
  refine x_op ?_
  refine il_nil ?_
  refine ic_ret ?_
  repeat (first | with_reducible refine it_ret ?_ | with_reducible refine ib_ret ?_)
  exact x_res1 Tryz.results134 rfl
theorem class1_calls (c : Int) : ICalls Tryz.prog 107 [.int .i32 c] [] (fun u _ => u = .int .i64 (cls c)) := by
  refine x_enter Tryz.func107 Tryz.ntmps107 ?_
  refine ic_seq ?_
  refine ic_region ?_
  refine x_op ?_
  refine il_nil ?_
  refine ic_seq ?_
  refine x_mid [16] [3, 4, 5, 6, 7, 8, 9, 10, 11, 12, 13, 14, 15] (fun vs σ => vs = [.bool ((decide (c < 0) || decide (1114111 < c)) || (decide (55296 ≤ c) && decide (c ≤ 57343)))] ∧ σ = []) ?_ ?_
  · refine ic_region ?_
    repeat' (first | refine x_op ?_ | refine n_op ?_ | refine y_op ?_ | refine il_split (fun _ => ?_) (fun _ => ?_) | refine il_nil ?_)
    all_goals exact x_there
  rintro vs σ ⟨rfl, rfl⟩
  simp only [sets, nf]
  have hv : vrune c = !((decide (c < 0) || decide (1114111 < c)) || (decide (55296 ≤ c) && decide (c ≤ 57343))) := by
    rw [Bool.eq_iff_iff]
    simp only [vrune, Bool.or_eq_true, Bool.and_eq_true, decide_eq_true_eq, Bool.not_eq_true', Bool.or_eq_false_iff, Bool.and_eq_false_iff, decide_eq_false_iff_not]
    omega
  refine ic_cond rfl (fun hc => ?_) (fun hc => ?_) -- t16
  · -- true
    refine ic_seq ?_
    refine ic_region ?_
    refine x_op ?_
    refine il_nil ?_
    refine ic_ret ?_
    repeat (first | with_reducible refine it_ret ?_ | with_reducible refine ib_ret ?_)
    exact x_ret1v Tryz.results107 (he := by rw [cls, hv, hc]; rfl)
  rw [hc] at hv
  refine ic_skip ?_
  refine ic_seq ?_
  refine x_mid [22] [17, 18, 19, 20, 21] (fun vs σ => vs = [.bool (decide (c < 32) || decide (c = 127))] ∧ σ = []) ?_ ?_
  · refine ic_region ?_
    repeat' (first | refine x_op ?_ | refine n_op ?_ | refine y_op ?_ | refine il_split (fun _ => ?_) (fun _ => ?_) | refine il_nil ?_)
    all_goals exact x_there
  rintro vs σ ⟨rfl, rfl⟩
  simp only [sets, nf]
  refine ic_cond rfl (fun g1 => ?_) (fun g1 => ?_) -- t22
  · simp only [Bool.or_eq_true, decide_eq_true_eq] at g1
    refine ic_seq ?_
    refine ic_region ?_
    refine x_op ?_
    refine il_nil ?_
    refine ic_ret ?_
    repeat (first | with_reducible refine it_ret ?_ | with_reducible refine ib_ret ?_)
    exact x_ret1v Tryz.results107 (he := by rw [cls_is hv]; (repeat' split) <;> first | rfl | (exfalso; omega))
  simp only [Bool.or_eq_false_iff, decide_eq_false_iff_not] at g1
  refine ic_skip ?_
  refine ic_seq ?_
  refine x_mid [28] [23, 24, 25, 26, 27] (fun vs σ => vs = [.bool (decide (c = 32) || decide (c = 160))] ∧ σ = []) ?_ ?_
  · refine ic_region ?_
    repeat' (first | refine x_op ?_ | refine n_op ?_ | refine y_op ?_ | refine il_split (fun _ => ?_) (fun _ => ?_) | refine il_nil ?_)
    all_goals exact x_there
  rintro vs σ ⟨rfl, rfl⟩
  simp only [sets, nf]
  refine ic_cond rfl (fun g2 => ?_) (fun g2 => ?_) -- t28
  · simp only [Bool.or_eq_true, decide_eq_true_eq] at g2
    refine ic_seq ?_
    refine ic_region ?_
    refine x_op ?_
    refine il_nil ?_
    refine ic_ret ?_
    repeat (first | with_reducible refine it_ret ?_ | with_reducible refine ib_ret ?_)
    exact x_ret1v Tryz.results107 (he := by rw [cls_is hv]; (repeat' split) <;> first | rfl | (exfalso; omega))
  simp only [Bool.or_eq_false_iff, decide_eq_false_iff_not] at g2
  refine ic_skip ?_
  refine ic_seq ?_
  refine x_mid [50] [29, 30, 31, 32, 33, 34, 35, 36, 37, 38, 39, 40, 41, 42, 43, 44, 45, 46, 47, 48, 49] (fun vs σ => vs = [.bool (((decide (97 ≤ c) && decide (c ≤ 122)) || (decide (65 ≤ c) && decide (c ≤ 90))) || (decide (128 ≤ c) && !decide (c = 65533)))] ∧ σ = []) ?_ ?_
  · refine ic_region ?_
    repeat' (first | refine x_op ?_ | refine n_op ?_ | refine y_op ?_ | refine il_split (fun _ => ?_) (fun _ => ?_) | refine il_nil ?_)
    all_goals exact x_there
  rintro vs σ ⟨rfl, rfl⟩
  simp only [sets, nf]
  refine ic_cond rfl (fun g3 => ?_) (fun g3 => ?_) -- t50
  · simp only [Bool.or_eq_true, Bool.and_eq_true, decide_eq_true_eq, Bool.not_eq_true', decide_eq_false_iff_not] at g3
    refine ic_seq ?_
    refine ic_region ?_
    refine x_op ?_
    refine il_nil ?_
    refine ic_ret ?_
    repeat (first | with_reducible refine it_ret ?_ | with_reducible refine ib_ret ?_)
    exact x_ret1v Tryz.results107 (he := by rw [cls_is hv]; (repeat' split) <;> first | rfl | (exfalso; omega))
  simp only [Bool.or_eq_false_iff, Bool.and_eq_false_iff, decide_eq_false_iff_not, Bool.not_eq_false', decide_eq_true_eq] at g3
  refine ic_skip ?_
  refine ic_seq ?_
  refine x_mid [56] [51, 52, 53, 54, 55] (fun vs σ => vs = [.bool (decide (48 ≤ c) && decide (c ≤ 57))] ∧ σ = []) ?_ ?_
  · refine ic_region ?_
    repeat' (first | refine x_op ?_ | refine n_op ?_ | refine y_op ?_ | refine il_split (fun _ => ?_) (fun _ => ?_) | refine il_nil ?_)
    all_goals exact x_there
  rintro vs σ ⟨rfl, rfl⟩
  simp only [sets, nf]
  refine ic_cond rfl (fun g4 => ?_) (fun g4 => ?_) -- t56
  · simp only [Bool.and_eq_true, decide_eq_true_eq] at g4
    refine ic_seq ?_
    refine ic_region ?_
    refine x_op ?_
    refine il_nil ?_
    refine ic_ret ?_
    repeat (first | with_reducible refine it_ret ?_ | with_reducible refine ib_ret ?_)
    exact x_ret1v Tryz.results107 (he := by rw [cls_is hv]; (repeat' split) <;> first | rfl | (exfalso; omega))
  simp only [Bool.and_eq_false_iff, decide_eq_false_iff_not] at g4
  refine ic_skip ?_
  refine ic_seq ?_
  refine ic_region ?_
  refine x_op ?_
  refine il_nil ?_
  refine ic_ret ?_
  repeat (first | with_reducible refine it_ret ?_ | with_reducible refine ib_ret ?_)
  exact x_ret1v Tryz.results107 (he := by rw [cls_is hv]; (repeat' split) <;> first | rfl | (exfalso; omega))
theorem may1_calls (c : Int) : ICalls Tryz.prog 83 [.int .i32 c] [] (fun u _ => u = .bool (charMay c)) := by
  refine x_enter Tryz.func83 Tryz.ntmps83 ?_
  refine ic_seq ?_
  refine ic_region ?_
  refine x_op ?_
  refine il_nil ?_
  refine ic_seq ?_
  refine ic_region ?_
  refine x_op ?_
  refine x_cv (class1_calls c) ?_
  refine x_op ?_
  refine x_op ?_
  refine il_nil ?_
  refine ic_ret ?_
  repeat (first | with_reducible refine it_ret ?_ | with_reducible refine ib_ret ?_)
  exact x_ret1v Tryz.results83 (he := by rw [charMay]; congr 1)
theorem value3_calls (s : Str) (hs : s.size ≤ 1073741824) : ICalls Tryz.prog 120 [.str s] [] (fun u _ => u = .bool (valueR s)) := by
  have hrl := runesL_length s
  refine x_enter Tryz.func120 Tryz.ntmps120 ?_
  refine ic_seq ?_
  refine ic_region ?_
  refine x_op ?_
  refine il_nil ?_
  refine ic_seq ?_
  refine ic_region ?_
  refine x_op ?_
  refine x_cv (runes_calls s (by omega)) ?_
  refine x_op ?_
  refine il_nil ?_
  refine ic_seq ?_
  refine x_mid [15] [6, 7, 8, 9, 10, 11, 12, 13, 14] (fun vs σ => vs = [.bool (decide (200 < (s.size : Int)) || !decide (strOf (runesL s) = s))] ∧ σ = []) ?_ ?_
  · refine ic_region ?_
    refine x_op ?_
    refine x_op ?_
    refine x_op ?_
    refine x_op ?_
    rcases Bool.eq_false_or_eq_true (decide (200 < (s.size : Int))) with h1 | h1
    · simp only [h1]
      refine n_op ?_
      refine n_op ?_
      refine n_op ?_
      refine n_op ?_
      refine x_op ?_
      refine il_nil ?_
      exact x_there
    · simp only [h1]
      refine y_op ?_
      refine y_op (h := by exact op_strOf (l := runesL s) SlC.h StrC.h IntC.h rfl rfl) ?_
      refine y_op ?_
      refine y_op ?_
      refine x_op ?_
      refine il_nil ?_
      exact x_there
  rintro vs σ ⟨rfl, rfl⟩
  simp only [sets, nf]
  refine ic_cond rfl (fun hc => ?_) (fun hc => ?_) -- t15
  · -- true
    refine ic_seq ?_
    refine ic_region ?_
    refine x_op ?_
    refine il_nil ?_
    refine ic_ret ?_
    repeat (first | with_reducible refine it_ret ?_ | with_reducible refine ib_ret ?_)
    exact x_ret1v Tryz.results120 (he := by
      have : valueR s = false := by
        unfold valueR
        rcases Bool.or_eq_true _ _ ▸ hc with h | h
        · have h := of_decide_eq_true h
          rw [decide_eq_false (show ¬ (s.size : Int) ≤ 200 by omega)]; rfl
        · rw [Bool.not_eq_true'] at h
          rw [h]; simp
      rw [this])
  rw [Bool.or_eq_false_iff, Bool.not_eq_false'] at hc
  have hsz : decide ((s.size : Int) ≤ 200) = true := decide_eq_true (by have := of_decide_eq_false hc.1; omega)
  have hval : valueR s = (runesL s).all charMay := by unfold valueR; rw [hsz, hc.2]; rfl
  rw [hval]
  obtain ⟨L, hL⟩ : ∃ L, runesL s = L := ⟨_, rfl⟩
  rw [hL] at hrl
  simp only [hL]
  refine ic_skip ?_
  refine ic_seq ?_
  refine ic_seq ?_
  refine ic_region ?_
  refine x_op ?_
  refine il_nil ?_
  refine ic_block ?_ -- 0
  refine x_loop [4] [2, 16, 17, 18, 19, 20, 21, 22, 23, 24, 25, 26, 27] (fun m vs σ => ∃ i : Nat, i ≤ L.length ∧ (L.drop i).all charMay = L.all charMay ∧ m = L.length - i ∧ vs = [.int .i64 i] ∧ σ = []) ⟨0, Nat.zero_le _, rfl, rfl, rfl, rfl⟩ ?_
  rintro m vs σ ⟨i, hi, hall, rfl, rfl, rfl⟩
  simp only [sets, nf]
  refine ic_seq ?_
  refine ic_seq ?_
  refine ic_region ?_
  refine x_op ?_
  refine x_op ?_
  refine x_op ?_
  refine x_op ?_
  refine il_nil ?_
  refine ic_cond rfl (fun hc => ?_) (fun hc => ?_) -- t19
  · -- true
    have hil : i < L.length := by have := of_decide_eq_true hc; omega
    have hix : (L.map eR)[((i : Nat) : Int).toNat]? = some (eR L[i]) := by simp [hil]
    rw [List.drop_eq_getElem_cons hil, List.all_cons] at hall
    refine ic_skip ?_
    refine ic_seq ?_
    refine ic_block ?_ -- 1
    refine ic_seq ?_
    refine ic_region ?_
    refine x_op ?_
    refine x_op ?_
    refine x_op ?_
    refine x_op ?_
    refine x_cv (may1_calls L[i]) ?_
    refine x_op ?_
    refine il_nil ?_
    refine ic_cond rfl (fun hc => ?_) (fun hc => ?_) -- t27
    · -- true
      rw [Bool.not_eq_true'] at hc
      rw [hc, Bool.false_and] at hall
      rw [← hall]
      refine ic_seq ?_
      refine ic_region ?_
      refine x_op ?_
      refine il_nil ?_
      refine ic_ret ?_
      repeat (first | with_reducible refine it_ret ?_ | with_reducible refine ib_ret ?_)
      exact x_res1 Tryz.results120 rfl
    · -- false
      rw [Bool.not_eq_false'] at hc
      rw [hc, Bool.true_and] at hall
      refine ic_skip ?_
      refine ic_region ?_
      refine x_op ?_
      refine x_op ?_
      refine x_op ?_
      refine il_nil ?_
      exact x_next (L.length - (i + 1)) ⟨i + 1, by omega, hall, rfl, rfl, rfl⟩ (by omega) -- round
  · -- false
    obtain rfl : i = L.length := by have := of_decide_eq_false hc; omega
    rw [List.drop_length] at hall
    rw [← hall]
    refine ic_exit ?_ -- 0
    refine ic_seq ?_
    refine ic_region ?_
    refine x_op ?_
    refine il_nil ?_
    refine ic_ret ?_
    repeat (first | with_reducible refine it_ret ?_ | with_reducible refine ib_ret ?_)
    exact x_res1 Tryz.results120 rfl
end Go.Proofs.YtokbhcnomffopaaGreatDoor
end

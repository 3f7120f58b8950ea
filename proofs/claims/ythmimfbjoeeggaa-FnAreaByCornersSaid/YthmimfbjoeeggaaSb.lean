/- What each function of the program gives on the abstract machine, part 2 of 2. Conditions: those in front of each theorem. -/
import Derived.Test.YthmimfbjoeeggaaSa
import Derived.KernelRfl

set_option linter.unusedVariables false
set_option linter.unusedSimpArgs false
namespace Go.Proofs.Ythmimfbjoeeggaa
open Go Go.Mv Go.Proofs
set_option maxRecDepth 100000

theorem keep_s_areaS : keepOf Try.f25 = [0, 1, 4, 5, 14, 6, 8, 7, 37, 10, 41, 9, 80] := by kernel_rfl
set_option maxHeartbeats 20000000 in
theorem s_areaS (xs ms : List Int) (hl : xs.length ≤ 1048576) (hl2 : ms.length ≤ 1048576) : CW cxT 25 [L xs, L ms] = some (.tup [F_Frac (arP xs ms), bV (bmk xs ms)], []) := by
  refine fn_intro rfl Try.func25 rfl ⟨by kernel_rfl, rfl, of_decide_eq_true rfl, of_decide_eq_true rfl, by decide⟩ keep_s_areaS ?_
  refine xa_seq ?_
  refine xa_region ?_
  refine x_alloc rfl (fun _ => slot_box rfl) (fun _ => rfl) ?_
  intro g4
  refine x_assign rfl rfl rfl ?_
  refine xr_nil ⟨nofun, [(.t 0, _), (.t 1, _), (.t 4, _), (.h 4, _)], ⟨rfl, rfl, rfl, rfl, rfl, rfl, rfl, rfl, trivial⟩, ?_⟩
  refine xa_seq ?_
  refine xa_seq ?_
  refine xa_region ?_
  refine x_move rfl rfl ?_
  refine x_move rfl rfl ?_
  apply x_call rfl
  · apply pa_cons
    · exact pa_plain rfl
    apply pa_cons
    · exact pa_plain rfl
    exact pa_nil
  · exact s_validCases xs ms hl hl2
  · exact ⟨rfl, rfl, rfl, of_decide_eq_true rfl, rfl⟩
  · exact .inl rfl
  · exact back_nil
  · exact inst_plain rfl
  · exact fun _ => rfl
  intro g13
  refine x_not rfl ?_
  refine xr_nil ⟨nofun, [(.t 0, _), (.t 1, _), (.t 4, _), (.t 14, _), (.h 4, _)], ⟨rfl, rfl, rfl, rfl, rfl, rfl, rfl, rfl, rfl, rfl, trivial⟩, ?_⟩
  refine xa_cond rfl (fun hc => ?_) (fun hc => ?_)
  · try simp only [decide_eq_true_eq, decide_eq_false_iff_not, Bool.not_eq_true', Bool.not_eq_false', bne_iff_ne, beq_iff_eq, ne_eq, Bool.not_true, Bool.not_false, beq_eq_false_iff_ne, bne_eq_false_iff_eq, Decidable.not_not, Int.not_lt, Int.not_le, Bool.and_eq_true, Bool.and_eq_false_iff, Bool.or_eq_true, Bool.or_eq_false_iff, List.length_map] at hc
    have hbm : ¬ bmk xs ms = true := fun h => by have := (bmk_iff.1 h).1; simp_all
    refine xa_seq ?_
    refine xa_region ?_
    refine x_build (fs := [_, _]) rfl rfl rfl rfl rfl ?_
    refine x_store_boxV rfl rfl rfl rfl ⟨by decide, rfl, of_decide_eq_true rfl, of_decide_eq_true rfl, rfl⟩ rfl (by exact slot_box rfl) ?_
    refine x_assign rfl rfl rfl ?_
    refine xr_nil ⟨nofun, [(.t 4, _), (.t 5, _), (.h 4, _)], ⟨rfl, rfl, rfl, rfl, rfl, rfl, trivial⟩, ?_⟩
    refine xa_ret ?_
    refine ret_tup (rl_cell rfl rfl rfl rfl rfl (rl_val rfl rfl (rl_nil outs_nil))) ?_
    rw [arP, if_neg hbm, Bool.eq_false_iff.2 hbm]
    rfl
  · try simp only [decide_eq_true_eq, decide_eq_false_iff_not, Bool.not_eq_true', Bool.not_eq_false', bne_iff_ne, beq_iff_eq, ne_eq, Bool.not_true, Bool.not_false, beq_eq_false_iff_ne, bne_eq_false_iff_eq, Decidable.not_not, Int.not_lt, Int.not_le, Bool.and_eq_true, Bool.and_eq_false_iff, Bool.or_eq_true, Bool.or_eq_false_iff, List.length_map] at hc
    have hvc : vca xs ms = true := by exact hc
    obtain ⟨h1, hl10, hxb, hml, hmb⟩ := vca_iff.1 hvc
    have hll0 := corR_len_le xs ms 0
    have hlp := corR_length xs ms 0
    have hll := corR_lens xs ms
    have hl1 := corR_last1 (xs := xs) (ms := ms) h1 hmb hml
    rw [hll] at hl1
    have hl0 := corR_last0 (xs := xs) (ms := ms) h1 hmb hml
    have hs01 := sum01 hmb
    refine xa_skip ?_
    refine xa_seq ?_
    refine xa_region ?_
    refine x_move rfl rfl ?_
    refine x_move rfl rfl ?_
    apply x_call rfl
    · apply pa_cons
      · exact pa_plain rfl
      apply pa_cons
      · exact pa_plain rfl
      exact pa_nil
    · exact s_cornersS xs ms h1 hl10 hxb hml hmb
    · exact ⟨rfl, rfl, rfl, of_decide_eq_true rfl, rfl⟩
    · exact .inr ⟨by simp [hasList, hasListL], rfl⟩
    · exact back_nil
    · exact inst_tupL (il_own fun _ => il_own fun _ => il_nil)
    · exact fun _ => rfl
    intro g19
    simp only [List.length_map]
    refine x_move rfl rfl ?_
    refine x_extract rfl rfl rfl ?_
    refine x_extract rfl rfl rfl ?_
    (refine x_assign_own rfl rfl (by (simp; done)) rfl (fun _ => (slot_obj (by exact noRef_map fun _ => rfl))) (fun _ => rfl) ?_; intro g6)
    (refine x_assign_own rfl rfl (by (simp; done)) rfl (fun _ => (slot_obj (by exact noRef_map fun _ => rfl))) (fun _ => rfl) ?_; intro g7)
    refine xr_nil ⟨nofun, [(.t 4, _), (.t 6, _), (.t 7, _), (.h 4, _), (.h 6, _), (.h 7, _)], ⟨rfl, rfl, rfl, rfl, rfl, rfl, rfl, rfl, rfl, rfl, rfl, rfl, trivial⟩, ?_⟩
    refine xa_seq ?_
    refine xa_region ?_
    refine x_move rfl rfl ?_
    refine x_len_sl rfl rfl ?_
    refine x_assign rfl rfl rfl ?_
    refine xr_nil ⟨nofun, [(.t 4, _), (.t 6, _), (.t 7, _), (.t 8, _), (.h 4, _), (.h 6, _), (.h 7, _)], ⟨rfl, rfl, rfl, rfl, rfl, rfl, rfl, rfl, rfl, rfl, rfl, rfl, rfl, rfl, trivial⟩, ?_⟩
    refine xa_seq ?_
    refine xa_seq ?_
    refine xa_region ?_
    refine x_move rfl rfl ?_
    refine x_move rfl rfl ?_
    refine x_sub rfl rfl (inI64 (by omega)) ?_
    rw [show (((corR xs ms 0).length : Int) - 1) = (((corR xs ms 0).length - 1 : Nat) : Int) by omega]
    refine x_index_slN rfl rfl rfl rfl (by omega) (by (simp; done)) rfl ?_
    refine x_load_mapV rfl rfl (by omega) (fun _ => rfl) (fun _ => rfl) rfl ?_
    rw [hl0]
    refine x_eql rfl rfl ?_
    refine x_move rfl rfl ?_
    refine x_guard_split rfl rfl (fun hg0 => ?_) (fun hg0 => ?_)
    · have hg := hg0; try simp only [decide_eq_true_eq, decide_eq_false_iff_not, Bool.not_eq_true', Bool.not_eq_false', bne_iff_ne, beq_iff_eq, ne_eq, Bool.not_true, Bool.not_false, beq_eq_false_iff_ne, bne_eq_false_iff_eq, Decidable.not_not, Int.not_lt, Int.not_le, Bool.and_eq_true, Bool.and_eq_false_iff, Bool.or_eq_true, Bool.or_eq_false_iff] at hg
      refine x_move rfl rfl ?_
      refine x_guard_t rfl rfl (by assumption) ?_
      refine x_move rfl rfl ?_
      refine x_guard_t rfl rfl (by assumption) ?_
      refine x_sub rfl rfl (inI64 (by omega)) ?_
      refine x_guard_t rfl rfl (by assumption) ?_
      rw [show (((corR xs ms 0).length : Int) - 1) = (((corR xs ms 0).length - 1 : Nat) : Int) by omega]
      refine x_index_slN rfl rfl rfl rfl (by omega) (by (simp; done)) rfl ?_
      refine x_guard_t rfl rfl (by assumption) ?_
      refine x_load_mapV rfl rfl (by omega) (fun _ => rfl) (fun _ => rfl) rfl ?_
      refine x_guard_t rfl rfl (by assumption) ?_
      rw [hl1]
      refine x_eql rfl rfl ?_
      refine x_pick_f rfl (by assumption) rfl rfl ?_
      refine xr_nil ⟨nofun, [(.t 4, _), (.t 6, _), (.t 7, _), (.t 8, _), (.t 37, _), (.h 4, _), (.h 6, _), (.h 7, _)], ⟨rfl, rfl, rfl, rfl, rfl, rfl, rfl, rfl, rfl, rfl, rfl, rfl, rfl, rfl, rfl, rfl, trivial⟩, ?_⟩
      refine xa_cond rfl (fun hc => ?_) (fun hc => ?_)
      · try simp only [decide_eq_true_eq, decide_eq_false_iff_not, Bool.not_eq_true', Bool.not_eq_false', bne_iff_ne, beq_iff_eq, ne_eq, Bool.not_true, Bool.not_false, beq_eq_false_iff_ne, bne_eq_false_iff_eq, Decidable.not_not, Int.not_lt, Int.not_le, Bool.and_eq_true, Bool.and_eq_false_iff, Bool.or_eq_true, Bool.or_eq_false_iff, List.length_map] at hc
        refine xa_seq ?_
        refine xa_region ?_
        refine x_build (fs := [_, _]) rfl rfl rfl rfl rfl ?_
        refine x_store_boxV rfl rfl rfl rfl ⟨by decide, rfl, of_decide_eq_true rfl, of_decide_eq_true rfl, rfl⟩ rfl (by exact slot_box rfl) ?_
        refine x_assign rfl rfl rfl ?_
        refine xr_nil ⟨nofun, [(.t 4, _), (.t 5, _), (.h 4, _)], ⟨rfl, rfl, rfl, rfl, rfl, rfl, trivial⟩, ?_⟩
        refine xa_ret ?_
        refine ret_tup (rl_cell rfl rfl rfl rfl rfl (rl_val rfl rfl (rl_nil outs_nil))) ?_
        have hbm : ¬ bmk xs ms = true := fun h => by have h2 := bmk_iff.1 h; have h3 := (mem1_iff hmb).1 h2.2.2; have h4 := (mem0_iff hmb).1 h2.2.1; omega
        rw [arP, if_neg hbm, Bool.eq_false_iff.2 hbm]
        rfl
      · try simp only [decide_eq_true_eq, decide_eq_false_iff_not, Bool.not_eq_true', Bool.not_eq_false', bne_iff_ne, beq_iff_eq, ne_eq, Bool.not_true, Bool.not_false, beq_eq_false_iff_ne, bne_eq_false_iff_eq, Decidable.not_not, Int.not_lt, Int.not_le, Bool.and_eq_true, Bool.and_eq_false_iff, Bool.or_eq_true, Bool.or_eq_false_iff, List.length_map] at hc
        have hm1 : (1 : Int) ∈ ms := (mem1_iff hmb).2 (by omega)
        have hm0 : (0 : Int) ∈ ms := (mem0_iff hmb).2 (by omega)
        have hbm : bmk xs ms = true := bmk_iff.2 ⟨hvc, hm0, hm1⟩
        have hs1 := (mem1_iff hmb).1 hm1
        have hs0 := (mem0_iff hmb).1 hm0
        rw [hml] at hs0
        have hdb := den_bd hs0 hs1 (by omega)
        refine xa_skip ?_
        refine xa_seq ?_
        refine xa_region ?_
        refine x_assign rfl rfl rfl ?_
        refine xr_nil ⟨nofun, [(.t 4, _), (.t 6, _), (.t 7, _), (.t 8, _), (.t 9, _), (.h 4, _), (.h 6, _), (.h 7, _)], ⟨rfl, rfl, rfl, rfl, rfl, rfl, rfl, rfl, rfl, rfl, rfl, rfl, rfl, rfl, rfl, rfl, trivial⟩, ?_⟩
        refine xa_seq ?_
        refine xa_seq ?_
        refine xa_region ?_
        refine x_assign rfl rfl rfl ?_
        refine xr_nil ⟨nofun, [(.t 4, _), (.t 6, _), (.t 7, _), (.t 8, _), (.t 9, _), (.t 10, _), (.h 4, _), (.h 6, _), (.h 7, _)], ⟨rfl, rfl, rfl, rfl, rfl, rfl, rfl, rfl, rfl, rfl, rfl, rfl, rfl, rfl, rfl, rfl, rfl, rfl, trivial⟩, ?_⟩
        refine xa_block ?_
        refine xa_loopK (β := Nat) [(.t 4, _), (.t 6, _), (.t 7, _), (.t 8, _), (.h 4, _), (.h 6, _), (.h 7, _)] (fun (k : Nat) => [(.t 10, iV ((k + 1 : Nat) : Int)), (.t 9, iV (arU xs ms k))]) (fun (k : Nat) => k + 1 ≤ (corR xs ms 0).length) (fun (k : Nat) => (corR xs ms 0).length - k) 0 ⟨rfl, rfl, rfl, rfl, rfl, rfl, rfl, rfl, rfl, trivial⟩ (by omega) ?_
        intro k hb
        have hk1 := hb
        have hkb := arU_bd ms hl10 k
        have hks := ar_step ms hl10 k
        have hz1 := corR_bd xs ms 0 (k + 1)
        have hz2 := corR_bd xs ms 0 k
        have hz3 := corR_bd xs ms 1 (k + 1)
        have hz4 := corR_bd xs ms 1 k
        refine xa_seq ?_
        refine xa_seq ?_
        refine xa_region ?_
        refine x_move rfl rfl ?_
        refine x_move rfl rfl ?_
        refine x_lss rfl rfl ?_
        refine xr_nil ⟨nofun, [(.t 4, _), (.t 6, _), (.t 7, _), (.t 8, _), (.t 9, _), (.t 10, _), (.t 41, _), (.h 4, _), (.h 6, _), (.h 7, _)], ⟨rfl, rfl, rfl, rfl, rfl, rfl, rfl, rfl, rfl, rfl, rfl, rfl, rfl, rfl, rfl, rfl, rfl, rfl, rfl, rfl, trivial⟩, ?_⟩
        refine xa_cond rfl (fun hc => ?_) (fun hc => ?_)
        · try simp only [decide_eq_true_eq, decide_eq_false_iff_not, Bool.not_eq_true', Bool.not_eq_false', bne_iff_ne, beq_iff_eq, ne_eq, Bool.not_true, Bool.not_false, beq_eq_false_iff_ne, bne_eq_false_iff_eq, Decidable.not_not, Int.not_lt, Int.not_le, Bool.and_eq_true, Bool.and_eq_false_iff, Bool.or_eq_true, Bool.or_eq_false_iff, List.length_map] at hc
          refine xa_skip ?_
          refine xa_seq ?_
          refine xa_block ?_
          refine xa_region ?_
          refine x_move rfl rfl ?_
          refine x_move rfl rfl ?_
          refine x_move rfl rfl ?_
          refine x_index_slN rfl rfl rfl rfl (by omega) (by (simp; done)) rfl ?_
          refine x_load_mapV rfl rfl (by omega) (fun _ => rfl) (fun _ => rfl) rfl ?_
          refine x_move rfl rfl ?_
          refine x_move rfl rfl ?_
          refine x_sub rfl rfl (inI64 (by omega)) ?_
          rw [show (((k + 1 : Nat) : Int) - 1) = (k : Int) by omega]
          refine x_index_slN rfl rfl rfl rfl (by omega) (by (simp; done)) rfl ?_
          refine x_load_mapV rfl rfl (by omega) (fun _ => rfl) (fun _ => rfl) rfl ?_
          refine x_sub rfl rfl (inI64 (by omega)) ?_
          refine x_move rfl rfl ?_
          refine x_move rfl rfl ?_
          refine x_index_slN rfl rfl rfl rfl (by omega) (by (simp; done)) rfl ?_
          refine x_load_mapV rfl rfl (by omega) (fun _ => rfl) (fun _ => rfl) rfl ?_
          refine x_move rfl rfl ?_
          refine x_move rfl rfl ?_
          refine x_sub rfl rfl (inI64 (by omega)) ?_
          rw [show (((k + 1 : Nat) : Int) - 1) = (k : Int) by omega]
          refine x_index_slN rfl rfl rfl rfl (by omega) (by (simp; done)) rfl ?_
          refine x_load_mapV rfl rfl (by omega) (fun _ => rfl) (fun _ => rfl) rfl ?_
          refine x_add rfl rfl (inI64 (by omega)) ?_
          refine x_mul rfl rfl (inI64 (by omega)) ?_
          refine x_add rfl rfl (inI64 (by omega)) ?_
          refine x_assign rfl rfl rfl ?_
          refine xr_nil ⟨fun _ => ⟨by decide +kernel, by decide +kernel⟩, [(.t 4, _), (.t 6, _), (.t 7, _), (.t 8, _), (.t 9, _), (.t 10, _), (.h 4, _), (.h 6, _), (.h 7, _)], ⟨rfl, rfl, rfl, rfl, rfl, rfl, rfl, rfl, rfl, rfl, rfl, rfl, rfl, rfl, rfl, rfl, rfl, rfl, trivial⟩, ?_⟩
          refine xa_region ?_
          refine x_move rfl rfl ?_
          refine x_add rfl rfl (inI64 (by omega)) ?_
          refine x_assign rfl rfl rfl ?_
          refine xr_nil ⟨nofun, [(.t 4, _), (.t 6, _), (.t 7, _), (.t 8, _), (.t 9, _), (.t 10, _), (.h 4, _), (.h 6, _), (.h 7, _)], ⟨rfl, rfl, rfl, rfl, rfl, rfl, rfl, rfl, rfl, rfl, rfl, rfl, rfl, rfl, rfl, rfl, rfl, rfl, trivial⟩, ?_⟩
          refine ⟨k + 1, (by omega), (by omega), ⟨rfl, rfl, rfl, rfl, rfl, rfl, rfl, rfl, rfl, trivial⟩⟩
        · try simp only [decide_eq_true_eq, decide_eq_false_iff_not, Bool.not_eq_true', Bool.not_eq_false', bne_iff_ne, beq_iff_eq, ne_eq, Bool.not_true, Bool.not_false, beq_eq_false_iff_ne, bne_eq_false_iff_eq, Decidable.not_not, Int.not_lt, Int.not_le, Bool.and_eq_true, Bool.and_eq_false_iff, Bool.or_eq_true, Bool.or_eq_false_iff, List.length_map] at hc
          refine xa_exit ?_
          refine xa_seq ?_
          refine xa_region ?_
          refine x_move rfl rfl ?_
          refine x_move rfl rfl ?_
          refine x_move rfl rfl ?_
          refine x_sub rfl rfl (inI64 (by omega)) ?_
          rw [show (((corR xs ms 0).length : Int) - 1) = (((corR xs ms 0).length - 1 : Nat) : Int) by omega]
          refine x_index_slN rfl rfl rfl rfl (by omega) (by (simp; done)) rfl ?_
          refine x_load_mapV rfl rfl (by omega) (fun _ => rfl) (fun _ => rfl) rfl ?_
          rw [hl0]
          refine x_mul rfl rfl (inI64 (by omega)) ?_
          refine x_move rfl rfl ?_
          refine x_move rfl rfl ?_
          refine x_sub rfl rfl (inI64 (by omega)) ?_
          rw [show (((corR xs ms 0).length : Int) - 1) = (((corR xs ms 0).length - 1 : Nat) : Int) by omega]
          refine x_index_slN rfl rfl rfl rfl (by omega) (by (simp; done)) rfl ?_
          refine x_load_mapV rfl rfl (by omega) (fun _ => rfl) (fun _ => rfl) rfl ?_
          rw [hl1]
          refine x_mul rfl rfl (inI64 (by omega)) ?_
          apply x_call rfl
          · apply pa_cons
            · exact pa_plain rfl
            apply pa_cons
            · exact pa_plain rfl
            exact pa_nil
          · exact s_fracS (arU xs ms k) (2 * ((xs.length : Int) - ms.sum) * ms.sum) (by omega) (by omega) (by omega)
          · exact ⟨rfl, rfl, rfl, of_decide_eq_true rfl, rfl⟩
          · exact .inl rfl
          · exact back_nil
          · exact inst_plain rfl
          · exact fun _ => rfl
          intro g80
          refine x_store_boxV rfl rfl rfl rfl ⟨by decide, rfl, of_decide_eq_true rfl, of_decide_eq_true rfl, rfl⟩ rfl (by exact slot_box rfl) ?_
          refine x_assign rfl rfl rfl ?_
          refine xr_nil ⟨fun _ => ⟨by (simp only [wmap, List.nil_append, List.append_nil, List.map_cons, List.map_nil, List.cons_append]; decide +kernel), by decide +kernel⟩, [(.t 4, _), (.t 5, _), (.h 4, _)], ⟨rfl, rfl, rfl, rfl, rfl, rfl, trivial⟩, ?_⟩
          refine xa_ret ?_
          refine ret_tup (rl_cell rfl rfl rfl rfl rfl (rl_val rfl rfl (rl_nil outs_nil))) ?_
          rw [arP, if_pos hbm, hbm, arQ, show (corR xs ms 0).length - 1 = k by omega]
          rfl
    · have hg := hg0; try simp only [decide_eq_true_eq, decide_eq_false_iff_not, Bool.not_eq_true', Bool.not_eq_false', bne_iff_ne, beq_iff_eq, ne_eq, Bool.not_true, Bool.not_false, beq_eq_false_iff_ne, bne_eq_false_iff_eq, Decidable.not_not, Int.not_lt, Int.not_le, Bool.and_eq_true, Bool.and_eq_false_iff, Bool.or_eq_true, Bool.or_eq_false_iff] at hg
      refine x_guard_f rfl rfl (by assumption) ?_
      refine x_guard_f rfl rfl (by assumption) ?_
      refine x_guard_f rfl rfl (by assumption) ?_
      refine x_guard_f rfl rfl (by assumption) ?_
      refine x_guard_f rfl rfl (by assumption) ?_
      refine x_pick_t rfl (by assumption) rfl rfl ?_
      refine xr_nil ⟨nofun, [(.t 4, _), (.t 6, _), (.t 7, _), (.t 8, _), (.t 37, _), (.h 4, _), (.h 6, _), (.h 7, _)], ⟨rfl, rfl, rfl, rfl, rfl, rfl, rfl, rfl, rfl, rfl, rfl, rfl, rfl, rfl, rfl, rfl, trivial⟩, ?_⟩
      refine xa_cond rfl (fun hc => ?_) (fun hc => absurd hc (by decide))
      refine xa_seq ?_
      refine xa_region ?_
      refine x_build (fs := [_, _]) rfl rfl rfl rfl rfl ?_
      refine x_store_boxV rfl rfl rfl rfl ⟨by decide, rfl, of_decide_eq_true rfl, of_decide_eq_true rfl, rfl⟩ rfl (by exact slot_box rfl) ?_
      refine x_assign rfl rfl rfl ?_
      refine xr_nil ⟨nofun, [(.t 4, _), (.t 5, _), (.h 4, _)], ⟨rfl, rfl, rfl, rfl, rfl, rfl, trivial⟩, ?_⟩
      refine xa_ret ?_
      refine ret_tup (rl_cell rfl rfl rfl rfl rfl (rl_val rfl rfl (rl_nil outs_nil))) ?_
      have hbm : ¬ bmk xs ms = true := fun h => by have h2 := bmk_iff.1 h; have h3 := (mem1_iff hmb).1 h2.2.2; have h4 := (mem0_iff hmb).1 h2.2.1; omega
      rw [arP, if_neg hbm, Bool.eq_false_iff.2 hbm]
      rfl

theorem keep_s_sign : keepOf Try.f66 = [0, 2] := by kernel_rfl
set_option maxHeartbeats 20000000 in
theorem s_sign (n : Int) : CW cxT 66 [iV n] = some (iV (max (-1) (min 1 n)), []) := by
  refine fn_intro rfl Try.func66 rfl ⟨by kernel_rfl, rfl, of_decide_eq_true rfl, of_decide_eq_true rfl, by decide⟩ keep_s_sign ?_
  refine xa_seq ?_
  refine xa_region ?_
  refine x_assign rfl rfl rfl ?_
  refine xr_nil ⟨nofun, [(.t 0, _)], ⟨rfl, rfl, trivial⟩, ?_⟩
  refine xa_seq ?_
  refine xa_region ?_
  refine x_move rfl rfl ?_
  refine x_min rfl rfl ?_
  refine x_max rfl rfl ?_
  refine x_assign rfl rfl rfl ?_
  refine xr_nil ⟨nofun, [(.t 2, _)], ⟨rfl, rfl, trivial⟩, ?_⟩
  refine xa_ret ?_
  refine ret_val' rfl rfl trivial ?_
  rfl

theorem keep_s_samples : keepOf Try.f69 = [0, 1, 4] := by kernel_rfl
set_option maxHeartbeats 20000000 in
theorem s_samples (a b : List Int) (ha : 1 ≤ a.length) (hb0 : 1 ≤ b.length) (hl : a.length + b.length ≤ 10) (hva : vd a = true) (hvb : vd b = true) : CW cxT 69 [L a, L b] = some (bV true, []) := by
  refine fn_intro rfl Try.func69 rfl ⟨by kernel_rfl, rfl, of_decide_eq_true rfl, of_decide_eq_true rfl, by decide⟩ keep_s_samples ?_
  refine xa_seq ?_
  refine xa_region ?_
  refine x_assign rfl rfl rfl ?_
  refine xr_nil ⟨nofun, [(.t 0, _), (.t 1, _)], ⟨rfl, rfl, rfl, rfl, trivial⟩, ?_⟩
  refine xa_seq ?_
  refine xa_region ?_
  refine x_move rfl rfl ?_
  refine x_len_map rfl rfl ?_
  refine x_gtr rfl rfl ?_
  refine x_move rfl rfl ?_
  refine x_guard_split rfl rfl (fun hg0 => ?_) (fun hg0 => ?_)
  · have hg := hg0; try simp only [decide_eq_true_eq, decide_eq_false_iff_not, Bool.not_eq_true', Bool.not_eq_false', bne_iff_ne, beq_iff_eq, ne_eq, Bool.not_true, Bool.not_false, beq_eq_false_iff_ne, bne_eq_false_iff_eq, Decidable.not_not, Int.not_lt, Int.not_le, Bool.and_eq_true, Bool.and_eq_false_iff, Bool.or_eq_true, Bool.or_eq_false_iff] at hg
    refine x_move rfl rfl ?_
    refine x_guard_t rfl rfl (by assumption) ?_
    refine x_len_map rfl rfl ?_
    refine x_guard_t rfl rfl (by assumption) ?_
    refine x_gtr rfl rfl ?_
    refine x_pick_t rfl (by assumption) rfl rfl ?_
    refine x_move rfl rfl ?_
    refine x_guard_split rfl rfl (fun hg0 => ?_) (fun hg0 => ?_)
    · have hg := hg0; try simp only [decide_eq_true_eq, decide_eq_false_iff_not, Bool.not_eq_true', Bool.not_eq_false', bne_iff_ne, beq_iff_eq, ne_eq, Bool.not_true, Bool.not_false, beq_eq_false_iff_ne, bne_eq_false_iff_eq, Decidable.not_not, Int.not_lt, Int.not_le, Bool.and_eq_true, Bool.and_eq_false_iff, Bool.or_eq_true, Bool.or_eq_false_iff] at hg
      refine x_move rfl rfl ?_
      refine x_guard_t rfl rfl (by assumption) ?_
      refine x_len_map rfl rfl ?_
      refine x_guard_t rfl rfl (by assumption) ?_
      refine x_move rfl rfl ?_
      refine x_guard_t rfl rfl (by assumption) ?_
      refine x_len_map rfl rfl ?_
      refine x_guard_t rfl rfl (by assumption) ?_
      refine x_add rfl rfl (inI64 (by omega)) ?_
      refine x_guard_t rfl rfl (by assumption) ?_
      refine x_leq rfl rfl ?_
      refine x_pick_t rfl (by assumption) rfl rfl ?_
      refine x_move rfl rfl ?_
      refine x_guard_split rfl rfl (fun hg0 => ?_) (fun hg0 => ?_)
      · have hg := hg0; try simp only [decide_eq_true_eq, decide_eq_false_iff_not, Bool.not_eq_true', Bool.not_eq_false', bne_iff_ne, beq_iff_eq, ne_eq, Bool.not_true, Bool.not_false, beq_eq_false_iff_ne, bne_eq_false_iff_eq, Decidable.not_not, Int.not_lt, Int.not_le, Bool.and_eq_true, Bool.and_eq_false_iff, Bool.or_eq_true, Bool.or_eq_false_iff] at hg
        refine x_move rfl rfl ?_
        refine x_guard_t rfl rfl (by assumption) ?_
        apply x_call rfl
        · apply pa_cons
          · exact pa_plain rfl
          exact pa_nil
        · exact s_validDataI a (by omega)
        · exact ⟨rfl, rfl, rfl, of_decide_eq_true rfl, rfl⟩
        · exact .inl rfl
        · exact back_nil
        · exact inst_plain rfl
        · exact fun _ => rfl
        intro g23
        rw [hva]
        refine x_pick_t rfl (by assumption) rfl rfl ?_
        refine x_move rfl rfl ?_
        refine x_guard_t rfl rfl (by rfl) ?_
        refine x_move rfl rfl ?_
        refine x_guard_t rfl rfl (by rfl) ?_
        apply x_call rfl
        · apply pa_cons
          · exact pa_plain rfl
          exact pa_nil
        · exact s_validDataI b (by omega)
        · exact ⟨rfl, rfl, rfl, of_decide_eq_true rfl, rfl⟩
        · exact .inl rfl
        · exact back_nil
        · exact inst_plain rfl
        · exact fun _ => rfl
        intro g27
        rw [hvb]
        refine x_pick_t rfl (by rfl) rfl rfl ?_
        refine x_assign rfl rfl rfl ?_
        refine xr_nil ⟨nofun, [(.t 4, _)], ⟨rfl, rfl, trivial⟩, ?_⟩
        refine xa_ret ?_
        refine ret_val' rfl rfl trivial ?_
        rfl
      · have hg := hg0; try simp only [decide_eq_true_eq, decide_eq_false_iff_not, Bool.not_eq_true', Bool.not_eq_false', bne_iff_ne, beq_iff_eq, ne_eq, Bool.not_true, Bool.not_false, beq_eq_false_iff_ne, bne_eq_false_iff_eq, Decidable.not_not, Int.not_lt, Int.not_le, Bool.and_eq_true, Bool.and_eq_false_iff, Bool.or_eq_true, Bool.or_eq_false_iff] at hg
        refine x_guard_f rfl rfl (by assumption) ?_
        refine x_pick_f rfl (by assumption) rfl rfl ?_
        refine x_move rfl rfl ?_
        refine x_guard_f rfl rfl (by rfl) ?_
        refine x_guard_f rfl rfl (by rfl) ?_
        refine x_pick_f rfl (by rfl) rfl rfl ?_
        refine x_assign rfl rfl rfl ?_
        refine xr_nil ⟨nofun, [(.t 4, _)], ⟨rfl, rfl, trivial⟩, ?_⟩
        refine xa_ret ?_
        refine ret_val' rfl rfl trivial ?_
        (exfalso; omega)
    · have hg := hg0; try simp only [decide_eq_true_eq, decide_eq_false_iff_not, Bool.not_eq_true', Bool.not_eq_false', bne_iff_ne, beq_iff_eq, ne_eq, Bool.not_true, Bool.not_false, beq_eq_false_iff_ne, bne_eq_false_iff_eq, Decidable.not_not, Int.not_lt, Int.not_le, Bool.and_eq_true, Bool.and_eq_false_iff, Bool.or_eq_true, Bool.or_eq_false_iff] at hg
      refine x_guard_f rfl rfl (by assumption) ?_
      refine x_guard_f rfl rfl (by assumption) ?_
      refine x_guard_f rfl rfl (by assumption) ?_
      refine x_guard_f rfl rfl (by assumption) ?_
      refine x_guard_f rfl rfl (by assumption) ?_
      refine x_pick_f rfl (by assumption) rfl rfl ?_
      refine x_move rfl rfl ?_
      refine x_guard_f rfl rfl (by rfl) ?_
      refine x_guard_f rfl rfl (by rfl) ?_
      refine x_pick_f rfl (by rfl) rfl rfl ?_
      refine x_move rfl rfl ?_
      refine x_guard_f rfl rfl (by rfl) ?_
      refine x_guard_f rfl rfl (by rfl) ?_
      refine x_pick_f rfl (by rfl) rfl rfl ?_
      refine x_assign rfl rfl rfl ?_
      refine xr_nil ⟨nofun, [(.t 4, _)], ⟨rfl, rfl, trivial⟩, ?_⟩
      refine xa_ret ?_
      refine ret_val' rfl rfl trivial ?_
      (exfalso; omega)
  · have hg := hg0; try simp only [decide_eq_true_eq, decide_eq_false_iff_not, Bool.not_eq_true', Bool.not_eq_false', bne_iff_ne, beq_iff_eq, ne_eq, Bool.not_true, Bool.not_false, beq_eq_false_iff_ne, bne_eq_false_iff_eq, Decidable.not_not, Int.not_lt, Int.not_le, Bool.and_eq_true, Bool.and_eq_false_iff, Bool.or_eq_true, Bool.or_eq_false_iff] at hg
    refine x_guard_f rfl rfl (by assumption) ?_
    refine x_guard_f rfl rfl (by assumption) ?_
    refine x_pick_f rfl (by assumption) rfl rfl ?_
    refine x_move rfl rfl ?_
    refine x_guard_f rfl rfl (by rfl) ?_
    refine x_guard_f rfl rfl (by rfl) ?_
    refine x_guard_f rfl rfl (by rfl) ?_
    refine x_guard_f rfl rfl (by rfl) ?_
    refine x_guard_f rfl rfl (by rfl) ?_
    refine x_guard_f rfl rfl (by rfl) ?_
    refine x_pick_f rfl (by rfl) rfl rfl ?_
    refine x_move rfl rfl ?_
    refine x_guard_f rfl rfl (by rfl) ?_
    refine x_guard_f rfl rfl (by rfl) ?_
    refine x_pick_f rfl (by rfl) rfl rfl ?_
    refine x_move rfl rfl ?_
    refine x_guard_f rfl rfl (by rfl) ?_
    refine x_guard_f rfl rfl (by rfl) ?_
    refine x_pick_f rfl (by rfl) rfl rfl ?_
    refine x_assign rfl rfl rfl ?_
    refine xr_nil ⟨nofun, [(.t 4, _)], ⟨rfl, rfl, trivial⟩, ?_⟩
    refine xa_ret ?_
    refine ret_val' rfl rfl trivial ?_
    (exfalso; omega)

theorem keep_s_winsOf : keepOf Try.f47 = [0, 1, 4, 13, 16, 15, 17, 14, 22, 21, 23, 20, 9, 7, 5] := by kernel_rfl
set_option maxHeartbeats 20000000 in
theorem s_winsOf (a b : List Int) (ha : 1 ≤ a.length) (hb0 : 1 ≤ b.length) (hl : a.length + b.length ≤ 10) (hva : vd a = true) (hvb : vd b = true) : CW cxT 47 [L a, L b] = some (iV (wnL a b), []) := by
  have hab : ∀ x ∈ a, -200 ≤ x ∧ x ≤ 200 := fun x hx => allB_mem (vd_all hva) hx
  have hbb : ∀ x ∈ b, -200 ≤ x ∧ x ≤ 200 := fun x hx => allB_mem (vd_all hvb) hx
  refine fn_intro rfl Try.func47 rfl ⟨by kernel_rfl, rfl, of_decide_eq_true rfl, of_decide_eq_true rfl, by decide⟩ keep_s_winsOf ?_
  refine xa_seq ?_
  refine xa_region ?_
  refine x_assign rfl rfl rfl ?_
  refine xr_nil ⟨nofun, [(.t 0, _), (.t 1, _)], ⟨rfl, rfl, rfl, rfl, trivial⟩, ?_⟩
  refine xa_seq ?_
  refine xa_seq ?_
  refine xa_region ?_
  refine x_move rfl rfl ?_
  refine x_move rfl rfl ?_
  apply x_call rfl
  · apply pa_cons
    · exact pa_plain rfl
    apply pa_cons
    · exact pa_plain rfl
    exact pa_nil
  · exact s_samples a b ha hb0 hl hva hvb
  · exact ⟨rfl, rfl, rfl, of_decide_eq_true rfl, rfl⟩
  · exact .inl rfl
  · exact back_nil
  · exact inst_plain rfl
  · exact fun _ => rfl
  intro g12
  refine x_not rfl ?_
  refine xr_nil ⟨nofun, [(.t 0, _), (.t 1, _), (.t 13, _)], ⟨rfl, rfl, rfl, rfl, rfl, rfl, trivial⟩, ?_⟩
  refine xa_cond rfl (fun hc => absurd hc (by decide)) (fun hc => ?_)
  refine xa_skip ?_
  refine xa_seq ?_
  refine xa_region ?_
  refine x_assign rfl rfl rfl ?_
  refine xr_nil ⟨nofun, [(.t 0, _), (.t 1, _), (.t 5, _)], ⟨rfl, rfl, rfl, rfl, rfl, rfl, trivial⟩, ?_⟩
  refine xa_seq ?_
  refine xa_seq ?_
  refine xa_region ?_
  refine x_move rfl rfl ?_
  refine x_len_map rfl rfl ?_
  refine x_move rfl rfl ?_
  refine xr_nil ⟨nofun, [(.t 1, _), (.t 5, _), (.t 14, _), (.t 15, _), (.t 16, _)], ⟨rfl, rfl, rfl, rfl, rfl, rfl, rfl, rfl, rfl, rfl, trivial⟩, ?_⟩
  refine xa_block ?_
  refine xa_loopK (β := Nat × Int) [(.t 1, _), (.t 14, _), (.t 15, _)] (fun (z : Nat × Int) => match z with | (i, u) => [(.t 16, iV i), (.t 5, iV u)]) (fun (z : Nat × Int) => match z with | (i, u) => i ≤ a.length ∧ u = wnU a b i) (fun (z : Nat × Int) => match z with | (i, u) => a.length - i) (0, 0) ⟨rfl, rfl, rfl, rfl, rfl, trivial⟩ ⟨Nat.zero_le _, rfl⟩ ?_
  intro z hb
  obtain ⟨i, u⟩ := z
  try dsimp only at hb
  obtain ⟨hi1, hu⟩ := hb
  have hub := wnU_bd (a := a) (b := b) (by omega) i
  refine xa_seq ?_
  refine xa_region ?_
  refine x_lss rfl rfl ?_
  refine xr_nil ⟨nofun, [(.t 1, _), (.t 5, _), (.t 14, _), (.t 15, _), (.t 16, _), (.t 17, _)], ⟨rfl, rfl, rfl, rfl, rfl, rfl, rfl, rfl, rfl, rfl, rfl, rfl, trivial⟩, ?_⟩
  refine xa_seq ?_
  refine xa_cond rfl (fun hc => ?_) (fun hc => ?_)
  · try simp only [decide_eq_true_eq, decide_eq_false_iff_not, Bool.not_eq_true', Bool.not_eq_false', bne_iff_ne, beq_iff_eq, ne_eq, Bool.not_true, Bool.not_false, beq_eq_false_iff_ne, bne_eq_false_iff_eq, Decidable.not_not, Int.not_lt, Int.not_le, Bool.and_eq_true, Bool.and_eq_false_iff, Bool.or_eq_true, Bool.or_eq_false_iff, List.length_map] at hc
    refine xa_skip ?_
    refine xa_seq ?_
    refine xa_block ?_
    refine xa_seq ?_
    refine xa_region ?_
    refine x_index_listN rfl rfl rfl (fun _ => rfl) (by omega) ?_
    refine x_load_iptV rfl rfl rfl ?_
    refine x_assign rfl rfl rfl ?_
    refine xr_nil ⟨nofun, [(.t 1, _), (.t 5, _), (.t 7, _), (.t 14, _), (.t 15, _), (.t 16, _)], ⟨rfl, rfl, rfl, rfl, rfl, rfl, rfl, rfl, rfl, rfl, rfl, rfl, trivial⟩, ?_⟩
    refine xa_seq ?_
    refine xa_region ?_
    refine x_move rfl rfl ?_
    refine x_len_map rfl rfl ?_
    refine x_move rfl rfl ?_
    refine xr_nil ⟨nofun, [(.t 1, _), (.t 5, _), (.t 7, _), (.t 14, _), (.t 15, _), (.t 16, _), (.t 20, _), (.t 21, _), (.t 22, _)], ⟨rfl, rfl, rfl, rfl, rfl, rfl, rfl, rfl, rfl, rfl, rfl, rfl, rfl, rfl, rfl, rfl, rfl, rfl, trivial⟩, ?_⟩
    refine xa_block ?_
    refine xa_loopK (β := Nat × Int) [(.t 1, _), (.t 7, _), (.t 14, _), (.t 15, _), (.t 16, _), (.t 20, _), (.t 21, _)] (fun (z : Nat × Int) => match z with | (k, u2) => [(.t 22, iV k), (.t 5, iV u2)]) (fun (z : Nat × Int) => match z with | (k, u2) => k ≤ b.length ∧ u2 = u + rwU b (a.getD i default) k) (fun (z : Nat × Int) => match z with | (k, u2) => b.length - k) (0, u) ⟨rfl, rfl, rfl, rfl, rfl, rfl, rfl, rfl, rfl, trivial⟩ ⟨Nat.zero_le _, by simp [rwU]⟩ ?_
    intro z hb
    obtain ⟨k, u2⟩ := z
    try dsimp only at hb
    obtain ⟨hk1, hu2⟩ := hb
    have hub2 := rwU_bd b (a.getD i default) k
    refine xa_seq ?_
    refine xa_region ?_
    refine x_lss rfl rfl ?_
    refine xr_nil ⟨nofun, [(.t 1, _), (.t 5, _), (.t 7, _), (.t 14, _), (.t 15, _), (.t 16, _), (.t 20, _), (.t 21, _), (.t 22, _), (.t 23, _)], ⟨rfl, rfl, rfl, rfl, rfl, rfl, rfl, rfl, rfl, rfl, rfl, rfl, rfl, rfl, rfl, rfl, rfl, rfl, rfl, rfl, trivial⟩, ?_⟩
    refine xa_seq ?_
    refine xa_cond rfl (fun hc => ?_) (fun hc => ?_)
    · try simp only [decide_eq_true_eq, decide_eq_false_iff_not, Bool.not_eq_true', Bool.not_eq_false', bne_iff_ne, beq_iff_eq, ne_eq, Bool.not_true, Bool.not_false, beq_eq_false_iff_ne, bne_eq_false_iff_eq, Decidable.not_not, Int.not_lt, Int.not_le, Bool.and_eq_true, Bool.and_eq_false_iff, Bool.or_eq_true, Bool.or_eq_false_iff, List.length_map] at hc
      refine xa_skip ?_
      refine xa_seq ?_
      refine xa_block ?_
      refine xa_seq ?_
      refine xa_region ?_
      refine x_index_listN rfl rfl rfl (fun _ => rfl) (by omega) ?_
      refine x_load_iptV rfl rfl rfl ?_
      refine x_assign rfl rfl rfl ?_
      refine xr_nil ⟨nofun, [(.t 1, _), (.t 5, _), (.t 7, _), (.t 9, _), (.t 14, _), (.t 15, _), (.t 16, _), (.t 20, _), (.t 21, _), (.t 22, _)], ⟨rfl, rfl, rfl, rfl, rfl, rfl, rfl, rfl, rfl, rfl, rfl, rfl, rfl, rfl, rfl, rfl, rfl, rfl, rfl, rfl, trivial⟩, ?_⟩
      refine xa_region ?_
      refine x_move rfl rfl ?_
      refine x_move rfl rfl ?_
      refine x_move rfl rfl ?_
      have hxi := hab _ (getD_mem (show i < a.length by omega))
      have hxk := hbb _ (getD_mem (show k < b.length by omega))
      refine x_sub rfl rfl (inI64 (by omega)) ?_
      apply x_call rfl
      · apply pa_cons
        · exact pa_plain rfl
        exact pa_nil
      · exact s_sign _
      · exact ⟨rfl, rfl, rfl, of_decide_eq_true rfl, rfl⟩
      · exact .inl rfl
      · exact back_nil
      · exact inst_plain rfl
      · exact fun _ => rfl
      intro g30
      rw [sgn_max]
      have hsb := sgI_bd (a.getD i default - b.getD k default)
      refine x_add rfl rfl (inI64 (by omega)) ?_
      refine x_add rfl rfl (inI64 (by omega)) ?_
      refine x_assign rfl rfl rfl ?_
      refine xr_nil ⟨nofun, [(.t 1, _), (.t 5, _), (.t 7, _), (.t 14, _), (.t 15, _), (.t 16, _), (.t 20, _), (.t 21, _), (.t 22, _)], ⟨rfl, rfl, rfl, rfl, rfl, rfl, rfl, rfl, rfl, rfl, rfl, rfl, rfl, rfl, rfl, rfl, rfl, rfl, trivial⟩, ?_⟩
      refine xa_region ?_
      refine x_add rfl rfl (inI64 (by omega)) ?_
      refine x_move rfl rfl ?_
      refine xr_nil ⟨nofun, [(.t 1, _), (.t 5, _), (.t 7, _), (.t 14, _), (.t 15, _), (.t 16, _), (.t 20, _), (.t 21, _), (.t 22, _)], ⟨rfl, rfl, rfl, rfl, rfl, rfl, rfl, rfl, rfl, rfl, rfl, rfl, rfl, rfl, rfl, rfl, rfl, rfl, trivial⟩, ?_⟩
      refine ⟨(k + 1, u2 + (1 + sgI (a.getD i default - b.getD k default))), ?_, (by simp only; omega), ⟨rfl, rfl, rfl, rfl, rfl, rfl, rfl, rfl, rfl, trivial⟩⟩
      exact ⟨by omega, by rw [rwU_succ _ (by omega), hu2]; omega⟩
    · try simp only [decide_eq_true_eq, decide_eq_false_iff_not, Bool.not_eq_true', Bool.not_eq_false', bne_iff_ne, beq_iff_eq, ne_eq, Bool.not_true, Bool.not_false, beq_eq_false_iff_ne, bne_eq_false_iff_eq, Decidable.not_not, Int.not_lt, Int.not_le, Bool.and_eq_true, Bool.and_eq_false_iff, Bool.or_eq_true, Bool.or_eq_false_iff, List.length_map] at hc
      refine xa_exit ?_
      refine xa_region ?_
      refine x_add rfl rfl (inI64 (by omega)) ?_
      refine x_move rfl rfl ?_
      refine xr_nil ⟨nofun, [(.t 1, _), (.t 5, _), (.t 14, _), (.t 15, _), (.t 16, _)], ⟨rfl, rfl, rfl, rfl, rfl, rfl, rfl, rfl, rfl, rfl, trivial⟩, ?_⟩
      refine ⟨(i + 1, u2), ?_, (by simp only; omega), ⟨rfl, rfl, rfl, rfl, rfl, trivial⟩⟩
      exact ⟨by omega, by rw [wnU_succ (by omega), hu2, hu, show k = b.length by omega]⟩
  · try simp only [decide_eq_true_eq, decide_eq_false_iff_not, Bool.not_eq_true', Bool.not_eq_false', bne_iff_ne, beq_iff_eq, ne_eq, Bool.not_true, Bool.not_false, beq_eq_false_iff_ne, bne_eq_false_iff_eq, Decidable.not_not, Int.not_lt, Int.not_le, Bool.and_eq_true, Bool.and_eq_false_iff, Bool.or_eq_true, Bool.or_eq_false_iff, List.length_map] at hc
    refine xa_exit ?_
    refine xa_seq ?_
    refine xa_region ?_
    refine x_move rfl rfl ?_
    refine x_assign rfl rfl rfl ?_
    refine xr_nil ⟨nofun, [(.t 4, _)], ⟨rfl, rfl, trivial⟩, ?_⟩
    refine xa_ret ?_
    refine ret_val' rfl rfl trivial ?_
    rw [hu, show i = a.length by omega, wnU, List.take_length]
    rfl

theorem keep_s_FnAreaByCorners : keepOf Try.f12 = [0, 2, 14, 4, 3, 6, 8, 7, 5, 43, 11, 57, 64, 9, 10, 23, 29] := by kernel_rfl
set_option maxHeartbeats 20000000 in
theorem s_FnAreaByCorners (bs : List Int) (hbs : Bytes bs) : CW cxT 12 [.list (bs.map uV)] = some (bV true, []) := by
  refine fn_intro rfl Try.func12 rfl ⟨by kernel_rfl, rfl, of_decide_eq_true rfl, of_decide_eq_true rfl, by decide⟩ keep_s_FnAreaByCorners ?_
  refine xa_seq ?_
  refine xa_region ?_
  refine x_assign rfl rfl rfl ?_
  refine xr_nil ⟨nofun, [(.t 0, _)], ⟨rfl, rfl, trivial⟩, ?_⟩
  refine xa_seq ?_
  refine xa_seq ?_
  refine xa_region ?_
  refine x_move rfl rfl ?_
  refine x_len_map rfl rfl ?_
  refine x_gtr rfl rfl ?_
  refine xr_nil ⟨nofun, [(.t 0, _), (.t 14, _)], ⟨rfl, rfl, rfl, rfl, trivial⟩, ?_⟩
  refine xa_cond rfl (fun hc => ?_) (fun hc => ?_)
  · try simp only [decide_eq_true_eq, decide_eq_false_iff_not, Bool.not_eq_true', Bool.not_eq_false', bne_iff_ne, beq_iff_eq, ne_eq, Bool.not_true, Bool.not_false, beq_eq_false_iff_ne, bne_eq_false_iff_eq, Decidable.not_not, Int.not_lt, Int.not_le, Bool.and_eq_true, Bool.and_eq_false_iff, Bool.or_eq_true, Bool.or_eq_false_iff, List.length_map] at hc
    refine xa_seq ?_
    refine xa_region ?_
    refine x_assign rfl rfl rfl ?_
    refine xr_nil ⟨nofun, [(.t 2, _)], ⟨rfl, rfl, trivial⟩, ?_⟩
    refine xa_ret ?_
    refine ret_val' rfl rfl trivial ?_
    rfl
  · try simp only [decide_eq_true_eq, decide_eq_false_iff_not, Bool.not_eq_true', Bool.not_eq_false', bne_iff_ne, beq_iff_eq, ne_eq, Bool.not_true, Bool.not_false, beq_eq_false_iff_ne, bne_eq_false_iff_eq, Decidable.not_not, Int.not_lt, Int.not_le, Bool.and_eq_true, Bool.and_eq_false_iff, Bool.or_eq_true, Bool.or_eq_false_iff, List.length_map] at hc
    refine xa_skip ?_
    refine xa_seq ?_
    refine xa_region ?_
    have hl2 : bs.length ≤ 1048576 := by omega
    refine x_move rfl rfl ?_
    obtain ⟨_, _, ⟨xs, ms, rfl, rfl, hx21, hm22⟩, hC1⟩ := s_drawAreaByCorners bs hbs hl2
    have hl : xs.length ≤ 1048576 := by omega
    have hlm : ms.length ≤ 1048576 := by omega
    have hr0 := coR_len xs ms 0
    have hr1 := coR_len xs ms 1
    apply x_call rfl
    · apply pa_cons
      · exact pa_plain rfl
      exact pa_nil
    · exact hC1
    · exact ⟨rfl, rfl, rfl, of_decide_eq_true rfl, rfl⟩
    · exact .inl rfl
    · exact back_nil
    · exact inst_tupL (il_own fun _ => il_own fun _ => il_nil)
    · exact fun _ => rfl
    intro g17
    simp only [List.length_map]
    refine x_move rfl rfl ?_
    refine x_extract rfl rfl rfl ?_
    refine x_extract rfl rfl rfl ?_
    (refine x_assign_own rfl rfl (by (simp; done)) rfl (fun _ => (slot_obj (by exact noRef_map fun _ => rfl))) (fun _ => rfl) ?_; intro g3)
    (refine x_assign_own rfl rfl (by (simp; done)) rfl (fun _ => (slot_obj (by exact noRef_map fun _ => rfl))) (fun _ => rfl) ?_; intro g4)
    refine xr_nil ⟨nofun, [(.t 3, _), (.t 4, _), (.h 3, _), (.h 4, _)], ⟨rfl, rfl, rfl, rfl, rfl, rfl, rfl, rfl, trivial⟩, ?_⟩
    refine xa_seq ?_
    refine xa_region ?_
    refine x_move rfl rfl ?_
    refine x_move rfl rfl ?_
    apply x_call rfl
    · apply pa_cons
      · exact pa_lend_map rfl rfl rfl (by (simp; done)) (fun _ => rfl)
      apply pa_cons
      · exact pa_lend_map rfl rfl rfl (by (simp; done)) (fun _ => rfl)
      exact pa_nil
    · exact s_areaI xs ms hl hlm
    · exact ⟨rfl, rfl, rfl, of_decide_eq_true rfl, rfl⟩
    · exact .inr ⟨rfl, rfl⟩
    · exact back_nil
    · exact inst_tup rfl
    · exact fun _ => rfl
    intro g23
    refine x_move rfl rfl ?_
    refine x_extract rfl rfl rfl ?_
    refine x_extract rfl rfl rfl ?_
    refine x_alloc rfl (fun _ => slot_box rfl) (fun _ => rfl) ?_
    intro g5
    refine x_store_boxV rfl rfl rfl rfl ⟨by decide, rfl, of_decide_eq_true rfl, of_decide_eq_true rfl, rfl⟩ rfl (by exact slot_box rfl) ?_
    refine x_assign rfl rfl rfl ?_
    refine xr_nil ⟨nofun, [(.t 3, _), (.t 4, _), (.t 5, _), (.t 6, _), (.h 3, _), (.h 4, _), (.h 5, _)], ⟨rfl, rfl, rfl, rfl, rfl, rfl, rfl, rfl, rfl, rfl, rfl, rfl, rfl, rfl, trivial⟩, ?_⟩
    refine xa_seq ?_
    refine xa_region ?_
    refine x_move rfl rfl ?_
    refine x_move rfl rfl ?_
    apply x_call rfl
    · apply pa_cons
      · exact pa_lend_map rfl rfl rfl (by (simp; done)) (fun _ => rfl)
      apply pa_cons
      · exact pa_lend_map rfl rfl rfl (by (simp; done)) (fun _ => rfl)
      exact pa_nil
    · exact s_areaS xs ms hl hlm
    · exact ⟨rfl, rfl, rfl, of_decide_eq_true rfl, rfl⟩
    · exact .inr ⟨rfl, rfl⟩
    · exact back_nil
    · exact inst_tup rfl
    · exact fun _ => rfl
    intro g29
    refine x_move rfl rfl ?_
    refine x_extract rfl rfl rfl ?_
    refine x_extract rfl rfl rfl ?_
    refine x_alloc rfl (fun _ => slot_box rfl) (fun _ => rfl) ?_
    intro g7
    refine x_store_boxV rfl rfl rfl rfl ⟨by decide, rfl, of_decide_eq_true rfl, of_decide_eq_true rfl, rfl⟩ rfl (by exact slot_box rfl) ?_
    refine x_assign rfl rfl rfl ?_
    refine xr_nil ⟨nofun, [(.t 3, _), (.t 4, _), (.t 5, _), (.t 6, _), (.t 7, _), (.t 8, _), (.h 3, _), (.h 4, _), (.h 5, _), (.h 7, _)], ⟨rfl, rfl, rfl, rfl, rfl, rfl, rfl, rfl, rfl, rfl, rfl, rfl, rfl, rfl, rfl, rfl, rfl, rfl, rfl, rfl, trivial⟩, ?_⟩
    refine xa_seq ?_
    refine xa_seq ?_
    refine xa_region ?_
    refine x_load_boxV rfl rfl rfl rfl rfl ?_
    refine x_load_boxV rfl rfl rfl rfl rfl ?_
    refine x_ane rfl rfl (by kernel_rfl) rfl ?_
    simp only [beq_self_eq_true, Bool.and_self, Bool.not_true]
    refine x_move rfl rfl ?_
    refine x_guard_t rfl rfl (by rfl) ?_
    refine x_move rfl rfl ?_
    refine x_guard_t rfl rfl (by rfl) ?_
    refine x_move rfl rfl ?_
    refine x_guard_t rfl rfl (by rfl) ?_
    refine x_bne rfl rfl rfl ?_
    simp only [beq_self_eq_true, Bool.and_self, Bool.not_true]
    refine x_pick_f rfl (by rfl) rfl rfl ?_
    refine x_move rfl rfl ?_
    refine x_guard_t rfl rfl (by rfl) ?_
    refine x_move rfl rfl ?_
    refine x_guard_t rfl rfl (by rfl) ?_
    refine x_not rfl ?_
    refine x_pick_f rfl (by rfl) rfl rfl ?_
    refine xr_nil ⟨nofun, [(.t 3, _), (.t 4, _), (.t 5, _), (.t 6, _), (.t 7, _), (.t 8, _), (.t 43, _), (.h 3, _), (.h 4, _), (.h 5, _), (.h 7, _)], ⟨rfl, rfl, rfl, rfl, rfl, rfl, rfl, rfl, rfl, rfl, rfl, rfl, rfl, rfl, rfl, rfl, rfl, rfl, rfl, rfl, rfl, rfl, trivial⟩, ?_⟩
    refine xa_cond rfl (fun hc => ?_) (fun hc => ?_)
    · try simp only [decide_eq_true_eq, decide_eq_false_iff_not, Bool.not_eq_true', Bool.not_eq_false', bne_iff_ne, beq_iff_eq, ne_eq, Bool.not_true, Bool.not_false, beq_eq_false_iff_ne, bne_eq_false_iff_eq, Decidable.not_not, Int.not_lt, Int.not_le, Bool.and_eq_true, Bool.and_eq_false_iff, Bool.or_eq_true, Bool.or_eq_false_iff, List.length_map] at hc
      refine xa_seq ?_
      refine xa_region ?_
      refine x_load_boxV rfl rfl rfl rfl rfl ?_
      refine x_load_boxV rfl rfl rfl rfl rfl ?_
      refine x_aeq rfl rfl (by kernel_rfl) rfl ?_
      simp only [beq_self_eq_true, Bool.and_self, Bool.not_true]
      refine x_move rfl rfl ?_
      refine x_guard_t rfl rfl (by rfl) ?_
      refine x_move rfl rfl ?_
      refine x_guard_t rfl rfl (by rfl) ?_
      refine x_move rfl rfl ?_
      refine x_guard_t rfl rfl (by rfl) ?_
      refine x_beq rfl rfl rfl ?_
      simp only [beq_self_eq_true, Bool.and_self, Bool.not_true]
      refine x_pick_t rfl (by rfl) rfl rfl ?_
      refine x_assign rfl rfl rfl ?_
      refine xr_nil ⟨nofun, [(.t 2, _)], ⟨rfl, rfl, trivial⟩, ?_⟩
      refine xa_ret ?_
      refine ret_val' rfl rfl trivial ?_
      rfl
    · try simp only [decide_eq_true_eq, decide_eq_false_iff_not, Bool.not_eq_true', Bool.not_eq_false', bne_iff_ne, beq_iff_eq, ne_eq, Bool.not_true, Bool.not_false, beq_eq_false_iff_ne, bne_eq_false_iff_eq, Decidable.not_not, Int.not_lt, Int.not_le, Bool.and_eq_true, Bool.and_eq_false_iff, Bool.or_eq_true, Bool.or_eq_false_iff, List.length_map] at hc
      have hbm : bmk xs ms = true := by simp_all
      obtain ⟨hvc, hm0, hm1⟩ := bmk_iff.1 hbm
      obtain ⟨h1, hl10, hxb, hml, hmb⟩ := vca_iff.1 hvc
      have hs01 := sum01 hmb
      have hp1 := ptI_len1 (xs := xs) hmb hml
      have hp0 := ptI_len0 (xs := xs) hmb hml
      have hq1 := ptI_len xs ms 1 xs.length
      have hq0 := ptI_len xs ms 0 xs.length
      have hxb2 : ∀ i, i < xs.length → -200 ≤ xs.getD i default ∧ xs.getD i default ≤ 200 := fun i hi => allB_iff.1 hxb i hi
      have hs1 := (mem1_iff hmb).1 hm1
      have hs0 := (mem0_iff hmb).1 hm0
      rw [hml] at hs0
      have hdb := den_bd hs0 hs1 (by omega)
      have hup := pTs_bd (ms := ms) hl10 xs.length
      rw [pTs_wins] at hup
      have hdc2 : 2 * ms.sum * ((xs.length : Int) - ms.sum) = 2 * ((xs.length : Int) - ms.sum) * ms.sum := by rw [Int.mul_assoc, Int.mul_assoc, Int.mul_comm ms.sum]
      refine xa_skip ?_
      refine xa_seq ?_
      refine xa_region ?_
      refine x_buildSlice (es := List.map iV []) rfl rfl (by decide) rfl rfl (fun _ => slot_obj (noRef_map fun _ => rfl)) (fun _ => rfl) ?_
      intro g52
      (refine x_assign_own rfl rfl (by (simp; done)) rfl (fun _ => (slot_obj (by exact noRef_map fun _ => rfl))) (fun _ => rfl) ?_; intro g9)
      refine xr_nil ⟨nofun, [(.t 3, _), (.t 4, _), (.t 5, _), (.t 9, _), (.h 3, _), (.h 4, _), (.h 5, _), (.h 9, _)], ⟨rfl, rfl, rfl, rfl, rfl, rfl, rfl, rfl, rfl, rfl, rfl, rfl, rfl, rfl, rfl, rfl, trivial⟩, ?_⟩
      refine xa_seq ?_
      refine xa_region ?_
      refine x_buildSlice (es := List.map iV []) rfl rfl (by decide) rfl rfl (fun _ => slot_obj (noRef_map fun _ => rfl)) (fun _ => rfl) ?_
      intro g53
      (refine x_assign_own rfl rfl (by (simp; done)) rfl (fun _ => (slot_obj (by exact noRef_map fun _ => rfl))) (fun _ => rfl) ?_; intro g10)
      refine xr_nil ⟨nofun, [(.t 3, _), (.t 4, _), (.t 5, _), (.t 9, _), (.t 10, _), (.h 3, _), (.h 4, _), (.h 5, _), (.h 9, _), (.h 10, _)], ⟨rfl, rfl, rfl, rfl, rfl, rfl, rfl, rfl, rfl, rfl, rfl, rfl, rfl, rfl, rfl, rfl, rfl, rfl, rfl, rfl, trivial⟩, ?_⟩
      refine xa_seq ?_
      refine xa_seq ?_
      refine xa_region ?_
      refine x_assign rfl rfl rfl ?_
      refine xr_nil ⟨nofun, [(.t 3, _), (.t 4, _), (.t 5, _), (.t 9, _), (.t 10, _), (.t 11, _), (.h 3, _), (.h 4, _), (.h 5, _), (.h 9, _), (.h 10, _)], ⟨rfl, rfl, rfl, rfl, rfl, rfl, rfl, rfl, rfl, rfl, rfl, rfl, rfl, rfl, rfl, rfl, rfl, rfl, rfl, rfl, rfl, rfl, trivial⟩, ?_⟩
      refine xa_block ?_
      refine xa_loopK (β := Nat × List Int × Nat × List Int × Nat) [(.t 3, _), (.t 4, _), (.t 5, _), (.h 3, _), (.h 4, _), (.h 5, _)] (fun (z : Nat × List Int × Nat × List Int × Nat) => match z with | (i, ps, ga, qs, gb) => [(.t 11, iV i), (.t 9, .sl 9 ga none 0 ps.length), (.h 9, .obj ga 0 1 (ps.map iV)), (.t 10, .sl 10 gb none 0 qs.length), (.h 10, .obj gb 0 1 (qs.map iV))]) (fun (z : Nat × List Int × Nat × List Int × Nat) => match z with | (i, ps, ga, qs, gb) => i ≤ xs.length ∧ ps = ptI xs ms 1 i ∧ qs = ptI xs ms 0 i) (fun (z : Nat × List Int × Nat × List Int × Nat) => match z with | (i, ps, ga, qs, gb) => xs.length - i) (0, [], _, [], _) ⟨rfl, rfl, rfl, rfl, rfl, rfl, rfl, rfl, rfl, rfl, rfl, trivial⟩ ⟨Nat.zero_le _, rfl, rfl⟩ ?_
      intro z hb
      obtain ⟨i, ps, ga, qs, gb⟩ := z
      try dsimp only at hb
      obtain ⟨hi1, hps, hqs⟩ := hb
      have hpl := ptI_len xs ms 1 i
      have hql := ptI_len xs ms 0 i
      rw [← hps] at hpl
      rw [← hqs] at hql
      have hmi := fun h : i < ms.length => allB_iff.1 hmb i h
      refine xa_seq ?_
      refine xa_seq ?_
      refine xa_region ?_
      refine x_move rfl rfl ?_
      refine x_move rfl rfl ?_
      refine x_len_sl rfl rfl ?_
      refine x_lss rfl rfl ?_
      refine xr_nil ⟨nofun, [(.t 3, _), (.t 4, _), (.t 5, _), (.t 9, _), (.t 10, _), (.t 11, _), (.t 57, _), (.h 3, _), (.h 4, _), (.h 5, _), (.h 9, _), (.h 10, _)], ⟨rfl, rfl, rfl, rfl, rfl, rfl, rfl, rfl, rfl, rfl, rfl, rfl, rfl, rfl, rfl, rfl, rfl, rfl, rfl, rfl, rfl, rfl, rfl, rfl, trivial⟩, ?_⟩
      refine xa_cond rfl (fun hc => ?_) (fun hc => ?_)
      · try simp only [decide_eq_true_eq, decide_eq_false_iff_not, Bool.not_eq_true', Bool.not_eq_false', bne_iff_ne, beq_iff_eq, ne_eq, Bool.not_true, Bool.not_false, beq_eq_false_iff_ne, bne_eq_false_iff_eq, Decidable.not_not, Int.not_lt, Int.not_le, Bool.and_eq_true, Bool.and_eq_false_iff, Bool.or_eq_true, Bool.or_eq_false_iff, List.length_map] at hc
        refine xa_skip ?_
        refine xa_seq ?_
        refine xa_block ?_
        refine xa_seq ?_
        refine xa_region ?_
        refine x_move rfl rfl ?_
        refine x_move rfl rfl ?_
        refine x_index_slN rfl rfl rfl rfl (by omega) (by (simp; done)) rfl ?_
        refine x_load_mapV rfl rfl (by omega) (fun _ => rfl) (fun _ => rfl) rfl ?_
        refine x_eql rfl rfl ?_
        refine xr_nil ⟨nofun, [(.t 3, _), (.t 4, _), (.t 5, _), (.t 9, _), (.t 10, _), (.t 11, _), (.t 64, _), (.h 3, _), (.h 4, _), (.h 5, _), (.h 9, _), (.h 10, _)], ⟨rfl, rfl, rfl, rfl, rfl, rfl, rfl, rfl, rfl, rfl, rfl, rfl, rfl, rfl, rfl, rfl, rfl, rfl, rfl, rfl, rfl, rfl, rfl, rfl, trivial⟩, ?_⟩
        refine xa_cond rfl (fun hc => ?_) (fun hc => ?_)
        · try simp only [decide_eq_true_eq, decide_eq_false_iff_not, Bool.not_eq_true', Bool.not_eq_false', bne_iff_ne, beq_iff_eq, ne_eq, Bool.not_true, Bool.not_false, beq_eq_false_iff_ne, bne_eq_false_iff_eq, Decidable.not_not, Int.not_lt, Int.not_le, Bool.and_eq_true, Bool.and_eq_false_iff, Bool.or_eq_true, Bool.or_eq_false_iff, List.length_map] at hc
          refine xa_region ?_
          refine x_move rfl rfl ?_
          refine x_move rfl rfl ?_
          refine x_move rfl rfl ?_
          refine x_index_slN rfl rfl rfl rfl (by omega) (by (simp; done)) rfl ?_
          refine x_load_mapV rfl rfl (by omega) (fun _ => rfl) (fun _ => rfl) rfl ?_
          refine x_buildSlice (es := List.map iV [_]) rfl rfl (by decide) rfl rfl (fun _ => slot_obj (noRef_map fun _ => rfl)) (fun _ => rfl) ?_
          intro g70
          refine x_append_map rfl rfl rfl rfl (by simp) (by simp) (by decide) rfl rfl rfl rfl (by decide) (fun _ => ⟨rfl, rfl⟩) (by simp only [maxL]; (simp only [List.length_nil, List.length_cons, List.length_append, Nat.zero_add, List.length_map]; omega)) (fun _ => rfl) ?_
          intro g71
          (refine x_assign_own rfl rfl (by (simp; done)) rfl (fun _ => (slot_obj (by exact noRef_map fun _ => rfl))) (fun _ => rfl) ?_; intro g9)
          refine xr_nil ⟨nofun, [(.t 3, _), (.t 4, _), (.t 5, _), (.t 9, _), (.t 10, _), (.t 11, _), (.h 3, _), (.h 4, _), (.h 5, _), (.h 9, _), (.h 10, _)], ⟨rfl, rfl, rfl, rfl, rfl, rfl, rfl, rfl, rfl, rfl, rfl, rfl, rfl, rfl, rfl, rfl, rfl, rfl, rfl, rfl, rfl, rfl, trivial⟩, ?_⟩
          refine xa_region ?_
          refine x_move rfl rfl ?_
          refine x_add rfl rfl (inI64 (by omega)) ?_
          refine x_assign rfl rfl rfl ?_
          refine xr_nil ⟨nofun, [(.t 3, _), (.t 4, _), (.t 5, _), (.t 9, _), (.t 10, _), (.t 11, _), (.h 3, _), (.h 4, _), (.h 5, _), (.h 9, _), (.h 10, _)], ⟨rfl, rfl, rfl, rfl, rfl, rfl, rfl, rfl, rfl, rfl, rfl, rfl, rfl, rfl, rfl, rfl, rfl, rfl, rfl, rfl, rfl, rfl, trivial⟩, ?_⟩
          refine ⟨(i + 1, ps ++ [xs.getD i default], _, qs, _), ?_, (by simp only; omega), ⟨rfl, rfl, rfl, rfl, rfl, rfl, rfl, rfl, rfl, rfl, rfl, trivial⟩⟩
          have hmi2 := hmi (by omega)
          exact ⟨by omega, by rw [ptI, if_pos hc, hps], by rw [ptI, if_neg (by omega), hqs]⟩
        · try simp only [decide_eq_true_eq, decide_eq_false_iff_not, Bool.not_eq_true', Bool.not_eq_false', bne_iff_ne, beq_iff_eq, ne_eq, Bool.not_true, Bool.not_false, beq_eq_false_iff_ne, bne_eq_false_iff_eq, Decidable.not_not, Int.not_lt, Int.not_le, Bool.and_eq_true, Bool.and_eq_false_iff, Bool.or_eq_true, Bool.or_eq_false_iff, List.length_map] at hc
          refine xa_region ?_
          refine x_move rfl rfl ?_
          refine x_move rfl rfl ?_
          refine x_move rfl rfl ?_
          refine x_index_slN rfl rfl rfl rfl (by omega) (by (simp; done)) rfl ?_
          refine x_load_mapV rfl rfl (by omega) (fun _ => rfl) (fun _ => rfl) rfl ?_
          refine x_buildSlice (es := List.map iV [_]) rfl rfl (by decide) rfl rfl (fun _ => slot_obj (noRef_map fun _ => rfl)) (fun _ => rfl) ?_
          intro g77
          refine x_append_map rfl rfl rfl rfl (by simp) (by simp) (by decide) rfl rfl rfl rfl (by decide) (fun _ => ⟨rfl, rfl⟩) (by simp only [maxL]; (simp only [List.length_nil, List.length_cons, List.length_append, Nat.zero_add, List.length_map]; omega)) (fun _ => rfl) ?_
          intro g78
          (refine x_assign_own rfl rfl (by (simp; done)) rfl (fun _ => (slot_obj (by exact noRef_map fun _ => rfl))) (fun _ => rfl) ?_; intro g10)
          refine xr_nil ⟨nofun, [(.t 3, _), (.t 4, _), (.t 5, _), (.t 9, _), (.t 10, _), (.t 11, _), (.h 3, _), (.h 4, _), (.h 5, _), (.h 9, _), (.h 10, _)], ⟨rfl, rfl, rfl, rfl, rfl, rfl, rfl, rfl, rfl, rfl, rfl, rfl, rfl, rfl, rfl, rfl, rfl, rfl, rfl, rfl, rfl, rfl, trivial⟩, ?_⟩
          refine xa_region ?_
          refine x_move rfl rfl ?_
          refine x_add rfl rfl (inI64 (by omega)) ?_
          refine x_assign rfl rfl rfl ?_
          refine xr_nil ⟨nofun, [(.t 3, _), (.t 4, _), (.t 5, _), (.t 9, _), (.t 10, _), (.t 11, _), (.h 3, _), (.h 4, _), (.h 5, _), (.h 9, _), (.h 10, _)], ⟨rfl, rfl, rfl, rfl, rfl, rfl, rfl, rfl, rfl, rfl, rfl, rfl, rfl, rfl, rfl, rfl, rfl, rfl, rfl, rfl, rfl, rfl, trivial⟩, ?_⟩
          refine ⟨(i + 1, ps, _, qs ++ [xs.getD i default], _), ?_, (by simp only; omega), ⟨rfl, rfl, rfl, rfl, rfl, rfl, rfl, rfl, rfl, rfl, rfl, trivial⟩⟩
          have hmi2 := hmi (by omega)
          exact ⟨by omega, by rw [ptI, if_neg (by omega), hps], by rw [ptI, if_pos (by omega), hqs]⟩
      · try simp only [decide_eq_true_eq, decide_eq_false_iff_not, Bool.not_eq_true', Bool.not_eq_false', bne_iff_ne, beq_iff_eq, ne_eq, Bool.not_true, Bool.not_false, beq_eq_false_iff_ne, bne_eq_false_iff_eq, Decidable.not_not, Int.not_lt, Int.not_le, Bool.and_eq_true, Bool.and_eq_false_iff, Bool.or_eq_true, Bool.or_eq_false_iff, List.length_map] at hc
        refine xa_exit ?_
        refine xa_seq ?_
        refine xa_region ?_
        refine x_load_boxV rfl rfl rfl rfl rfl ?_
        refine x_move rfl rfl ?_
        refine x_move rfl rfl ?_
        have hin : i = xs.length := by omega
        subst hin
        subst hps
        subst hqs
        apply x_call rfl
        · apply pa_cons
          · exact pa_lend_map rfl rfl rfl (by (simp; done)) (fun _ => rfl)
          apply pa_cons
          · exact pa_lend_map rfl rfl rfl (by (simp; done)) (fun _ => rfl)
          exact pa_nil
        · exact s_winsOf (ptI xs ms 1 xs.length) (ptI xs ms 0 xs.length) (by omega) (by omega) (by omega) (vd_pt hl10 hxb 1) (vd_pt hl10 hxb 0)
        · exact ⟨rfl, rfl, rfl, of_decide_eq_true rfl, rfl⟩
        · exact .inr ⟨rfl, rfl⟩
        · exact back_nil
        · exact inst_plain rfl
        · exact fun _ => rfl
        intro g82
        rw [wnL_wins]
        refine x_move rfl rfl ?_
        refine x_len_sl rfl rfl ?_
        rw [hp1]
        refine x_mul rfl rfl (inI64 (by omega)) ?_
        refine x_move rfl rfl ?_
        refine x_len_sl rfl rfl ?_
        rw [hp0]
        refine x_mul rfl rfl (inI64 (by omega)) ?_
        rw [hdc2]
        apply x_call rfl
        · apply pa_cons
          · exact pa_plain rfl
          apply pa_cons
          · exact pa_plain rfl
          exact pa_nil
        · exact s_fracL (wins xs ms) (2 * ((xs.length : Int) - ms.sum) * ms.sum) (by omega) (by omega) (by omega)
        · exact ⟨rfl, rfl, rfl, of_decide_eq_true rfl, rfl⟩
        · exact .inl rfl
        · exact back_nil
        · exact inst_plain rfl
        · exact fun _ => rfl
        intro g89
        rw [arP_q hbm, arQ_wins]
        refine x_aeq rfl rfl (by kernel_rfl) rfl ?_
        refine x_assign rfl rfl rfl ?_
        refine xr_nil ⟨fun _ => ⟨by (simp only [wmap, List.nil_append, List.append_nil, List.map_cons, List.map_nil, List.cons_append]; decide +kernel), by decide +kernel⟩, [(.t 2, _)], ⟨rfl, rfl, trivial⟩, ?_⟩
        refine xa_ret ?_
        refine ret_val' rfl rfl trivial ?_
        (simp; done)
end Go.Proofs.Ythmimfbjoeeggaa

/- What each function of the program gives on the abstract machine, part 2 of 2. Conditions: those in front of each theorem. -/
import Derived.Test.YthmimfbjoeeggaaSa
import Derived.KernelRfl

set_option linter.unusedVariables false
set_option linter.unusedSimpArgs false
namespace Go.Proofs.Ythmimfbjoeeggaa
open Go Go.Mv Go.Proofs
set_option maxRecDepth 100000

theorem keep_s_FnChancesOf : keepOf Try.f10 = [0, 2, 11, 4, 3, 5, 30, 7, 40, 6, 8, 52, 96, 36, 48] := by kernel_rfl
set_option maxHeartbeats 20000000 in
theorem s_FnChancesOf (bs0 : List Int) (hbs0 : Bytes bs0) : CW cxT 10 [.list (bs0.map uV)] = some (bV true, []) := by
  refine fn_intro rfl Try.func10 rfl ⟨by kernel_rfl, rfl, of_decide_eq_true rfl, of_decide_eq_true rfl, by decide⟩ keep_s_FnChancesOf ?_
  refine xa_seq ?_
  refine xa_region ?_
  refine x_assign rfl rfl rfl ?_
  refine xr_nil ⟨nofun, [(.t 0, _)], ⟨rfl, rfl, trivial⟩, ?_⟩
  refine xa_seq ?_
  refine xa_seq ?_
  refine xa_region ?_
  refine x_move rfl rfl ?_
  refine x_len_map rfl rfl ?_
  refine x_gtr rfl rfl ?_
  refine xr_nil ⟨nofun, [(.t 0, _), (.t 11, _)], ⟨rfl, rfl, rfl, rfl, trivial⟩, ?_⟩
  refine xa_cond rfl (fun hc => ?_) (fun hc => ?_)
  · try simp only [decide_eq_true_eq, decide_eq_false_iff_not, Bool.not_eq_true', Bool.not_eq_false', bne_iff_ne, beq_iff_eq, ne_eq, Bool.not_true, Bool.not_false, beq_eq_false_iff_ne, bne_eq_false_iff_eq, Decidable.not_not, Int.not_lt, Int.not_le, Bool.and_eq_true, Bool.and_eq_false_iff, Bool.or_eq_true, Bool.or_eq_false_iff, List.length_map] at hc
    refine xa_seq ?_
    refine xa_region ?_
    refine x_assign rfl rfl rfl ?_
    refine xr_nil ⟨nofun, [(.t 2, _)], ⟨rfl, rfl, trivial⟩, ?_⟩
    refine xa_ret ?_
    refine ret_val' rfl rfl trivial ?_
    rfl
  · try simp only [decide_eq_true_eq, decide_eq_false_iff_not, Bool.not_eq_true', Bool.not_eq_false', bne_iff_ne, beq_iff_eq, ne_eq, Bool.not_true, Bool.not_false, beq_eq_false_iff_ne, bne_eq_false_iff_eq, Decidable.not_not, Int.not_lt, Int.not_le, Bool.and_eq_true, Bool.and_eq_false_iff, Bool.or_eq_true, Bool.or_eq_false_iff, List.length_map] at hc
    refine xa_skip ?_
    refine xa_seq ?_
    refine xa_region ?_
    have hl2 : bs0.length ≤ 1048576 := by omega
    refine x_move rfl rfl ?_
    obtain ⟨_, _, ⟨xs, ms, rfl, rfl, hx21, hm22⟩, hC1⟩ := s_drawChancesOf bs0 hbs0 hl2
    have hl : xs.length ≤ 1048576 := by omega
    have hlm : ms.length ≤ 1048576 := by omega
    have hr0 := coR_len xs ms 0
    have hr1 := coR_len xs ms 1
    obtain ⟨bs, hB⟩ := Bks.ex xs ms
    have hcq := chQ_len xs ms bs
    apply x_call rfl
    · apply pa_cons
      · exact pa_plain rfl
      exact pa_nil
    · exact hC1
    · exact ⟨rfl, rfl, rfl, of_decide_eq_true rfl, rfl⟩
    · exact .inl rfl
    · exact back_nil
    · exact inst_tupL (il_own fun _ => il_own fun _ => il_nil)
    · exact fun _ => rfl
    intro g14
    refine x_move rfl rfl ?_
    refine x_extract rfl rfl rfl ?_
    refine x_extract rfl rfl rfl ?_
    (refine x_assign_own rfl rfl (by (simp; done)) rfl (fun _ => (slot_obj (by exact noRef_map fun _ => rfl))) (fun _ => rfl) ?_; intro g3)
    (refine x_assign_own rfl rfl (by (simp; done)) rfl (fun _ => (slot_obj (by exact noRef_map fun _ => rfl))) (fun _ => rfl) ?_; intro g4)
    refine xr_nil ⟨nofun, [(.t 3, _), (.t 4, _), (.h 3, _), (.h 4, _)], ⟨rfl, rfl, rfl, rfl, rfl, rfl, rfl, rfl, trivial⟩, ?_⟩
    refine xa_seq ?_
    refine xa_region ?_
    refine x_move rfl rfl ?_
    refine x_move rfl rfl ?_
    apply x_call rfl
    · apply pa_cons
      · exact pa_lend_map rfl rfl rfl (by (simp; done)) (fun _ => rfl)
      apply pa_cons
      · exact pa_lend_map rfl rfl rfl (by (simp; done)) (fun _ => rfl)
      exact pa_nil
    · exact s_chancesI xs ms hl hlm bs hB
    · exact ⟨rfl, rfl, rfl, of_decide_eq_true rfl, rfl⟩
    · exact .inr ⟨hasListL_mapF fun _ => rfl, rfl⟩
    · exact back_nil
    · exact inst_own
    · exact fun _ => rfl
    intro g19
    simp only [List.length_map]
    (refine x_assign_own rfl rfl (by (simp; done)) rfl (fun _ => (slot_obj (by exact noRef_map fun _ => rfl))) (fun _ => rfl) ?_; intro g5)
    refine xr_nil ⟨nofun, [(.t 3, _), (.t 4, _), (.t 5, _), (.h 3, _), (.h 4, _), (.h 5, _)], ⟨rfl, rfl, rfl, rfl, rfl, rfl, rfl, rfl, rfl, rfl, rfl, rfl, trivial⟩, ?_⟩
    refine xa_seq ?_
    refine xa_seq ?_
    refine xa_region ?_
    refine x_move rfl rfl ?_
    refine x_move rfl rfl ?_
    refine x_move rfl rfl ?_
    apply x_call rfl
    · apply pa_cons
      · exact pa_lend_map rfl rfl rfl (by (simp; done)) (fun _ => rfl)
      apply pa_cons
      · exact pa_lend_map rfl rfl rfl (by (simp; done)) (fun _ => rfl)
      exact pa_nil
    · exact s_chancesS xs ms hl hlm bs hB
    · exact ⟨rfl, rfl, rfl, of_decide_eq_true rfl, rfl⟩
    · exact .inr ⟨hasListL_mapF fun _ => rfl, rfl⟩
    · exact back_nil
    · exact inst_own
    · exact fun _ => rfl
    intro g23
    simp only [List.length_map]
    apply x_call rfl
    · apply pa_cons
      · exact pa_lend_map rfl rfl rfl (by (simp; done)) (fun _ => rfl)
      apply pa_cons
      · exact pa_lend_map rfl rfl rfl (by (simp; done)) (fun _ => rfl)
      exact pa_nil
    · exact s_equalFracs (chQ xs ms bs) (by omega)
    · exact ⟨rfl, rfl, rfl, of_decide_eq_true rfl, rfl⟩
    · exact .inr ⟨rfl, rfl⟩
    · exact back_nil
    · exact inst_plain rfl
    · exact fun _ => rfl
    intro g24
    simp only [beq_self_eq_true, Bool.not_true]
    refine x_not rfl ?_
    refine x_move rfl rfl ?_
    refine x_guard_t rfl rfl (by rfl) ?_
    refine x_move rfl rfl ?_
    refine x_guard_t rfl rfl (by rfl) ?_
    refine x_len_sl rfl rfl ?_
    refine x_guard_t rfl rfl (by rfl) ?_
    refine x_eql rfl rfl ?_
    refine x_pick_f rfl (by rfl) rfl rfl ?_
    refine xr_nil ⟨nofun, [(.t 3, _), (.t 4, _), (.t 5, _), (.t 30, _), (.h 3, _), (.h 4, _), (.h 5, _)], ⟨rfl, rfl, rfl, rfl, rfl, rfl, rfl, rfl, rfl, rfl, rfl, rfl, rfl, rfl, trivial⟩, ?_⟩
    refine xa_cond rfl (fun hc => ?_) (fun hc => ?_)
    · try simp only [decide_eq_true_eq, decide_eq_false_iff_not, Bool.not_eq_true', Bool.not_eq_false', bne_iff_ne, beq_iff_eq, ne_eq, Bool.not_true, Bool.not_false, beq_eq_false_iff_ne, bne_eq_false_iff_eq, Decidable.not_not, Int.not_lt, Int.not_le, Bool.and_eq_true, Bool.and_eq_false_iff, Bool.or_eq_true, Bool.or_eq_false_iff, List.length_map] at hc
      refine xa_seq ?_
      refine xa_region ?_
      refine x_move rfl rfl ?_
      refine x_move rfl rfl ?_
      refine x_move rfl rfl ?_
      apply x_call rfl
      · apply pa_cons
        · exact pa_lend_map rfl rfl rfl (by (simp; done)) (fun _ => rfl)
        apply pa_cons
        · exact pa_lend_map rfl rfl rfl (by (simp; done)) (fun _ => rfl)
        exact pa_nil
      · exact s_chancesS xs ms hl hlm bs hB
      · exact ⟨rfl, rfl, rfl, of_decide_eq_true rfl, rfl⟩
      · exact .inr ⟨hasListL_mapF fun _ => rfl, rfl⟩
      · exact back_nil
      · exact inst_own
      · exact fun _ => rfl
      intro g34
      simp only [List.length_map]
      apply x_call rfl
      · apply pa_cons
        · exact pa_lend_map rfl rfl rfl (by (simp; done)) (fun _ => rfl)
        apply pa_cons
        · exact pa_lend_map rfl rfl rfl (by (simp; done)) (fun _ => rfl)
        exact pa_nil
      · exact s_equalFracs (chQ xs ms bs) (by omega)
      · exact ⟨rfl, rfl, rfl, of_decide_eq_true rfl, rfl⟩
      · exact .inr ⟨rfl, rfl⟩
      · exact back_nil
      · exact inst_plain rfl
      · exact fun _ => rfl
      intro g35
      refine x_assign rfl rfl rfl ?_
      refine xr_nil ⟨nofun, [(.t 2, _)], ⟨rfl, rfl, trivial⟩, ?_⟩
      refine xa_ret ?_
      refine ret_val' rfl rfl trivial ?_
      rfl
    · try simp only [decide_eq_true_eq, decide_eq_false_iff_not, Bool.not_eq_true', Bool.not_eq_false', bne_iff_ne, beq_iff_eq, ne_eq, Bool.not_true, Bool.not_false, beq_eq_false_iff_ne, bne_eq_false_iff_eq, Decidable.not_not, Int.not_lt, Int.not_le, Bool.and_eq_true, Bool.and_eq_false_iff, Bool.or_eq_true, Bool.or_eq_false_iff, List.length_map] at hc
      have hvc : vca xs ms = true := chQ_valid (bs := bs) (by simpa using hc)
      obtain ⟨h1, hl10, hxb, hml, hmb⟩ := vca_iff.1 hvc
      have hs01 := sum01 hmb
      have hce : chQ xs ms bs = xs.map (chv bs) := by rw [chQ, if_pos hvc]
      rw [hce]
      refine xa_skip ?_
      refine xa_seq ?_
      refine xa_region ?_
      apply x_call rfl
      · apply pa_cons
        · exact pa_plain rfl
        apply pa_cons
        · exact pa_plain rfl
        exact pa_nil
      · exact s_fracL 0 1 (by decide) (by decide) (by decide)
      · exact ⟨rfl, rfl, rfl, of_decide_eq_true rfl, rfl⟩
      · exact .inl rfl
      · exact back_nil
      · exact inst_plain rfl
      · exact fun _ => rfl
      intro g36
      rw [show Rat.divInt 0 1 = prQ (fun q => chv bs (xs.getD q default)) 0 from (by decide +kernel : Rat.divInt 0 1 = 0)]
      refine x_alloc rfl (fun _ => slot_box rfl) (fun _ => rfl) ?_
      intro g6
      refine x_store_boxV rfl rfl rfl rfl ⟨by decide, rfl, of_decide_eq_true rfl, of_decide_eq_true rfl, rfl⟩ rfl (by exact slot_box rfl) ?_
      refine xr_nil ⟨nofun, [(.t 3, _), (.t 4, _), (.t 5, _), (.t 6, _), (.h 3, _), (.h 4, _), (.h 5, _), (.h 6, _)], ⟨rfl, rfl, rfl, rfl, rfl, rfl, rfl, rfl, rfl, rfl, rfl, rfl, rfl, rfl, rfl, rfl, trivial⟩, ?_⟩
      refine xa_seq ?_
      refine xa_seq ?_
      refine xa_region ?_
      refine x_assign rfl rfl rfl ?_
      refine xr_nil ⟨nofun, [(.t 3, _), (.t 4, _), (.t 5, _), (.t 6, _), (.t 7, _), (.h 3, _), (.h 4, _), (.h 5, _), (.h 6, _)], ⟨rfl, rfl, rfl, rfl, rfl, rfl, rfl, rfl, rfl, rfl, rfl, rfl, rfl, rfl, rfl, rfl, rfl, rfl, trivial⟩, ?_⟩
      refine xa_block ?_
      refine xa_loopK (β := Nat) [(.t 3, _), (.t 4, _), (.t 5, _), (.t 6, _), (.h 3, _), (.h 4, _), (.h 5, _)] (fun (i : Nat) => [(.t 7, iV i), (.h 6, .obj g6 3 2 [qV (prQ (fun q => chv bs (xs.getD q default)) i)])]) (fun (i : Nat) => i ≤ xs.length) (fun (i : Nat) => xs.length - i) 0 ⟨rfl, rfl, rfl, rfl, rfl, rfl, rfl, rfl, rfl, trivial⟩ (Nat.zero_le _) ?_
      intro i hb
      have hi1 := hb
      refine xa_seq ?_
      refine xa_seq ?_
      refine xa_region ?_
      refine x_move rfl rfl ?_
      refine x_move rfl rfl ?_
      refine x_len_sl rfl rfl ?_
      refine x_lss rfl rfl ?_
      refine xr_nil ⟨nofun, [(.t 3, _), (.t 4, _), (.t 5, _), (.t 6, _), (.t 7, _), (.t 40, _), (.h 3, _), (.h 4, _), (.h 5, _), (.h 6, _)], ⟨rfl, rfl, rfl, rfl, rfl, rfl, rfl, rfl, rfl, rfl, rfl, rfl, rfl, rfl, rfl, rfl, rfl, rfl, rfl, rfl, trivial⟩, ?_⟩
      refine xa_cond rfl (fun hc => ?_) (fun hc => ?_)
      · try simp only [decide_eq_true_eq, decide_eq_false_iff_not, Bool.not_eq_true', Bool.not_eq_false', bne_iff_ne, beq_iff_eq, ne_eq, Bool.not_true, Bool.not_false, beq_eq_false_iff_ne, bne_eq_false_iff_eq, Decidable.not_not, Int.not_lt, Int.not_le, Bool.and_eq_true, Bool.and_eq_false_iff, Bool.or_eq_true, Bool.or_eq_false_iff, List.length_map] at hc
        refine xa_skip ?_
        refine xa_seq ?_
        refine xa_block ?_
        refine xa_seq ?_
        refine xa_region ?_
        refine x_load_boxV rfl rfl rfl rfl rfl ?_
        refine x_move rfl rfl ?_
        refine x_move rfl rfl ?_
        refine x_index_slN rfl rfl rfl rfl (by (simp; omega)) (by (simp; done)) rfl ?_
        refine x_load_mapV rfl rfl (by (simp; omega)) (fun _ => rfl) (fun _ => rfl) rfl ?_
        rw [getD_mapR (by omega)]
        apply x_call rfl
        · apply pa_cons
          · exact pa_plain rfl
          apply pa_cons
          · exact pa_plain rfl
          exact pa_nil
        · exact s_plusL (prQ (fun q => chv bs (xs.getD q default)) i) (chv bs (xs.getD i default)) (prQ_sm hB hml hmb (by omega) (by omega)) (chv_sm hB hml hmb (by omega) (by omega))
        · exact ⟨rfl, rfl, rfl, of_decide_eq_true rfl, rfl⟩
        · exact .inl rfl
        · exact back_nil
        · exact inst_plain rfl
        · exact fun _ => rfl
        intro g48
        refine x_store_boxV rfl rfl rfl rfl ⟨by decide, rfl, of_decide_eq_true rfl, of_decide_eq_true rfl, rfl⟩ rfl (by exact slot_box rfl) ?_
        refine xr_nil ⟨fun _ => ⟨by (simp only [wmap, List.nil_append, List.append_nil, List.map_cons, List.map_nil, List.cons_append]; decide +kernel), by decide +kernel⟩, [(.t 3, _), (.t 4, _), (.t 5, _), (.t 6, _), (.t 7, _), (.h 3, _), (.h 4, _), (.h 5, _), (.h 6, _)], ⟨rfl, rfl, rfl, rfl, rfl, rfl, rfl, rfl, rfl, rfl, rfl, rfl, rfl, rfl, rfl, rfl, rfl, rfl, trivial⟩, ?_⟩
        refine xa_seq ?_
        refine xa_region ?_
        refine x_assign rfl rfl rfl ?_
        refine xr_nil ⟨nofun, [(.t 3, _), (.t 4, _), (.t 5, _), (.t 6, _), (.t 7, _), (.t 8, _), (.h 3, _), (.h 4, _), (.h 5, _), (.h 6, _)], ⟨rfl, rfl, rfl, rfl, rfl, rfl, rfl, rfl, rfl, rfl, rfl, rfl, rfl, rfl, rfl, rfl, rfl, rfl, rfl, rfl, trivial⟩, ?_⟩
        refine xa_block ?_
        refine xa_loopK (β := Nat) [(.t 3, _), (.t 4, _), (.t 5, _), (.t 6, _), (.t 7, _), (.h 3, _), (.h 4, _), (.h 5, _), (.h 6, _)] (fun (k : Nat) => [(.t 8, iV k)]) (fun (k : Nat) => k ≤ xs.length) (fun (k : Nat) => xs.length - k) 0 ⟨rfl, rfl, rfl, rfl, rfl, rfl, rfl, rfl, rfl, rfl, trivial⟩ (Nat.zero_le _) ?_
        intro k hb
        have hk1 := hb
        refine xa_seq ?_
        refine xa_seq ?_
        refine xa_region ?_
        refine x_move rfl rfl ?_
        refine x_move rfl rfl ?_
        refine x_len_sl rfl rfl ?_
        refine x_lss rfl rfl ?_
        refine xr_nil ⟨nofun, [(.t 3, _), (.t 4, _), (.t 5, _), (.t 6, _), (.t 7, _), (.t 8, _), (.t 52, _), (.h 3, _), (.h 4, _), (.h 5, _), (.h 6, _)], ⟨rfl, rfl, rfl, rfl, rfl, rfl, rfl, rfl, rfl, rfl, rfl, rfl, rfl, rfl, rfl, rfl, rfl, rfl, rfl, rfl, rfl, rfl, trivial⟩, ?_⟩
        refine xa_cond rfl (fun hc => ?_) (fun hc => ?_)
        · try simp only [decide_eq_true_eq, decide_eq_false_iff_not, Bool.not_eq_true', Bool.not_eq_false', bne_iff_ne, beq_iff_eq, ne_eq, Bool.not_true, Bool.not_false, beq_eq_false_iff_ne, bne_eq_false_iff_eq, Decidable.not_not, Int.not_lt, Int.not_le, Bool.and_eq_true, Bool.and_eq_false_iff, Bool.or_eq_true, Bool.or_eq_false_iff, List.length_map] at hc
          refine xa_skip ?_
          refine xa_seq ?_
          refine xa_block ?_
          refine xa_seq ?_
          refine xa_region ?_
          refine x_move rfl rfl ?_
          refine x_move rfl rfl ?_
          refine x_index_slN rfl rfl rfl rfl (by omega) (by (simp; done)) rfl ?_
          refine x_load_mapV rfl rfl (by omega) (fun _ => rfl) (fun _ => rfl) rfl ?_
          refine x_move rfl rfl ?_
          refine x_move rfl rfl ?_
          refine x_index_slN rfl rfl rfl rfl (by omega) (by (simp; done)) rfl ?_
          refine x_load_mapV rfl rfl (by omega) (fun _ => rfl) (fun _ => rfl) rfl ?_
          refine x_lss rfl rfl ?_
          refine x_move rfl rfl ?_
          refine x_guard_split rfl rfl (fun hg0 => ?_) (fun hg0 => ?_)
          · have hg := hg0; try simp only [decide_eq_true_eq, decide_eq_false_iff_not, Bool.not_eq_true', Bool.not_eq_false', bne_iff_ne, beq_iff_eq, ne_eq, Bool.not_true, Bool.not_false, beq_eq_false_iff_ne, bne_eq_false_iff_eq, Decidable.not_not, Int.not_lt, Int.not_le, Bool.and_eq_true, Bool.and_eq_false_iff, Bool.or_eq_true, Bool.or_eq_false_iff] at hg
            refine x_move rfl rfl ?_
            refine x_guard_t rfl rfl (by assumption) ?_
            refine x_move rfl rfl ?_
            refine x_guard_t rfl rfl (by assumption) ?_
            refine x_index_slN rfl rfl rfl rfl (by (simp; omega)) (by (simp; done)) rfl ?_
            refine x_guard_t rfl rfl (by assumption) ?_
            refine x_load_mapV rfl rfl (by (simp; omega)) (fun _ => rfl) (fun _ => rfl) rfl ?_
            refine x_guard_t rfl rfl (by assumption) ?_
            refine x_move rfl rfl ?_
            refine x_guard_t rfl rfl (by assumption) ?_
            refine x_move rfl rfl ?_
            refine x_guard_t rfl rfl (by assumption) ?_
            refine x_index_slN rfl rfl rfl rfl (by (simp; omega)) (by (simp; done)) rfl ?_
            refine x_guard_t rfl rfl (by assumption) ?_
            refine x_load_mapV rfl rfl (by (simp; omega)) (fun _ => rfl) (fun _ => rfl) rfl ?_
            refine x_guard_t rfl rfl (by assumption) ?_
            rw [getD_mapR (by omega), getD_mapR (by omega)]
            apply x_call rfl
            · apply pa_cons
              · exact pa_plain rfl
              apply pa_cons
              · exact pa_plain rfl
              exact pa_nil
            · exact s_lessL (chv bs (xs.getD k default)) (chv bs (xs.getD i default)) (chv_sm hB hml hmb (by omega) (by omega)) (chv_sm hB hml hmb (by omega) (by omega))
            · exact ⟨rfl, rfl, rfl, of_decide_eq_true rfl, rfl⟩
            · exact .inl rfl
            · exact back_nil
            · exact inst_plain rfl
            · exact fun _ => rfl
            intro g73
            rw [chances_rise hB (getD_mem (by omega)) (getD_mem (by omega)) (by assumption)]
            refine x_pick_t rfl (by assumption) rfl rfl ?_
            refine x_move rfl rfl ?_
            refine x_guard_t rfl rfl (by rfl) ?_
            refine x_move rfl rfl ?_
            refine x_guard_t rfl rfl (by rfl) ?_
            refine x_move rfl rfl ?_
            refine x_guard_t rfl rfl (by rfl) ?_
            refine x_index_slN rfl rfl rfl rfl (by omega) (by (simp; done)) rfl ?_
            refine x_guard_t rfl rfl (by rfl) ?_
            refine x_load_mapV rfl rfl (by omega) (fun _ => rfl) (fun _ => rfl) rfl ?_
            refine x_guard_t rfl rfl (by rfl) ?_
            refine x_move rfl rfl ?_
            refine x_guard_t rfl rfl (by rfl) ?_
            refine x_move rfl rfl ?_
            refine x_guard_t rfl rfl (by rfl) ?_
            refine x_index_slN rfl rfl rfl rfl (by omega) (by (simp; done)) rfl ?_
            refine x_guard_t rfl rfl (by rfl) ?_
            refine x_load_mapV rfl rfl (by omega) (fun _ => rfl) (fun _ => rfl) rfl ?_
            refine x_guard_t rfl rfl (by rfl) ?_
            refine x_eql rfl rfl ?_
            refine x_guard_t rfl rfl (by rfl) ?_
            refine x_move rfl rfl ?_
            refine x_guard_split rfl rfl (fun hg0 => ?_) (fun hg0 => ?_)
            · have hg := hg0; try simp only [decide_eq_true_eq, decide_eq_false_iff_not, Bool.not_eq_true', Bool.not_eq_false', bne_iff_ne, beq_iff_eq, ne_eq, Bool.not_true, Bool.not_false, beq_eq_false_iff_ne, bne_eq_false_iff_eq, Decidable.not_not, Int.not_lt, Int.not_le, Bool.and_eq_true, Bool.and_eq_false_iff, Bool.or_eq_true, Bool.or_eq_false_iff] at hg
              refine x_move rfl rfl ?_
              refine x_guard_t rfl rfl (by assumption) ?_
              refine x_move rfl rfl ?_
              refine x_guard_t rfl rfl (by assumption) ?_
              refine x_index_slN rfl rfl rfl rfl (by omega) (by (simp; done)) rfl ?_
              refine x_guard_t rfl rfl (by assumption) ?_
              refine x_load_mapV rfl rfl (by omega) (fun _ => rfl) (fun _ => rfl) rfl ?_
              refine x_guard_t rfl rfl (by assumption) ?_
              refine x_move rfl rfl ?_
              refine x_guard_t rfl rfl (by assumption) ?_
              refine x_move rfl rfl ?_
              refine x_guard_t rfl rfl (by assumption) ?_
              refine x_index_slN rfl rfl rfl rfl (by omega) (by (simp; done)) rfl ?_
              refine x_guard_t rfl rfl (by assumption) ?_
              refine x_load_mapV rfl rfl (by omega) (fun _ => rfl) (fun _ => rfl) rfl ?_
              refine x_guard_t rfl rfl (by assumption) ?_
              have hxe : xs.getD i default = xs.getD k default := by assumption
              rw [getD_mapR (by omega), getD_mapR (by omega), hxe]
              refine x_ane rfl rfl (by kernel_rfl) rfl ?_
              refine x_guard_t rfl rfl (by rfl) ?_
              try simp only [beq_self_eq_true, Bool.and_self, Bool.not_true]
              refine x_pick_t rfl (by rfl) rfl rfl ?_
              refine x_pick_f rfl (by rfl) rfl rfl ?_
              refine xr_nil ⟨fun _ => ⟨by decide +kernel, by decide +kernel⟩, [(.t 3, _), (.t 4, _), (.t 5, _), (.t 6, _), (.t 7, _), (.t 8, _), (.t 96, _), (.h 3, _), (.h 4, _), (.h 5, _), (.h 6, _)], ⟨rfl, rfl, rfl, rfl, rfl, rfl, rfl, rfl, rfl, rfl, rfl, rfl, rfl, rfl, rfl, rfl, rfl, rfl, rfl, rfl, rfl, rfl, trivial⟩, ?_⟩
              refine xa_cond rfl (fun hc => absurd hc (by decide)) (fun hc => ?_)
              refine xa_skip ?_
              refine xa_region ?_
              refine x_move rfl rfl ?_
              refine x_add rfl rfl (inI64 (by omega)) ?_
              refine x_assign rfl rfl rfl ?_
              refine xr_nil ⟨nofun, [(.t 3, _), (.t 4, _), (.t 5, _), (.t 6, _), (.t 7, _), (.t 8, _), (.h 3, _), (.h 4, _), (.h 5, _), (.h 6, _)], ⟨rfl, rfl, rfl, rfl, rfl, rfl, rfl, rfl, rfl, rfl, rfl, rfl, rfl, rfl, rfl, rfl, rfl, rfl, rfl, rfl, trivial⟩, ?_⟩
              refine ⟨k + 1, (by omega), (by omega), ⟨rfl, rfl, rfl, rfl, rfl, rfl, rfl, rfl, rfl, rfl, trivial⟩⟩
            · have hg := hg0; try simp only [decide_eq_true_eq, decide_eq_false_iff_not, Bool.not_eq_true', Bool.not_eq_false', bne_iff_ne, beq_iff_eq, ne_eq, Bool.not_true, Bool.not_false, beq_eq_false_iff_ne, bne_eq_false_iff_eq, Decidable.not_not, Int.not_lt, Int.not_le, Bool.and_eq_true, Bool.and_eq_false_iff, Bool.or_eq_true, Bool.or_eq_false_iff] at hg
              refine x_guard_f rfl rfl (by assumption) ?_
              refine x_guard_f rfl rfl (by assumption) ?_
              refine x_guard_f rfl rfl (by assumption) ?_
              refine x_guard_f rfl rfl (by assumption) ?_
              refine x_guard_f rfl rfl (by assumption) ?_
              refine x_guard_f rfl rfl (by assumption) ?_
              refine x_guard_f rfl rfl (by assumption) ?_
              refine x_guard_f rfl rfl (by assumption) ?_
              refine x_guard_t rfl rfl (by rfl) ?_
              try simp only [beq_self_eq_true, Bool.and_self, Bool.not_true]
              refine x_pick_f rfl (by assumption) rfl rfl ?_
              refine x_pick_f rfl (by rfl) rfl rfl ?_
              refine xr_nil ⟨fun _ => ⟨by decide +kernel, by decide +kernel⟩, [(.t 3, _), (.t 4, _), (.t 5, _), (.t 6, _), (.t 7, _), (.t 8, _), (.t 96, _), (.h 3, _), (.h 4, _), (.h 5, _), (.h 6, _)], ⟨rfl, rfl, rfl, rfl, rfl, rfl, rfl, rfl, rfl, rfl, rfl, rfl, rfl, rfl, rfl, rfl, rfl, rfl, rfl, rfl, rfl, rfl, trivial⟩, ?_⟩
              refine xa_cond rfl (fun hc => absurd hc (by decide)) (fun hc => ?_)
              refine xa_skip ?_
              refine xa_region ?_
              refine x_move rfl rfl ?_
              refine x_add rfl rfl (inI64 (by omega)) ?_
              refine x_assign rfl rfl rfl ?_
              refine xr_nil ⟨nofun, [(.t 3, _), (.t 4, _), (.t 5, _), (.t 6, _), (.t 7, _), (.t 8, _), (.h 3, _), (.h 4, _), (.h 5, _), (.h 6, _)], ⟨rfl, rfl, rfl, rfl, rfl, rfl, rfl, rfl, rfl, rfl, rfl, rfl, rfl, rfl, rfl, rfl, rfl, rfl, rfl, rfl, trivial⟩, ?_⟩
              refine ⟨k + 1, (by omega), (by omega), ⟨rfl, rfl, rfl, rfl, rfl, rfl, rfl, rfl, rfl, rfl, trivial⟩⟩
          · have hg := hg0; try simp only [decide_eq_true_eq, decide_eq_false_iff_not, Bool.not_eq_true', Bool.not_eq_false', bne_iff_ne, beq_iff_eq, ne_eq, Bool.not_true, Bool.not_false, beq_eq_false_iff_ne, bne_eq_false_iff_eq, Decidable.not_not, Int.not_lt, Int.not_le, Bool.and_eq_true, Bool.and_eq_false_iff, Bool.or_eq_true, Bool.or_eq_false_iff] at hg
            refine x_guard_f rfl rfl (by assumption) ?_
            refine x_guard_f rfl rfl (by assumption) ?_
            refine x_guard_f rfl rfl (by assumption) ?_
            refine x_guard_f rfl rfl (by assumption) ?_
            refine x_guard_f rfl rfl (by assumption) ?_
            refine x_guard_f rfl rfl (by assumption) ?_
            refine x_guard_f rfl rfl (by assumption) ?_
            refine x_guard_f rfl rfl (by assumption) ?_
            refine x_pick_f rfl (by assumption) rfl rfl ?_
            refine x_move rfl rfl ?_
            refine x_guard_t rfl rfl (by rfl) ?_
            refine x_move rfl rfl ?_
            refine x_guard_t rfl rfl (by rfl) ?_
            refine x_move rfl rfl ?_
            refine x_guard_t rfl rfl (by rfl) ?_
            refine x_index_slN rfl rfl rfl rfl (by omega) (by (simp; done)) rfl ?_
            refine x_guard_t rfl rfl (by rfl) ?_
            refine x_load_mapV rfl rfl (by omega) (fun _ => rfl) (fun _ => rfl) rfl ?_
            refine x_guard_t rfl rfl (by rfl) ?_
            refine x_move rfl rfl ?_
            refine x_guard_t rfl rfl (by rfl) ?_
            refine x_move rfl rfl ?_
            refine x_guard_t rfl rfl (by rfl) ?_
            refine x_index_slN rfl rfl rfl rfl (by omega) (by (simp; done)) rfl ?_
            refine x_guard_t rfl rfl (by rfl) ?_
            refine x_load_mapV rfl rfl (by omega) (fun _ => rfl) (fun _ => rfl) rfl ?_
            refine x_guard_t rfl rfl (by rfl) ?_
            refine x_eql rfl rfl ?_
            refine x_guard_t rfl rfl (by rfl) ?_
            refine x_move rfl rfl ?_
            refine x_guard_split rfl rfl (fun hg0 => ?_) (fun hg0 => ?_)
            · have hg := hg0; try simp only [decide_eq_true_eq, decide_eq_false_iff_not, Bool.not_eq_true', Bool.not_eq_false', bne_iff_ne, beq_iff_eq, ne_eq, Bool.not_true, Bool.not_false, beq_eq_false_iff_ne, bne_eq_false_iff_eq, Decidable.not_not, Int.not_lt, Int.not_le, Bool.and_eq_true, Bool.and_eq_false_iff, Bool.or_eq_true, Bool.or_eq_false_iff] at hg
              refine x_move rfl rfl ?_
              refine x_guard_t rfl rfl (by assumption) ?_
              refine x_move rfl rfl ?_
              refine x_guard_t rfl rfl (by assumption) ?_
              refine x_index_slN rfl rfl rfl rfl (by (simp; omega)) (by (simp; done)) rfl ?_
              refine x_guard_t rfl rfl (by assumption) ?_
              refine x_load_mapV rfl rfl (by (simp; omega)) (fun _ => rfl) (fun _ => rfl) rfl ?_
              refine x_guard_t rfl rfl (by assumption) ?_
              refine x_move rfl rfl ?_
              refine x_guard_t rfl rfl (by assumption) ?_
              refine x_move rfl rfl ?_
              refine x_guard_t rfl rfl (by assumption) ?_
              refine x_index_slN rfl rfl rfl rfl (by (simp; omega)) (by (simp; done)) rfl ?_
              refine x_guard_t rfl rfl (by assumption) ?_
              refine x_load_mapV rfl rfl (by (simp; omega)) (fun _ => rfl) (fun _ => rfl) rfl ?_
              refine x_guard_t rfl rfl (by assumption) ?_
              have hxe : xs.getD i default = xs.getD k default := by assumption
              rw [getD_mapR (by omega), getD_mapR (by omega), hxe]
              refine x_ane rfl rfl (by kernel_rfl) rfl ?_
              refine x_guard_t rfl rfl (by rfl) ?_
              try simp only [beq_self_eq_true, Bool.and_self, Bool.not_true]
              refine x_pick_t rfl (by rfl) rfl rfl ?_
              refine x_pick_f rfl (by rfl) rfl rfl ?_
              refine xr_nil ⟨fun _ => ⟨by decide +kernel, by decide +kernel⟩, [(.t 3, _), (.t 4, _), (.t 5, _), (.t 6, _), (.t 7, _), (.t 8, _), (.t 96, _), (.h 3, _), (.h 4, _), (.h 5, _), (.h 6, _)], ⟨rfl, rfl, rfl, rfl, rfl, rfl, rfl, rfl, rfl, rfl, rfl, rfl, rfl, rfl, rfl, rfl, rfl, rfl, rfl, rfl, rfl, rfl, trivial⟩, ?_⟩
              refine xa_cond rfl (fun hc => absurd hc (by decide)) (fun hc => ?_)
              refine xa_skip ?_
              refine xa_region ?_
              refine x_move rfl rfl ?_
              refine x_add rfl rfl (inI64 (by omega)) ?_
              refine x_assign rfl rfl rfl ?_
              refine xr_nil ⟨nofun, [(.t 3, _), (.t 4, _), (.t 5, _), (.t 6, _), (.t 7, _), (.t 8, _), (.h 3, _), (.h 4, _), (.h 5, _), (.h 6, _)], ⟨rfl, rfl, rfl, rfl, rfl, rfl, rfl, rfl, rfl, rfl, rfl, rfl, rfl, rfl, rfl, rfl, rfl, rfl, rfl, rfl, trivial⟩, ?_⟩
              refine ⟨k + 1, (by omega), (by omega), ⟨rfl, rfl, rfl, rfl, rfl, rfl, rfl, rfl, rfl, rfl, trivial⟩⟩
            · have hg := hg0; try simp only [decide_eq_true_eq, decide_eq_false_iff_not, Bool.not_eq_true', Bool.not_eq_false', bne_iff_ne, beq_iff_eq, ne_eq, Bool.not_true, Bool.not_false, beq_eq_false_iff_ne, bne_eq_false_iff_eq, Decidable.not_not, Int.not_lt, Int.not_le, Bool.and_eq_true, Bool.and_eq_false_iff, Bool.or_eq_true, Bool.or_eq_false_iff] at hg
              refine x_guard_f rfl rfl (by assumption) ?_
              refine x_guard_f rfl rfl (by assumption) ?_
              refine x_guard_f rfl rfl (by assumption) ?_
              refine x_guard_f rfl rfl (by assumption) ?_
              refine x_guard_f rfl rfl (by assumption) ?_
              refine x_guard_f rfl rfl (by assumption) ?_
              refine x_guard_f rfl rfl (by assumption) ?_
              refine x_guard_f rfl rfl (by assumption) ?_
              refine x_guard_t rfl rfl (by rfl) ?_
              try simp only [beq_self_eq_true, Bool.and_self, Bool.not_true]
              refine x_pick_f rfl (by assumption) rfl rfl ?_
              refine x_pick_f rfl (by rfl) rfl rfl ?_
              refine xr_nil ⟨fun _ => ⟨by decide +kernel, by decide +kernel⟩, [(.t 3, _), (.t 4, _), (.t 5, _), (.t 6, _), (.t 7, _), (.t 8, _), (.t 96, _), (.h 3, _), (.h 4, _), (.h 5, _), (.h 6, _)], ⟨rfl, rfl, rfl, rfl, rfl, rfl, rfl, rfl, rfl, rfl, rfl, rfl, rfl, rfl, rfl, rfl, rfl, rfl, rfl, rfl, rfl, rfl, trivial⟩, ?_⟩
              refine xa_cond rfl (fun hc => absurd hc (by decide)) (fun hc => ?_)
              refine xa_skip ?_
              refine xa_region ?_
              refine x_move rfl rfl ?_
              refine x_add rfl rfl (inI64 (by omega)) ?_
              refine x_assign rfl rfl rfl ?_
              refine xr_nil ⟨nofun, [(.t 3, _), (.t 4, _), (.t 5, _), (.t 6, _), (.t 7, _), (.t 8, _), (.h 3, _), (.h 4, _), (.h 5, _), (.h 6, _)], ⟨rfl, rfl, rfl, rfl, rfl, rfl, rfl, rfl, rfl, rfl, rfl, rfl, rfl, rfl, rfl, rfl, rfl, rfl, rfl, rfl, trivial⟩, ?_⟩
              refine ⟨k + 1, (by omega), (by omega), ⟨rfl, rfl, rfl, rfl, rfl, rfl, rfl, rfl, rfl, rfl, trivial⟩⟩
        · try simp only [decide_eq_true_eq, decide_eq_false_iff_not, Bool.not_eq_true', Bool.not_eq_false', bne_iff_ne, beq_iff_eq, ne_eq, Bool.not_true, Bool.not_false, beq_eq_false_iff_ne, bne_eq_false_iff_eq, Decidable.not_not, Int.not_lt, Int.not_le, Bool.and_eq_true, Bool.and_eq_false_iff, Bool.or_eq_true, Bool.or_eq_false_iff, List.length_map] at hc
          refine xa_exit ?_
          refine xa_region ?_
          refine x_move rfl rfl ?_
          refine x_add rfl rfl (inI64 (by omega)) ?_
          refine x_assign rfl rfl rfl ?_
          refine xr_nil ⟨nofun, [(.t 3, _), (.t 4, _), (.t 5, _), (.t 6, _), (.t 7, _), (.h 3, _), (.h 4, _), (.h 5, _), (.h 6, _)], ⟨rfl, rfl, rfl, rfl, rfl, rfl, rfl, rfl, rfl, rfl, rfl, rfl, rfl, rfl, rfl, rfl, rfl, rfl, trivial⟩, ?_⟩
          refine ⟨i + 1, (by omega), (by omega), ⟨rfl, rfl, rfl, rfl, rfl, rfl, rfl, rfl, rfl, trivial⟩⟩
      · try simp only [decide_eq_true_eq, decide_eq_false_iff_not, Bool.not_eq_true', Bool.not_eq_false', bne_iff_ne, beq_iff_eq, ne_eq, Bool.not_true, Bool.not_false, beq_eq_false_iff_ne, bne_eq_false_iff_eq, Decidable.not_not, Int.not_lt, Int.not_le, Bool.and_eq_true, Bool.and_eq_false_iff, Bool.or_eq_true, Bool.or_eq_false_iff, List.length_map] at hc
        refine xa_exit ?_
        refine xa_seq ?_
        refine xa_region ?_
        refine x_load_boxV rfl rfl rfl rfl rfl ?_
        refine x_move rfl rfl ?_
        apply x_call rfl
        · apply pa_cons
          · exact pa_lend_map rfl rfl rfl (by (simp; done)) (fun _ => rfl)
          exact pa_nil
        · exact s_total ms (by omega) (fun i hi => by have := sum01_bd hmb i hi; omega)
        · exact ⟨rfl, rfl, rfl, of_decide_eq_true rfl, rfl⟩
        · exact .inr ⟨rfl, rfl⟩
        · exact back_nil
        · exact inst_plain rfl
        · exact fun _ => rfl
        intro g99
        apply x_call rfl
        · apply pa_cons
          · exact pa_plain rfl
          apply pa_cons
          · exact pa_plain rfl
          exact pa_nil
        · exact s_fracL ms.sum 1 (by omega) (by decide) (by decide)
        · exact ⟨rfl, rfl, rfl, of_decide_eq_true rfl, rfl⟩
        · exact .inl rfl
        · exact back_nil
        · exact inst_plain rfl
        · exact fun _ => rfl
        intro g100
        rw [chances_total hB hml, show i = xs.length by omega]
        refine x_aeq rfl rfl (by kernel_rfl) rfl ?_
        refine x_assign rfl rfl rfl ?_
        refine xr_nil ⟨fun _ => ⟨by (simp only [wmap, List.nil_append, List.append_nil, List.map_cons, List.map_nil, List.cons_append]; decide +kernel), by decide +kernel⟩, [(.t 2, _)], ⟨rfl, rfl, trivial⟩, ?_⟩
        refine xa_ret ?_
        refine ret_val' rfl rfl trivial ?_
        (simp; done)
end Go.Proofs.Ythmimfbjoeeggaa

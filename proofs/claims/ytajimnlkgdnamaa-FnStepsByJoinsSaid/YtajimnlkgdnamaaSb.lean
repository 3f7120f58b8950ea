/- What each function of the program gives on the abstract machine, part 2 of 2. Conditions: those in front of each theorem. -/
import Derived.Test.YtajimnlkgdnamaaSa
import Derived.KernelRfl

set_option linter.unusedVariables false
set_option linter.unusedSimpArgs false
namespace Go.Proofs.Ytajimnlkgdnamaa
open Go Go.Mv Go.Proofs
set_option maxRecDepth 100000

theorem keep_s_stepsJS : keepOf Try.f15 = [0, 2, 16, 3, 6, 23, 4, 5, 7, 8, 40, 11, 61, 12, 66, 9, 10, 98, 13, 112, 120] := by kernel_rfl
set_option maxHeartbeats 20000000 in
theorem s_stepsJS (gs : List (List Int)) (hn : gs.length ≤ 1000) (hr : ∀ a, (gs.getD a default).length ≤ 1000) : CW cxT 15 [M gs] = some (.own 1 ((if vg gs then fw gs else []).map oI), []) := by
  refine fn_intro rfl Try.func15 rfl ⟨by kernel_rfl, rfl, of_decide_eq_true rfl, of_decide_eq_true rfl, by decide⟩ keep_s_stepsJS ?_
  refine xa_seq ?_
  refine xa_region ?_
  (refine x_assign_nil rfl rfl (fun _ => rfl) ?_; intro g2)
  refine xr_nil ⟨nofun, [(.t 0, _)], ⟨rfl, rfl, trivial⟩, ?_⟩
  refine xa_seq ?_
  refine xa_seq ?_
  refine xa_region ?_
  refine x_move rfl rfl ?_
  apply x_call rfl
  · apply pa_cons
    · exact pa_plain rfl
    exact pa_nil
  · exact s_validGapsS gs hn hr
  · exact ⟨rfl, rfl, rfl, of_decide_eq_true rfl, rfl⟩
  · exact .inl rfl
  · exact back_nil
  · exact inst_plain rfl
  · exact fun _ => rfl
  intro g15
  refine x_not rfl ?_
  refine xr_nil ⟨nofun, [(.t 0, _), (.t 16, _)], ⟨rfl, rfl, rfl, rfl, trivial⟩, ?_⟩
  refine xa_cond rfl (fun hc => ?_) (fun hc => ?_)
  · try simp only [decide_eq_true_eq, decide_eq_false_iff_not, Bool.not_eq_true', Bool.not_eq_false', bne_iff_ne, beq_iff_eq, ne_eq, Bool.not_true, Bool.not_false, beq_eq_false_iff_ne, bne_eq_false_iff_eq, Decidable.not_not, Int.not_lt, Int.not_le, Bool.and_eq_true, Bool.and_eq_false_iff, Bool.or_eq_true, Bool.or_eq_false_iff, List.length_map] at hc
    refine xa_seq ?_
    refine xa_region ?_
    (refine x_assign_nil rfl rfl (fun _ => rfl) ?_; intro g2)
    refine xr_nil ⟨nofun, [(.t 2, _), (.h 2, _)], ⟨rfl, rfl, rfl, rfl, trivial⟩, ?_⟩
    refine xa_ret ?_
    refine ret_own' rfl rfl (by (simp; done)) (by rfl) trivial ?_
    rw [if_neg (by simpa using hc)]
    rfl
  · try simp only [decide_eq_true_eq, decide_eq_false_iff_not, Bool.not_eq_true', Bool.not_eq_false', bne_iff_ne, beq_iff_eq, ne_eq, Bool.not_true, Bool.not_false, beq_eq_false_iff_ne, bne_eq_false_iff_eq, Decidable.not_not, Int.not_lt, Int.not_le, Bool.and_eq_true, Bool.and_eq_false_iff, Bool.or_eq_true, Bool.or_eq_false_iff, List.length_map] at hc
    have hv := vg_iff.1 hc
    obtain ⟨_, _, ⟨js, gz, rfl, rfl, hjl, hgz, hst, hall⟩, hC0⟩ := s_joinsS gs hn hr hv
    refine xa_skip ?_
    refine xa_seq ?_
    refine xa_region ?_
    refine x_move rfl rfl ?_
    refine x_len_map rfl rfl ?_
    refine x_assign rfl rfl rfl ?_
    refine xr_nil ⟨nofun, [(.t 0, _), (.t 3, _)], ⟨rfl, rfl, rfl, rfl, trivial⟩, ?_⟩
    refine xa_seq ?_
    refine xa_region ?_
    refine x_buildSlice (es := List.map oI []) rfl rfl (by decide) rfl rfl (fun _ => slot_obj (noRef_map fun _ => rfl)) (fun _ => rfl) ?_
    intro g19
    (refine x_assign_own rfl rfl (by (simp; done)) rfl (fun _ => (slot_obj (by exact noRef_map fun _ => rfl))) (fun _ => rfl) ?_; intro g4)
    refine xr_nil ⟨nofun, [(.t 0, _), (.t 3, _), (.t 4, _), (.h 4, _)], ⟨rfl, rfl, rfl, rfl, rfl, rfl, rfl, rfl, trivial⟩, ?_⟩
    refine xa_seq ?_
    refine xa_region ?_
    refine x_buildSlice (es := List.map iV []) rfl rfl (by decide) rfl rfl (fun _ => slot_obj (noRef_map fun _ => rfl)) (fun _ => rfl) ?_
    intro g20
    (refine x_assign_own rfl rfl (by (simp; done)) rfl (fun _ => (slot_obj (by exact noRef_map fun _ => rfl))) (fun _ => rfl) ?_; intro g5)
    refine xr_nil ⟨nofun, [(.t 0, _), (.t 3, _), (.t 4, _), (.t 5, _), (.h 4, _), (.h 5, _)], ⟨rfl, rfl, rfl, rfl, rfl, rfl, rfl, rfl, rfl, rfl, rfl, rfl, trivial⟩, ?_⟩
    refine xa_seq ?_
    refine xa_seq ?_
    refine xa_region ?_
    refine x_assign rfl rfl rfl ?_
    refine xr_nil ⟨nofun, [(.t 0, _), (.t 3, _), (.t 4, _), (.t 5, _), (.t 6, _), (.h 4, _), (.h 5, _)], ⟨rfl, rfl, rfl, rfl, rfl, rfl, rfl, rfl, rfl, rfl, rfl, rfl, rfl, rfl, trivial⟩, ?_⟩
    refine xa_block ?_
    refine xa_loopK (β := Nat × List (List Int) × Nat × List Int × Nat) [(.t 0, _), (.t 3, _)] (fun (z : Nat × List (List Int) × Nat × List Int × Nat) => match z with | (b, m0, gm, xs, gx) => [(.t 6, iV b), (.t 4, .sl 4 gm none 0 m0.length), (.h 4, .obj gm 0 1 (m0.map oI)), (.t 5, .sl 5 gx none 0 xs.length), (.h 5, .obj gx 0 1 (xs.map iV))]) (fun (z : Nat × List (List Int) × Nat × List Int × Nat) => match z with | (b, m0, gm, xs, gx) => b ≤ gs.length ∧ m0.length = b ∧ (∀ i, i < b → m0.getD i default = List.replicate gs.length 0) ∧ xs.length = b ∧ ∀ i, i < b → xs.getD i default = (i : Int)) (fun (z : Nat × List (List Int) × Nat × List Int × Nat) => match z with | (b, m0, gm, xs, gx) => gs.length - b) (0, [], _, [], _) ⟨rfl, rfl, rfl, rfl, rfl, rfl, rfl, trivial⟩ ⟨Nat.zero_le _, rfl, fun i hi => by omega, rfl, fun i hi => by omega⟩ ?_
    intro z hb
    obtain ⟨b, m0, gm, xs, gx⟩ := z
    try dsimp only at hb
    obtain ⟨hb1, hb2, hb3, hb4, hb5⟩ := hb
    refine xa_seq ?_
    refine xa_seq ?_
    refine xa_region ?_
    refine x_move rfl rfl ?_
    refine x_move rfl rfl ?_
    refine x_lss rfl rfl ?_
    refine xr_nil ⟨nofun, [(.t 0, _), (.t 3, _), (.t 4, _), (.t 5, _), (.t 6, _), (.t 23, _), (.h 4, _), (.h 5, _)], ⟨rfl, rfl, rfl, rfl, rfl, rfl, rfl, rfl, rfl, rfl, rfl, rfl, rfl, rfl, rfl, rfl, trivial⟩, ?_⟩
    refine xa_cond rfl (fun hc => ?_) (fun hc => ?_)
    · try simp only [decide_eq_true_eq, decide_eq_false_iff_not, Bool.not_eq_true', Bool.not_eq_false', bne_iff_ne, beq_iff_eq, ne_eq, Bool.not_true, Bool.not_false, beq_eq_false_iff_ne, bne_eq_false_iff_eq, Decidable.not_not, Int.not_lt, Int.not_le, Bool.and_eq_true, Bool.and_eq_false_iff, Bool.or_eq_true, Bool.or_eq_false_iff, List.length_map] at hc
      refine xa_skip ?_
      refine xa_seq ?_
      refine xa_block ?_
      refine xa_seq ?_
      refine xa_region ?_
      refine x_move rfl rfl ?_
      refine x_move rfl rfl ?_
      refine x_makeSlice (f := iV) (x0 := 0) rfl rfl rfl rfl rfl (by simp only [maxL]; omega) (by decide) (fun _ => slot_obj (by exact noRef_map fun _ => rfl)) (fun _ => rfl) ?_
      intro g28
      refine x_build_row rfl rfl (by simp) rfl rfl rfl (fun _ => rfl) ?_
      intro g29
      refine x_append_map rfl rfl rfl rfl (by simp) (by simp) (by decide) rfl rfl rfl rfl (by decide) (fun _ => ⟨rfl, rfl⟩) (by simp only [maxL]; (simp only [List.length_nil, List.length_cons, List.length_append, Nat.zero_add, List.length_map]; omega)) (fun _ => rfl) ?_
      intro g30
      (refine x_assign_own rfl rfl (by (simp; done)) rfl (fun _ => (slot_obj (by exact noRef_map fun _ => rfl))) (fun _ => rfl) ?_; intro g4)
      refine xr_nil ⟨nofun, [(.t 0, _), (.t 3, _), (.t 4, _), (.t 5, _), (.t 6, _), (.h 4, _), (.h 5, _)], ⟨rfl, rfl, rfl, rfl, rfl, rfl, rfl, rfl, rfl, rfl, rfl, rfl, rfl, rfl, trivial⟩, ?_⟩
      refine xa_region ?_
      refine x_move rfl rfl ?_
      refine x_move rfl rfl ?_
      refine x_buildSlice (es := List.map iV [_]) rfl rfl (by decide) rfl rfl (fun _ => slot_obj (noRef_map fun _ => rfl)) (fun _ => rfl) ?_
      intro g33
      refine x_append_map rfl rfl rfl rfl (by simp) (by simp) (by decide) rfl rfl rfl rfl (by decide) (fun _ => ⟨rfl, rfl⟩) (by simp only [maxL]; (simp only [List.length_nil, List.length_cons, List.length_append, Nat.zero_add, List.length_map]; omega)) (fun _ => rfl) ?_
      intro g34
      (refine x_assign_own rfl rfl (by (simp; done)) rfl (fun _ => (slot_obj (by exact noRef_map fun _ => rfl))) (fun _ => rfl) ?_; intro g5)
      refine xr_nil ⟨nofun, [(.t 0, _), (.t 3, _), (.t 4, _), (.t 5, _), (.t 6, _), (.h 4, _), (.h 5, _)], ⟨rfl, rfl, rfl, rfl, rfl, rfl, rfl, rfl, rfl, rfl, rfl, rfl, rfl, rfl, trivial⟩, ?_⟩
      refine xa_region ?_
      refine x_move rfl rfl ?_
      refine x_add rfl rfl (inI64 (by omega)) ?_
      refine x_assign rfl rfl rfl ?_
      refine xr_nil ⟨nofun, [(.t 0, _), (.t 3, _), (.t 4, _), (.t 5, _), (.t 6, _), (.h 4, _), (.h 5, _)], ⟨rfl, rfl, rfl, rfl, rfl, rfl, rfl, rfl, rfl, rfl, rfl, rfl, rfl, rfl, trivial⟩, ?_⟩
      refine ⟨(b + 1, m0 ++ [List.replicate gs.length 0], _, xs ++ [(b : Int)], _), ⟨by omega, by simp [hb2], snoc_all hb2 hb3, by simp [hb4], fun i hi => snoc_val hb4 hb5 i hi⟩, (by simp only; omega), ⟨rfl, rfl, rfl, rfl, rfl, rfl, rfl, trivial⟩⟩
    · try simp only [decide_eq_true_eq, decide_eq_false_iff_not, Bool.not_eq_true', Bool.not_eq_false', bne_iff_ne, beq_iff_eq, ne_eq, Bool.not_true, Bool.not_false, beq_eq_false_iff_ne, bne_eq_false_iff_eq, Decidable.not_not, Int.not_lt, Int.not_le, Bool.and_eq_true, Bool.and_eq_false_iff, Bool.or_eq_true, Bool.or_eq_false_iff, List.length_map] at hc
      refine xa_exit ?_
      refine xa_seq ?_
      refine xa_region ?_
      refine x_move rfl rfl ?_
      apply x_call rfl
      · apply pa_cons
        · exact pa_plain rfl
        exact pa_nil
      · exact hC0
      · exact ⟨rfl, rfl, rfl, of_decide_eq_true rfl, rfl⟩
      · exact .inl rfl
      · exact back_nil
      · exact inst_own
      · exact fun _ => rfl
      intro g36
      (refine x_assign_own rfl rfl (by (simp; done)) rfl (fun _ => (slot_obj (by exact noRef_map fun _ => rfl))) (fun _ => rfl) ?_; intro g7)
      refine xr_nil ⟨nofun, [(.t 3, _), (.t 4, _), (.t 5, _), (.t 7, _), (.h 4, _), (.h 5, _), (.h 7, _)], ⟨rfl, rfl, rfl, rfl, rfl, rfl, rfl, rfl, rfl, rfl, rfl, rfl, rfl, rfl, trivial⟩, ?_⟩
      refine xa_seq ?_
      refine xa_seq ?_
      refine xa_region ?_
      refine x_assign rfl rfl rfl ?_
      refine xr_nil ⟨nofun, [(.t 3, _), (.t 4, _), (.t 5, _), (.t 7, _), (.t 8, _), (.h 4, _), (.h 5, _), (.h 7, _)], ⟨rfl, rfl, rfl, rfl, rfl, rfl, rfl, rfl, rfl, rfl, rfl, rfl, rfl, rfl, rfl, rfl, trivial⟩, ?_⟩
      refine xa_block ?_
      have hid := idn_of (show xs.length = gs.length by omega) fun i hi => hb5 i (by omega)
      subst hid
      have hzg := zeros_G (show m0.length = gs.length by omega) fun i hi => hb3 i (by omega)
      refine xa_loopK (β := Nat × List (List Int) × List Int) [(.t 3, _), (.t 4, _), (.t 5, _), (.t 7, _), (.h 7, _)] (fun (z : Nat × List (List Int) × List Int) => match z with | (r, m, g) => [(.t 8, iV r), (.h 4, .obj gm 0 1 (m.map oI)), (.h 5, .obj gx 0 1 (g.map iV))]) (fun (z : Nat × List (List Int) × List Int) => match z with | (r, m, g) => r ≤ js.length ∧ KI gs g m ∧ JSteps gs gs.length g (js.drop r) gz) (fun (z : Nat × List (List Int) × List Int) => match z with | (r, m, g) => js.length - r) (0, m0, idn gs.length) ⟨rfl, rfl, rfl, rfl, rfl, rfl, rfl, rfl, trivial⟩ ⟨Nat.zero_le _, KI.start hv (by simp) (fun i hi => idn_getD hi) hzg.1 hzg.2, hst⟩ ?_
      intro z hb
      obtain ⟨r, m, g⟩ := z
      try dsimp only at hb
      obtain ⟨hr1, hki, hst⟩ := hb
      have hsm := hki.sq.1
      have hsm1 := hsm.1
      have hgl := hki.sq.2
      refine xa_seq ?_
      refine xa_seq ?_
      refine xa_region ?_
      refine x_move rfl rfl ?_
      refine x_move rfl rfl ?_
      refine x_len_sl rfl rfl ?_
      refine x_lss rfl rfl ?_
      refine xr_nil ⟨nofun, [(.t 3, _), (.t 4, _), (.t 5, _), (.t 7, _), (.t 8, _), (.t 40, _), (.h 4, _), (.h 5, _), (.h 7, _)], ⟨rfl, rfl, rfl, rfl, rfl, rfl, rfl, rfl, rfl, rfl, rfl, rfl, rfl, rfl, rfl, rfl, rfl, rfl, trivial⟩, ?_⟩
      refine xa_cond rfl (fun hc => ?_) (fun hc => ?_)
      · try simp only [decide_eq_true_eq, decide_eq_false_iff_not, Bool.not_eq_true', Bool.not_eq_false', bne_iff_ne, beq_iff_eq, ne_eq, Bool.not_true, Bool.not_false, beq_eq_false_iff_ne, bne_eq_false_iff_eq, Decidable.not_not, Int.not_lt, Int.not_le, Bool.and_eq_true, Bool.and_eq_false_iff, Bool.or_eq_true, Bool.or_eq_false_iff, List.length_map] at hc
        rw [drop_getD (by omega)] at hst
        obtain ⟨hjo, hst⟩ := hst
        obtain ⟨hj1, hj2, hj3, hj4, hj5⟩ := id hjo
        refine xa_skip ?_
        refine xa_seq ?_
        refine xa_block ?_
        refine xa_seq ?_
        refine xa_region ?_
        refine x_move rfl rfl ?_
        refine x_move rfl rfl ?_
        refine x_move rfl rfl ?_
        refine x_index_slN rfl rfl rfl rfl (by (simp; omega)) (by (simp; done)) rfl ?_
        refine x_fieldAddr rfl rfl (by decide) rfl rfl ?_
        refine x_load_mapN rfl rfl (by omega) (fun _ => rfl) rfl rfl ?_
        refine x_index_slN rfl rfl rfl rfl (by omega) (by (simp; omega)) rfl ?_
        refine x_load_mapV rfl rfl (by omega) (fun _ => rfl) (fun _ => rfl) rfl ?_
        refine x_assign rfl rfl rfl ?_
        refine xr_nil ⟨nofun, [(.t 3, _), (.t 4, _), (.t 5, _), (.t 7, _), (.t 8, _), (.t 9, _), (.h 4, _), (.h 5, _), (.h 7, _)], ⟨rfl, rfl, rfl, rfl, rfl, rfl, rfl, rfl, rfl, rfl, rfl, rfl, rfl, rfl, rfl, rfl, rfl, rfl, trivial⟩, ?_⟩
        refine xa_seq ?_
        refine xa_region ?_
        refine x_move rfl rfl ?_
        refine x_move rfl rfl ?_
        refine x_move rfl rfl ?_
        refine x_index_slN rfl rfl rfl rfl (by (simp; omega)) (by (simp; done)) rfl ?_
        refine x_fieldAddr rfl rfl (by decide) rfl rfl ?_
        refine x_load_mapN rfl rfl (by omega) (fun _ => rfl) rfl rfl ?_
        refine x_index_slN rfl rfl rfl rfl (by omega) (by (simp; omega)) rfl ?_
        refine x_load_mapV rfl rfl (by omega) (fun _ => rfl) (fun _ => rfl) rfl ?_
        refine x_assign rfl rfl rfl ?_
        refine xr_nil ⟨nofun, [(.t 3, _), (.t 4, _), (.t 5, _), (.t 7, _), (.t 8, _), (.t 9, _), (.t 10, _), (.h 4, _), (.h 5, _), (.h 7, _)], ⟨rfl, rfl, rfl, rfl, rfl, rfl, rfl, rfl, rfl, rfl, rfl, rfl, rfl, rfl, rfl, rfl, rfl, rfl, rfl, rfl, trivial⟩, ?_⟩
        refine xa_seq ?_
        refine xa_seq ?_
        refine xa_region ?_
        refine x_assign rfl rfl rfl ?_
        refine xr_nil ⟨nofun, [(.t 3, _), (.t 4, _), (.t 5, _), (.t 7, _), (.t 8, _), (.t 9, _), (.t 10, _), (.t 11, _), (.h 4, _), (.h 5, _), (.h 7, _)], ⟨rfl, rfl, rfl, rfl, rfl, rfl, rfl, rfl, rfl, rfl, rfl, rfl, rfl, rfl, rfl, rfl, rfl, rfl, rfl, rfl, rfl, rfl, trivial⟩, ?_⟩
        refine xa_block ?_
        refine xa_loopK (β := Nat × List (List Int)) [(.t 3, _), (.t 4, _), (.t 5, _), (.t 7, _), (.t 8, _), (.t 9, _), (.t 10, _), (.h 5, _), (.h 7, _)] (fun (z : Nat × List (List Int)) => match z with | (a, m1) => [(.t 11, iV a), (.h 4, .obj gm 0 1 (m1.map oI))]) (fun (z : Nat × List (List Int)) => match z with | (a, m1) => a ≤ gs.length ∧ Put gs.length (fun x y => x < a ∧ JC2 g (js.getD r default) x y) (js.getD r default).2.2 m m1) (fun (z : Nat × List (List Int)) => match z with | (a, m1) => gs.length - a) (0, m) ⟨rfl, rfl, rfl, rfl, rfl, rfl, rfl, rfl, rfl, rfl, rfl, trivial⟩ ⟨Nat.zero_le _, Put.start hsm _ _⟩ ?_
        intro z hb
        obtain ⟨a, m1⟩ := z
        try dsimp only at hb
        obtain ⟨ha1, hp1⟩ := hb
        refine xa_seq ?_
        refine xa_seq ?_
        refine xa_region ?_
        refine x_move rfl rfl ?_
        refine x_move rfl rfl ?_
        refine x_lss rfl rfl ?_
        refine xr_nil ⟨nofun, [(.t 3, _), (.t 4, _), (.t 5, _), (.t 7, _), (.t 8, _), (.t 9, _), (.t 10, _), (.t 11, _), (.t 61, _), (.h 4, _), (.h 5, _), (.h 7, _)], ⟨rfl, rfl, rfl, rfl, rfl, rfl, rfl, rfl, rfl, rfl, rfl, rfl, rfl, rfl, rfl, rfl, rfl, rfl, rfl, rfl, rfl, rfl, rfl, rfl, trivial⟩, ?_⟩
        refine xa_cond rfl (fun hc => ?_) (fun hc => ?_)
        · try simp only [decide_eq_true_eq, decide_eq_false_iff_not, Bool.not_eq_true', Bool.not_eq_false', bne_iff_ne, beq_iff_eq, ne_eq, Bool.not_true, Bool.not_false, beq_eq_false_iff_ne, bne_eq_false_iff_eq, Decidable.not_not, Int.not_lt, Int.not_le, Bool.and_eq_true, Bool.and_eq_false_iff, Bool.or_eq_true, Bool.or_eq_false_iff, List.length_map] at hc
          refine xa_skip ?_
          refine xa_seq ?_
          refine xa_block ?_
          refine xa_seq ?_
          refine xa_region ?_
          refine x_assign rfl rfl rfl ?_
          refine xr_nil ⟨nofun, [(.t 3, _), (.t 4, _), (.t 5, _), (.t 7, _), (.t 8, _), (.t 9, _), (.t 10, _), (.t 11, _), (.t 12, _), (.h 4, _), (.h 5, _), (.h 7, _)], ⟨rfl, rfl, rfl, rfl, rfl, rfl, rfl, rfl, rfl, rfl, rfl, rfl, rfl, rfl, rfl, rfl, rfl, rfl, rfl, rfl, rfl, rfl, rfl, rfl, trivial⟩, ?_⟩
          refine xa_block ?_
          refine xa_loopK (β := Nat × List (List Int)) [(.t 3, _), (.t 4, _), (.t 5, _), (.t 7, _), (.t 8, _), (.t 9, _), (.t 10, _), (.t 11, _), (.h 5, _), (.h 7, _)] (fun (z : Nat × List (List Int)) => match z with | (b, m2) => [(.t 12, iV b), (.h 4, .obj gm 0 1 (m2.map oI))]) (fun (z : Nat × List (List Int)) => match z with | (b, m2) => b ≤ gs.length ∧ Put gs.length (C2 a b (JC2 g (js.getD r default))) (js.getD r default).2.2 m m2) (fun (z : Nat × List (List Int)) => match z with | (b, m2) => gs.length - b) (0, m1) ⟨rfl, rfl, rfl, rfl, rfl, rfl, rfl, rfl, rfl, rfl, rfl, rfl, trivial⟩ ⟨Nat.zero_le _, hp1.row⟩ ?_
          intro z hb
          obtain ⟨b, m2⟩ := z
          try dsimp only at hb
          obtain ⟨hb6, hp⟩ := hb
          have hl2 := hp.1.1
          have hla := hp.1.2 a
          refine xa_seq ?_
          refine xa_seq ?_
          refine xa_region ?_
          refine x_move rfl rfl ?_
          refine x_move rfl rfl ?_
          refine x_lss rfl rfl ?_
          refine xr_nil ⟨nofun, [(.t 3, _), (.t 4, _), (.t 5, _), (.t 7, _), (.t 8, _), (.t 9, _), (.t 10, _), (.t 11, _), (.t 12, _), (.t 66, _), (.h 4, _), (.h 5, _), (.h 7, _)], ⟨rfl, rfl, rfl, rfl, rfl, rfl, rfl, rfl, rfl, rfl, rfl, rfl, rfl, rfl, rfl, rfl, rfl, rfl, rfl, rfl, rfl, rfl, rfl, rfl, rfl, rfl, trivial⟩, ?_⟩
          refine xa_cond rfl (fun hc => ?_) (fun hc => ?_)
          · try simp only [decide_eq_true_eq, decide_eq_false_iff_not, Bool.not_eq_true', Bool.not_eq_false', bne_iff_ne, beq_iff_eq, ne_eq, Bool.not_true, Bool.not_false, beq_eq_false_iff_ne, bne_eq_false_iff_eq, Decidable.not_not, Int.not_lt, Int.not_le, Bool.and_eq_true, Bool.and_eq_false_iff, Bool.or_eq_true, Bool.or_eq_false_iff, List.length_map] at hc
            refine xa_skip ?_
            refine xa_seq ?_
            refine xa_block ?_
            refine xa_seq ?_
            refine xa_region ?_
            refine x_move rfl rfl ?_
            refine x_move rfl rfl ?_
            refine x_index_slN rfl rfl rfl rfl (by omega) (by (simp; omega)) rfl ?_
            refine x_load_mapV rfl rfl (by omega) (fun _ => rfl) (fun _ => rfl) rfl ?_
            refine x_move rfl rfl ?_
            refine x_eql rfl rfl ?_
            refine x_move rfl rfl ?_
            refine x_guard_split rfl rfl (fun hg0 => ?_) (fun hg0 => ?_)
            · have hg := hg0; try simp only [decide_eq_true_eq, decide_eq_false_iff_not, Bool.not_eq_true', Bool.not_eq_false', bne_iff_ne, beq_iff_eq, ne_eq, Bool.not_true, Bool.not_false, beq_eq_false_iff_ne, bne_eq_false_iff_eq, Decidable.not_not, Int.not_lt, Int.not_le, Bool.and_eq_true, Bool.and_eq_false_iff, Bool.or_eq_true, Bool.or_eq_false_iff] at hg
              refine x_move rfl rfl ?_
              refine x_guard_t rfl rfl (by assumption) ?_
              refine x_move rfl rfl ?_
              refine x_guard_t rfl rfl (by assumption) ?_
              refine x_index_slN rfl rfl rfl rfl (by omega) (by (simp; omega)) rfl ?_
              refine x_guard_t rfl rfl (by assumption) ?_
              refine x_load_mapV rfl rfl (by omega) (fun _ => rfl) (fun _ => rfl) rfl ?_
              refine x_guard_t rfl rfl (by assumption) ?_
              refine x_move rfl rfl ?_
              refine x_guard_t rfl rfl (by assumption) ?_
              refine x_eql rfl rfl ?_
              refine x_pick_t rfl (by assumption) rfl rfl ?_
              refine x_move rfl rfl ?_
              refine x_guard_split rfl rfl (fun hg0 => ?_) (fun hg0 => ?_)
              · have hg := hg0; try simp only [decide_eq_true_eq, decide_eq_false_iff_not, Bool.not_eq_true', Bool.not_eq_false', bne_iff_ne, beq_iff_eq, ne_eq, Bool.not_true, Bool.not_false, beq_eq_false_iff_ne, bne_eq_false_iff_eq, Decidable.not_not, Int.not_lt, Int.not_le, Bool.and_eq_true, Bool.and_eq_false_iff, Bool.or_eq_true, Bool.or_eq_false_iff] at hg
                refine x_move rfl rfl ?_
                refine x_guard_t rfl rfl (by assumption) ?_
                refine x_move rfl rfl ?_
                refine x_guard_t rfl rfl (by assumption) ?_
                refine x_index_slN rfl rfl rfl rfl (by omega) (by (simp; omega)) rfl ?_
                refine x_guard_t rfl rfl (by assumption) ?_
                refine x_load_mapV rfl rfl (by omega) (fun _ => rfl) (fun _ => rfl) rfl ?_
                refine x_guard_t rfl rfl (by assumption) ?_
                refine x_move rfl rfl ?_
                refine x_guard_t rfl rfl (by assumption) ?_
                refine x_eql rfl rfl ?_
                refine x_guard_t rfl rfl (by assumption) ?_
                refine x_move rfl rfl ?_
                refine x_guard_split rfl rfl (fun hg0 => ?_) (fun hg0 => ?_)
                · have hg := hg0; try simp only [decide_eq_true_eq, decide_eq_false_iff_not, Bool.not_eq_true', Bool.not_eq_false', bne_iff_ne, beq_iff_eq, ne_eq, Bool.not_true, Bool.not_false, beq_eq_false_iff_ne, bne_eq_false_iff_eq, Decidable.not_not, Int.not_lt, Int.not_le, Bool.and_eq_true, Bool.and_eq_false_iff, Bool.or_eq_true, Bool.or_eq_false_iff] at hg
                  refine x_move rfl rfl ?_
                  refine x_guard_t rfl rfl (by assumption) ?_
                  refine x_move rfl rfl ?_
                  refine x_guard_t rfl rfl (by assumption) ?_
                  refine x_index_slN rfl rfl rfl rfl (by omega) (by (simp; omega)) rfl ?_
                  refine x_guard_t rfl rfl (by assumption) ?_
                  refine x_load_mapV rfl rfl (by omega) (fun _ => rfl) (fun _ => rfl) rfl ?_
                  refine x_guard_t rfl rfl (by assumption) ?_
                  refine x_move rfl rfl ?_
                  refine x_guard_t rfl rfl (by assumption) ?_
                  refine x_eql rfl rfl ?_
                  refine x_guard_t rfl rfl (by assumption) ?_
                  refine x_pick_t rfl (by assumption) rfl rfl ?_
                  refine x_pick_f rfl (by assumption) rfl rfl ?_
                  refine xr_nil ⟨nofun, [(.t 3, _), (.t 4, _), (.t 5, _), (.t 7, _), (.t 8, _), (.t 9, _), (.t 10, _), (.t 11, _), (.t 12, _), (.t 98, _), (.h 4, _), (.h 5, _), (.h 7, _)], ⟨rfl, rfl, rfl, rfl, rfl, rfl, rfl, rfl, rfl, rfl, rfl, rfl, rfl, rfl, rfl, rfl, rfl, rfl, rfl, rfl, rfl, rfl, rfl, rfl, rfl, rfl, trivial⟩, ?_⟩
                  refine xa_cond rfl (fun hc => ?_) (fun hc => ?_)
                  · try simp only [decide_eq_true_eq, decide_eq_false_iff_not, Bool.not_eq_true', Bool.not_eq_false', bne_iff_ne, beq_iff_eq, ne_eq, Bool.not_true, Bool.not_false, beq_eq_false_iff_ne, bne_eq_false_iff_eq, Decidable.not_not, Int.not_lt, Int.not_le, Bool.and_eq_true, Bool.and_eq_false_iff, Bool.or_eq_true, Bool.or_eq_false_iff, List.length_map] at hc
                    refine xa_region ?_
                    refine x_move rfl rfl ?_
                    refine x_move rfl rfl ?_
                    refine x_index_slN rfl rfl rfl rfl (by omega) (by (simp; omega)) rfl ?_
                    refine x_load_map rfl rfl (by omega) rfl rfl ?_
                    refine x_move rfl rfl ?_
                    refine x_move rfl rfl ?_
                    refine x_move rfl rfl ?_
                    refine x_index_slN rfl rfl rfl rfl (by omega) (by (simp; done)) rfl ?_
                    refine x_fieldAddr rfl rfl (by decide) rfl rfl ?_
                    refine x_load_mapN rfl rfl (by omega) (fun _ => rfl) rfl rfl ?_
                    refine x_index_rowN rfl rfl rfl (by omega) rfl rfl (by omega) rfl ?_
                    refine x_store_row rfl rfl rfl (by omega) (by omega) rfl (by decide) (slot_obj (noRef_map fun _ => noRef_oI _)) ?_
                    refine xr_nil ⟨fun _ => ⟨by decide +kernel, by decide +kernel⟩, [(.t 3, _), (.t 4, _), (.t 5, _), (.t 7, _), (.t 8, _), (.t 9, _), (.t 10, _), (.t 11, _), (.t 12, _), (.h 4, _), (.h 5, _), (.h 7, _)], ⟨rfl, rfl, rfl, rfl, rfl, rfl, rfl, rfl, rfl, rfl, rfl, rfl, rfl, rfl, rfl, rfl, rfl, rfl, rfl, rfl, rfl, rfl, rfl, rfl, trivial⟩, ?_⟩
                    refine xa_region ?_
                    refine x_move rfl rfl ?_
                    refine x_add rfl rfl (inI64 (by omega)) ?_
                    refine x_assign rfl rfl rfl ?_
                    refine xr_nil ⟨nofun, [(.t 3, _), (.t 4, _), (.t 5, _), (.t 7, _), (.t 8, _), (.t 9, _), (.t 10, _), (.t 11, _), (.t 12, _), (.h 4, _), (.h 5, _), (.h 7, _)], ⟨rfl, rfl, rfl, rfl, rfl, rfl, rfl, rfl, rfl, rfl, rfl, rfl, rfl, rfl, rfl, rfl, rfl, rfl, rfl, rfl, rfl, rfl, rfl, rfl, trivial⟩, ?_⟩
                    refine ⟨(b + 1, m2.set a ((m2.getD a default).set b (js.getD r default).2.2)), ?_, (by simp only; omega), ⟨rfl, rfl, rfl, rfl, rfl, rfl, rfl, rfl, rfl, rfl, rfl, rfl, trivial⟩⟩
                    exact ⟨by omega, hp.stepT (by omega) (by omega) (by simp only [JC, JC2, Lab]; omega)⟩
                  · try simp only [decide_eq_true_eq, decide_eq_false_iff_not, Bool.not_eq_true', Bool.not_eq_false', bne_iff_ne, beq_iff_eq, ne_eq, Bool.not_true, Bool.not_false, beq_eq_false_iff_ne, bne_eq_false_iff_eq, Decidable.not_not, Int.not_lt, Int.not_le, Bool.and_eq_true, Bool.and_eq_false_iff, Bool.or_eq_true, Bool.or_eq_false_iff, List.length_map] at hc
                    refine xa_skip ?_
                    refine xa_region ?_
                    refine x_move rfl rfl ?_
                    refine x_add rfl rfl (inI64 (by omega)) ?_
                    refine x_assign rfl rfl rfl ?_
                    refine xr_nil ⟨nofun, [(.t 3, _), (.t 4, _), (.t 5, _), (.t 7, _), (.t 8, _), (.t 9, _), (.t 10, _), (.t 11, _), (.t 12, _), (.h 4, _), (.h 5, _), (.h 7, _)], ⟨rfl, rfl, rfl, rfl, rfl, rfl, rfl, rfl, rfl, rfl, rfl, rfl, rfl, rfl, rfl, rfl, rfl, rfl, rfl, rfl, rfl, rfl, rfl, rfl, trivial⟩, ?_⟩
                    refine ⟨(b + 1, m2), ?_, (by simp only; omega), ⟨rfl, rfl, rfl, rfl, rfl, rfl, rfl, rfl, rfl, rfl, rfl, rfl, trivial⟩⟩
                    exact ⟨by omega, hp.stepF (by simp only [JC, JC2, Lab]; omega)⟩
                · have hg := hg0; try simp only [decide_eq_true_eq, decide_eq_false_iff_not, Bool.not_eq_true', Bool.not_eq_false', bne_iff_ne, beq_iff_eq, ne_eq, Bool.not_true, Bool.not_false, beq_eq_false_iff_ne, bne_eq_false_iff_eq, Decidable.not_not, Int.not_lt, Int.not_le, Bool.and_eq_true, Bool.and_eq_false_iff, Bool.or_eq_true, Bool.or_eq_false_iff] at hg
                  refine x_guard_f rfl rfl (by assumption) ?_
                  refine x_guard_f rfl rfl (by assumption) ?_
                  refine x_guard_f rfl rfl (by assumption) ?_
                  refine x_guard_f rfl rfl (by assumption) ?_
                  refine x_guard_f rfl rfl (by assumption) ?_
                  refine x_guard_t rfl rfl (by assumption) ?_
                  refine x_pick_f rfl (by assumption) rfl rfl ?_
                  refine x_pick_f rfl (by assumption) rfl rfl ?_
                  refine xr_nil ⟨nofun, [(.t 3, _), (.t 4, _), (.t 5, _), (.t 7, _), (.t 8, _), (.t 9, _), (.t 10, _), (.t 11, _), (.t 12, _), (.t 98, _), (.h 4, _), (.h 5, _), (.h 7, _)], ⟨rfl, rfl, rfl, rfl, rfl, rfl, rfl, rfl, rfl, rfl, rfl, rfl, rfl, rfl, rfl, rfl, rfl, rfl, rfl, rfl, rfl, rfl, rfl, rfl, rfl, rfl, trivial⟩, ?_⟩
                  refine xa_cond rfl (fun hc => absurd hc (by decide)) (fun hc => ?_)
                  refine xa_skip ?_
                  refine xa_region ?_
                  refine x_move rfl rfl ?_
                  refine x_add rfl rfl (inI64 (by omega)) ?_
                  refine x_assign rfl rfl rfl ?_
                  refine xr_nil ⟨nofun, [(.t 3, _), (.t 4, _), (.t 5, _), (.t 7, _), (.t 8, _), (.t 9, _), (.t 10, _), (.t 11, _), (.t 12, _), (.h 4, _), (.h 5, _), (.h 7, _)], ⟨rfl, rfl, rfl, rfl, rfl, rfl, rfl, rfl, rfl, rfl, rfl, rfl, rfl, rfl, rfl, rfl, rfl, rfl, rfl, rfl, rfl, rfl, rfl, rfl, trivial⟩, ?_⟩
                  refine ⟨(b + 1, m2), ?_, (by simp only; omega), ⟨rfl, rfl, rfl, rfl, rfl, rfl, rfl, rfl, rfl, rfl, rfl, rfl, trivial⟩⟩
                  exact ⟨by omega, hp.stepF (by simp only [JC, JC2, Lab]; omega)⟩
              · have hg := hg0; try simp only [decide_eq_true_eq, decide_eq_false_iff_not, Bool.not_eq_true', Bool.not_eq_false', bne_iff_ne, beq_iff_eq, ne_eq, Bool.not_true, Bool.not_false, beq_eq_false_iff_ne, bne_eq_false_iff_eq, Decidable.not_not, Int.not_lt, Int.not_le, Bool.and_eq_true, Bool.and_eq_false_iff, Bool.or_eq_true, Bool.or_eq_false_iff] at hg
                refine x_guard_f rfl rfl (by assumption) ?_
                refine x_guard_f rfl rfl (by assumption) ?_
                refine x_guard_f rfl rfl (by assumption) ?_
                refine x_guard_f rfl rfl (by assumption) ?_
                refine x_guard_f rfl rfl (by assumption) ?_
                refine x_guard_f rfl rfl (by assumption) ?_
                refine x_guard_u rfl rfl ?_
                refine x_guard_u rfl rfl ?_
                refine x_guard_u rfl rfl ?_
                refine x_guard_u rfl rfl ?_
                refine x_guard_u rfl rfl ?_
                refine x_guard_u rfl rfl ?_
                refine x_guard_f rfl rfl (by assumption) ?_
                refine x_pick_t rfl (by assumption) rfl rfl ?_
                refine xr_nil ⟨nofun, [(.t 3, _), (.t 4, _), (.t 5, _), (.t 7, _), (.t 8, _), (.t 9, _), (.t 10, _), (.t 11, _), (.t 12, _), (.t 98, _), (.h 4, _), (.h 5, _), (.h 7, _)], ⟨rfl, rfl, rfl, rfl, rfl, rfl, rfl, rfl, rfl, rfl, rfl, rfl, rfl, rfl, rfl, rfl, rfl, rfl, rfl, rfl, rfl, rfl, rfl, rfl, rfl, rfl, trivial⟩, ?_⟩
                refine xa_cond rfl (fun hc => ?_) (fun hc => absurd hc (by decide))
                refine xa_region ?_
                refine x_move rfl rfl ?_
                refine x_move rfl rfl ?_
                refine x_index_slN rfl rfl rfl rfl (by omega) (by (simp; omega)) rfl ?_
                refine x_load_map rfl rfl (by omega) rfl rfl ?_
                refine x_move rfl rfl ?_
                refine x_move rfl rfl ?_
                refine x_move rfl rfl ?_
                refine x_index_slN rfl rfl rfl rfl (by (simp; omega)) (by (simp; done)) rfl ?_
                refine x_fieldAddr rfl rfl (by decide) rfl rfl ?_
                refine x_load_mapN rfl rfl (by omega) (fun _ => rfl) rfl rfl ?_
                refine x_index_rowN rfl rfl rfl (by omega) rfl rfl (by omega) rfl ?_
                refine x_store_row rfl rfl rfl (by omega) (by omega) rfl (by decide) (slot_obj (noRef_map fun _ => noRef_oI _)) ?_
                refine xr_nil ⟨fun _ => ⟨by decide +kernel, by decide +kernel⟩, [(.t 3, _), (.t 4, _), (.t 5, _), (.t 7, _), (.t 8, _), (.t 9, _), (.t 10, _), (.t 11, _), (.t 12, _), (.h 4, _), (.h 5, _), (.h 7, _)], ⟨rfl, rfl, rfl, rfl, rfl, rfl, rfl, rfl, rfl, rfl, rfl, rfl, rfl, rfl, rfl, rfl, rfl, rfl, rfl, rfl, rfl, rfl, rfl, rfl, trivial⟩, ?_⟩
                refine xa_region ?_
                refine x_move rfl rfl ?_
                refine x_add rfl rfl (inI64 (by omega)) ?_
                refine x_assign rfl rfl rfl ?_
                refine xr_nil ⟨nofun, [(.t 3, _), (.t 4, _), (.t 5, _), (.t 7, _), (.t 8, _), (.t 9, _), (.t 10, _), (.t 11, _), (.t 12, _), (.h 4, _), (.h 5, _), (.h 7, _)], ⟨rfl, rfl, rfl, rfl, rfl, rfl, rfl, rfl, rfl, rfl, rfl, rfl, rfl, rfl, rfl, rfl, rfl, rfl, rfl, rfl, rfl, rfl, rfl, rfl, trivial⟩, ?_⟩
                refine ⟨(b + 1, m2.set a ((m2.getD a default).set b (js.getD r default).2.2)), ?_, (by simp only; omega), ⟨rfl, rfl, rfl, rfl, rfl, rfl, rfl, rfl, rfl, rfl, rfl, rfl, trivial⟩⟩
                exact ⟨by omega, hp.stepT (by omega) (by omega) (by simp only [JC, JC2, Lab]; omega)⟩
            · have hg := hg0; try simp only [decide_eq_true_eq, decide_eq_false_iff_not, Bool.not_eq_true', Bool.not_eq_false', bne_iff_ne, beq_iff_eq, ne_eq, Bool.not_true, Bool.not_false, beq_eq_false_iff_ne, bne_eq_false_iff_eq, Decidable.not_not, Int.not_lt, Int.not_le, Bool.and_eq_true, Bool.and_eq_false_iff, Bool.or_eq_true, Bool.or_eq_false_iff] at hg
              refine x_guard_f rfl rfl (by assumption) ?_
              refine x_guard_f rfl rfl (by assumption) ?_
              refine x_guard_f rfl rfl (by assumption) ?_
              refine x_guard_f rfl rfl (by assumption) ?_
              refine x_guard_f rfl rfl (by assumption) ?_
              refine x_pick_f rfl (by assumption) rfl rfl ?_
              refine x_move rfl rfl ?_
              refine x_guard_t rfl rfl (by rfl) ?_
              refine x_move rfl rfl ?_
              refine x_guard_t rfl rfl (by rfl) ?_
              refine x_move rfl rfl ?_
              refine x_guard_t rfl rfl (by rfl) ?_
              refine x_index_slN rfl rfl rfl rfl (by omega) (by (simp; omega)) rfl ?_
              refine x_guard_t rfl rfl (by rfl) ?_
              refine x_load_mapV rfl rfl (by omega) (fun _ => rfl) (fun _ => rfl) rfl ?_
              refine x_guard_t rfl rfl (by rfl) ?_
              refine x_move rfl rfl ?_
              refine x_guard_t rfl rfl (by rfl) ?_
              refine x_eql rfl rfl ?_
              refine x_guard_t rfl rfl (by rfl) ?_
              refine x_move rfl rfl ?_
              refine x_guard_split rfl rfl (fun hg0 => ?_) (fun hg0 => ?_)
              · have hg := hg0; try simp only [decide_eq_true_eq, decide_eq_false_iff_not, Bool.not_eq_true', Bool.not_eq_false', bne_iff_ne, beq_iff_eq, ne_eq, Bool.not_true, Bool.not_false, beq_eq_false_iff_ne, bne_eq_false_iff_eq, Decidable.not_not, Int.not_lt, Int.not_le, Bool.and_eq_true, Bool.and_eq_false_iff, Bool.or_eq_true, Bool.or_eq_false_iff] at hg
                refine x_move rfl rfl ?_
                refine x_guard_t rfl rfl (by assumption) ?_
                refine x_move rfl rfl ?_
                refine x_guard_t rfl rfl (by assumption) ?_
                refine x_index_slN rfl rfl rfl rfl (by omega) (by (simp; omega)) rfl ?_
                refine x_guard_t rfl rfl (by assumption) ?_
                refine x_load_mapV rfl rfl (by omega) (fun _ => rfl) (fun _ => rfl) rfl ?_
                refine x_guard_t rfl rfl (by assumption) ?_
                refine x_move rfl rfl ?_
                refine x_guard_t rfl rfl (by assumption) ?_
                refine x_eql rfl rfl ?_
                refine x_guard_t rfl rfl (by rfl) ?_
                refine x_pick_t rfl (by assumption) rfl rfl ?_
                refine x_pick_f rfl (by rfl) rfl rfl ?_
                refine xr_nil ⟨nofun, [(.t 3, _), (.t 4, _), (.t 5, _), (.t 7, _), (.t 8, _), (.t 9, _), (.t 10, _), (.t 11, _), (.t 12, _), (.t 98, _), (.h 4, _), (.h 5, _), (.h 7, _)], ⟨rfl, rfl, rfl, rfl, rfl, rfl, rfl, rfl, rfl, rfl, rfl, rfl, rfl, rfl, rfl, rfl, rfl, rfl, rfl, rfl, rfl, rfl, rfl, rfl, rfl, rfl, trivial⟩, ?_⟩
                refine xa_cond rfl (fun hc => ?_) (fun hc => ?_)
                · try simp only [decide_eq_true_eq, decide_eq_false_iff_not, Bool.not_eq_true', Bool.not_eq_false', bne_iff_ne, beq_iff_eq, ne_eq, Bool.not_true, Bool.not_false, beq_eq_false_iff_ne, bne_eq_false_iff_eq, Decidable.not_not, Int.not_lt, Int.not_le, Bool.and_eq_true, Bool.and_eq_false_iff, Bool.or_eq_true, Bool.or_eq_false_iff, List.length_map] at hc
                  refine xa_region ?_
                  refine x_move rfl rfl ?_
                  refine x_move rfl rfl ?_
                  refine x_index_slN rfl rfl rfl rfl (by omega) (by (simp; omega)) rfl ?_
                  refine x_load_map rfl rfl (by omega) rfl rfl ?_
                  refine x_move rfl rfl ?_
                  refine x_move rfl rfl ?_
                  refine x_move rfl rfl ?_
                  refine x_index_slN rfl rfl rfl rfl (by (simp; omega)) (by (simp; done)) rfl ?_
                  refine x_fieldAddr rfl rfl (by decide) rfl rfl ?_
                  refine x_load_mapN rfl rfl (by omega) (fun _ => rfl) rfl rfl ?_
                  refine x_index_rowN rfl rfl rfl (by omega) rfl rfl (by omega) rfl ?_
                  refine x_store_row rfl rfl rfl (by omega) (by omega) rfl (by decide) (slot_obj (noRef_map fun _ => noRef_oI _)) ?_
                  refine xr_nil ⟨fun _ => ⟨by decide +kernel, by decide +kernel⟩, [(.t 3, _), (.t 4, _), (.t 5, _), (.t 7, _), (.t 8, _), (.t 9, _), (.t 10, _), (.t 11, _), (.t 12, _), (.h 4, _), (.h 5, _), (.h 7, _)], ⟨rfl, rfl, rfl, rfl, rfl, rfl, rfl, rfl, rfl, rfl, rfl, rfl, rfl, rfl, rfl, rfl, rfl, rfl, rfl, rfl, rfl, rfl, rfl, rfl, trivial⟩, ?_⟩
                  refine xa_region ?_
                  refine x_move rfl rfl ?_
                  refine x_add rfl rfl (inI64 (by omega)) ?_
                  refine x_assign rfl rfl rfl ?_
                  refine xr_nil ⟨nofun, [(.t 3, _), (.t 4, _), (.t 5, _), (.t 7, _), (.t 8, _), (.t 9, _), (.t 10, _), (.t 11, _), (.t 12, _), (.h 4, _), (.h 5, _), (.h 7, _)], ⟨rfl, rfl, rfl, rfl, rfl, rfl, rfl, rfl, rfl, rfl, rfl, rfl, rfl, rfl, rfl, rfl, rfl, rfl, rfl, rfl, rfl, rfl, rfl, rfl, trivial⟩, ?_⟩
                  refine ⟨(b + 1, m2.set a ((m2.getD a default).set b (js.getD r default).2.2)), ?_, (by simp only; omega), ⟨rfl, rfl, rfl, rfl, rfl, rfl, rfl, rfl, rfl, rfl, rfl, rfl, trivial⟩⟩
                  exact ⟨by omega, hp.stepT (by omega) (by omega) (by simp only [JC, JC2, Lab]; omega)⟩
                · try simp only [decide_eq_true_eq, decide_eq_false_iff_not, Bool.not_eq_true', Bool.not_eq_false', bne_iff_ne, beq_iff_eq, ne_eq, Bool.not_true, Bool.not_false, beq_eq_false_iff_ne, bne_eq_false_iff_eq, Decidable.not_not, Int.not_lt, Int.not_le, Bool.and_eq_true, Bool.and_eq_false_iff, Bool.or_eq_true, Bool.or_eq_false_iff, List.length_map] at hc
                  refine xa_skip ?_
                  refine xa_region ?_
                  refine x_move rfl rfl ?_
                  refine x_add rfl rfl (inI64 (by omega)) ?_
                  refine x_assign rfl rfl rfl ?_
                  refine xr_nil ⟨nofun, [(.t 3, _), (.t 4, _), (.t 5, _), (.t 7, _), (.t 8, _), (.t 9, _), (.t 10, _), (.t 11, _), (.t 12, _), (.h 4, _), (.h 5, _), (.h 7, _)], ⟨rfl, rfl, rfl, rfl, rfl, rfl, rfl, rfl, rfl, rfl, rfl, rfl, rfl, rfl, rfl, rfl, rfl, rfl, rfl, rfl, rfl, rfl, rfl, rfl, trivial⟩, ?_⟩
                  refine ⟨(b + 1, m2), ?_, (by simp only; omega), ⟨rfl, rfl, rfl, rfl, rfl, rfl, rfl, rfl, rfl, rfl, rfl, rfl, trivial⟩⟩
                  exact ⟨by omega, hp.stepF (by simp only [JC, JC2, Lab]; omega)⟩
              · have hg := hg0; try simp only [decide_eq_true_eq, decide_eq_false_iff_not, Bool.not_eq_true', Bool.not_eq_false', bne_iff_ne, beq_iff_eq, ne_eq, Bool.not_true, Bool.not_false, beq_eq_false_iff_ne, bne_eq_false_iff_eq, Decidable.not_not, Int.not_lt, Int.not_le, Bool.and_eq_true, Bool.and_eq_false_iff, Bool.or_eq_true, Bool.or_eq_false_iff] at hg
                refine x_guard_f rfl rfl (by assumption) ?_
                refine x_guard_f rfl rfl (by assumption) ?_
                refine x_guard_f rfl rfl (by assumption) ?_
                refine x_guard_f rfl rfl (by assumption) ?_
                refine x_guard_f rfl rfl (by assumption) ?_
                refine x_guard_t rfl rfl (by rfl) ?_
                refine x_pick_f rfl (by assumption) rfl rfl ?_
                refine x_pick_f rfl (by rfl) rfl rfl ?_
                refine xr_nil ⟨nofun, [(.t 3, _), (.t 4, _), (.t 5, _), (.t 7, _), (.t 8, _), (.t 9, _), (.t 10, _), (.t 11, _), (.t 12, _), (.t 98, _), (.h 4, _), (.h 5, _), (.h 7, _)], ⟨rfl, rfl, rfl, rfl, rfl, rfl, rfl, rfl, rfl, rfl, rfl, rfl, rfl, rfl, rfl, rfl, rfl, rfl, rfl, rfl, rfl, rfl, rfl, rfl, rfl, rfl, trivial⟩, ?_⟩
                refine xa_cond rfl (fun hc => absurd hc (by decide)) (fun hc => ?_)
                refine xa_skip ?_
                refine xa_region ?_
                refine x_move rfl rfl ?_
                refine x_add rfl rfl (inI64 (by omega)) ?_
                refine x_assign rfl rfl rfl ?_
                refine xr_nil ⟨nofun, [(.t 3, _), (.t 4, _), (.t 5, _), (.t 7, _), (.t 8, _), (.t 9, _), (.t 10, _), (.t 11, _), (.t 12, _), (.h 4, _), (.h 5, _), (.h 7, _)], ⟨rfl, rfl, rfl, rfl, rfl, rfl, rfl, rfl, rfl, rfl, rfl, rfl, rfl, rfl, rfl, rfl, rfl, rfl, rfl, rfl, rfl, rfl, rfl, rfl, trivial⟩, ?_⟩
                refine ⟨(b + 1, m2), ?_, (by simp only; omega), ⟨rfl, rfl, rfl, rfl, rfl, rfl, rfl, rfl, rfl, rfl, rfl, rfl, trivial⟩⟩
                exact ⟨by omega, hp.stepF (by simp only [JC, JC2, Lab]; omega)⟩
          · try simp only [decide_eq_true_eq, decide_eq_false_iff_not, Bool.not_eq_true', Bool.not_eq_false', bne_iff_ne, beq_iff_eq, ne_eq, Bool.not_true, Bool.not_false, beq_eq_false_iff_ne, bne_eq_false_iff_eq, Decidable.not_not, Int.not_lt, Int.not_le, Bool.and_eq_true, Bool.and_eq_false_iff, Bool.or_eq_true, Bool.or_eq_false_iff, List.length_map] at hc
            refine xa_exit ?_
            refine xa_region ?_
            refine x_move rfl rfl ?_
            refine x_add rfl rfl (inI64 (by omega)) ?_
            refine x_assign rfl rfl rfl ?_
            refine xr_nil ⟨nofun, [(.t 3, _), (.t 4, _), (.t 5, _), (.t 7, _), (.t 8, _), (.t 9, _), (.t 10, _), (.t 11, _), (.h 4, _), (.h 5, _), (.h 7, _)], ⟨rfl, rfl, rfl, rfl, rfl, rfl, rfl, rfl, rfl, rfl, rfl, rfl, rfl, rfl, rfl, rfl, rfl, rfl, rfl, rfl, rfl, rfl, trivial⟩, ?_⟩
            refine ⟨(a + 1, m2), ⟨by omega, hp.rowEnd (by omega)⟩, (by simp only; omega), ⟨rfl, rfl, rfl, rfl, rfl, rfl, rfl, rfl, rfl, rfl, rfl, trivial⟩⟩
        · try simp only [decide_eq_true_eq, decide_eq_false_iff_not, Bool.not_eq_true', Bool.not_eq_false', bne_iff_ne, beq_iff_eq, ne_eq, Bool.not_true, Bool.not_false, beq_eq_false_iff_ne, bne_eq_false_iff_eq, Decidable.not_not, Int.not_lt, Int.not_le, Bool.and_eq_true, Bool.and_eq_false_iff, Bool.or_eq_true, Bool.or_eq_false_iff, List.length_map] at hc
          refine xa_exit ?_
          refine xa_seq ?_
          refine xa_region ?_
          refine x_assign rfl rfl rfl ?_
          refine xr_nil ⟨nofun, [(.t 3, _), (.t 4, _), (.t 5, _), (.t 7, _), (.t 8, _), (.t 9, _), (.t 10, _), (.t 13, _), (.h 4, _), (.h 5, _), (.h 7, _)], ⟨rfl, rfl, rfl, rfl, rfl, rfl, rfl, rfl, rfl, rfl, rfl, rfl, rfl, rfl, rfl, rfl, rfl, rfl, rfl, rfl, rfl, rfl, trivial⟩, ?_⟩
          refine xa_block ?_
          refine xa_loopK (β := Nat × List Int) [(.t 3, _), (.t 4, _), (.t 5, _), (.t 7, _), (.t 8, _), (.t 9, _), (.t 10, _), (.h 4, _), (.h 7, _)] (fun (z : Nat × List Int) => match z with | (c, gn) => [(.t 13, iV c), (.h 5, .obj gx 0 1 (gn.map iV))]) (fun (z : Nat × List Int) => match z with | (c, gn) => Upto (mf (g.getD (js.getD r default).1 default) (g.getD (js.getD r default).2.1 default)) g gn c) (fun (z : Nat × List Int) => match z with | (c, gn) => gs.length - c) (0, g) ⟨rfl, rfl, rfl, rfl, rfl, rfl, rfl, rfl, rfl, rfl, rfl, trivial⟩ (Upto.start _ _) ?_
          intro z hb
          obtain ⟨c, gn⟩ := z
          try dsimp only at hb
          have hu1 := hb.1
          have hu2 := hb.2.1
          refine xa_seq ?_
          refine xa_seq ?_
          refine xa_region ?_
          refine x_move rfl rfl ?_
          refine x_move rfl rfl ?_
          refine x_lss rfl rfl ?_
          refine xr_nil ⟨nofun, [(.t 3, _), (.t 4, _), (.t 5, _), (.t 7, _), (.t 8, _), (.t 9, _), (.t 10, _), (.t 13, _), (.t 112, _), (.h 4, _), (.h 5, _), (.h 7, _)], ⟨rfl, rfl, rfl, rfl, rfl, rfl, rfl, rfl, rfl, rfl, rfl, rfl, rfl, rfl, rfl, rfl, rfl, rfl, rfl, rfl, rfl, rfl, rfl, rfl, trivial⟩, ?_⟩
          refine xa_cond rfl (fun hc => ?_) (fun hc => ?_)
          · try simp only [decide_eq_true_eq, decide_eq_false_iff_not, Bool.not_eq_true', Bool.not_eq_false', bne_iff_ne, beq_iff_eq, ne_eq, Bool.not_true, Bool.not_false, beq_eq_false_iff_ne, bne_eq_false_iff_eq, Decidable.not_not, Int.not_lt, Int.not_le, Bool.and_eq_true, Bool.and_eq_false_iff, Bool.or_eq_true, Bool.or_eq_false_iff, List.length_map] at hc
            refine xa_skip ?_
            refine xa_seq ?_
            refine xa_block ?_
            refine xa_seq ?_
            refine xa_region ?_
            refine x_move rfl rfl ?_
            refine x_move rfl rfl ?_
            refine x_index_slN rfl rfl rfl rfl (by omega) (by (simp; omega)) rfl ?_
            refine x_load_mapV rfl rfl (by omega) (fun _ => rfl) (fun _ => rfl) rfl ?_
            refine x_move rfl rfl ?_
            refine x_eql rfl rfl ?_
            refine xr_nil ⟨nofun, [(.t 3, _), (.t 4, _), (.t 5, _), (.t 7, _), (.t 8, _), (.t 9, _), (.t 10, _), (.t 13, _), (.t 120, _), (.h 4, _), (.h 5, _), (.h 7, _)], ⟨rfl, rfl, rfl, rfl, rfl, rfl, rfl, rfl, rfl, rfl, rfl, rfl, rfl, rfl, rfl, rfl, rfl, rfl, rfl, rfl, rfl, rfl, rfl, rfl, trivial⟩, ?_⟩
            refine xa_cond rfl (fun hc => ?_) (fun hc => ?_)
            · try simp only [decide_eq_true_eq, decide_eq_false_iff_not, Bool.not_eq_true', Bool.not_eq_false', bne_iff_ne, beq_iff_eq, ne_eq, Bool.not_true, Bool.not_false, beq_eq_false_iff_ne, bne_eq_false_iff_eq, Decidable.not_not, Int.not_lt, Int.not_le, Bool.and_eq_true, Bool.and_eq_false_iff, Bool.or_eq_true, Bool.or_eq_false_iff, List.length_map] at hc
              refine xa_region ?_
              refine x_move rfl rfl ?_
              refine x_move rfl rfl ?_
              refine x_move rfl rfl ?_
              refine x_index_slN rfl rfl rfl rfl (by omega) (by (simp; omega)) rfl ?_
              refine x_store_mapO rfl rfl rfl (by omega) (fun _ _ => ⟨rfl, rfl, of_decide_eq_true rfl, of_decide_eq_true rfl, rfl, rfl⟩) (by decide) (by exact slot_obj (noRef_map fun _ => rfl)) ?_
              refine xr_nil ⟨nofun, [(.t 3, _), (.t 4, _), (.t 5, _), (.t 7, _), (.t 8, _), (.t 9, _), (.t 10, _), (.t 13, _), (.h 4, _), (.h 5, _), (.h 7, _)], ⟨rfl, rfl, rfl, rfl, rfl, rfl, rfl, rfl, rfl, rfl, rfl, rfl, rfl, rfl, rfl, rfl, rfl, rfl, rfl, rfl, rfl, rfl, trivial⟩, ?_⟩
              refine xa_region ?_
              refine x_move rfl rfl ?_
              refine x_add rfl rfl (inI64 (by omega)) ?_
              refine x_assign rfl rfl rfl ?_
              refine xr_nil ⟨nofun, [(.t 3, _), (.t 4, _), (.t 5, _), (.t 7, _), (.t 8, _), (.t 9, _), (.t 10, _), (.t 13, _), (.h 4, _), (.h 5, _), (.h 7, _)], ⟨rfl, rfl, rfl, rfl, rfl, rfl, rfl, rfl, rfl, rfl, rfl, rfl, rfl, rfl, rfl, rfl, rfl, rfl, rfl, rfl, rfl, rfl, trivial⟩, ?_⟩
              refine ⟨(c + 1, gn.set c (g.getD (js.getD r default).1 default)), ?_, (by simp only; omega), ⟨rfl, rfl, rfl, rfl, rfl, rfl, rfl, rfl, rfl, rfl, rfl, trivial⟩⟩
              exact hb.set (by omega) (mf_eq ((hb.cur (by omega)).symm.trans hc))
            · try simp only [decide_eq_true_eq, decide_eq_false_iff_not, Bool.not_eq_true', Bool.not_eq_false', bne_iff_ne, beq_iff_eq, ne_eq, Bool.not_true, Bool.not_false, beq_eq_false_iff_ne, bne_eq_false_iff_eq, Decidable.not_not, Int.not_lt, Int.not_le, Bool.and_eq_true, Bool.and_eq_false_iff, Bool.or_eq_true, Bool.or_eq_false_iff, List.length_map] at hc
              refine xa_skip ?_
              refine xa_region ?_
              refine x_move rfl rfl ?_
              refine x_add rfl rfl (inI64 (by omega)) ?_
              refine x_assign rfl rfl rfl ?_
              refine xr_nil ⟨nofun, [(.t 3, _), (.t 4, _), (.t 5, _), (.t 7, _), (.t 8, _), (.t 9, _), (.t 10, _), (.t 13, _), (.h 4, _), (.h 5, _), (.h 7, _)], ⟨rfl, rfl, rfl, rfl, rfl, rfl, rfl, rfl, rfl, rfl, rfl, rfl, rfl, rfl, rfl, rfl, rfl, rfl, rfl, rfl, rfl, rfl, trivial⟩, ?_⟩
              refine ⟨(c + 1, gn), ?_, (by simp only; omega), ⟨rfl, rfl, rfl, rfl, rfl, rfl, rfl, rfl, rfl, rfl, rfl, trivial⟩⟩
              exact hb.skip (by omega) (mf_ne fun e => hc ((hb.cur (by omega)).trans e))
          · try simp only [decide_eq_true_eq, decide_eq_false_iff_not, Bool.not_eq_true', Bool.not_eq_false', bne_iff_ne, beq_iff_eq, ne_eq, Bool.not_true, Bool.not_false, beq_eq_false_iff_ne, bne_eq_false_iff_eq, Decidable.not_not, Int.not_lt, Int.not_le, Bool.and_eq_true, Bool.and_eq_false_iff, Bool.or_eq_true, Bool.or_eq_false_iff, List.length_map] at hc
            refine xa_exit ?_
            refine xa_region ?_
            refine x_move rfl rfl ?_
            refine x_add rfl rfl (inI64 (by omega)) ?_
            refine x_assign rfl rfl rfl ?_
            refine xr_nil ⟨nofun, [(.t 3, _), (.t 4, _), (.t 5, _), (.t 7, _), (.t 8, _), (.h 4, _), (.h 5, _), (.h 7, _)], ⟨rfl, rfl, rfl, rfl, rfl, rfl, rfl, rfl, rfl, rfl, rfl, rfl, rfl, rfl, rfl, rfl, trivial⟩, ?_⟩
            have hen : mergeL g (js.getD r default).1 (js.getD r default).2.1 = gn := (hb.fin (by omega)).symm
            refine ⟨(r + 1, m1, gn), ⟨by omega, hen ▸ hki.put2 hv hjo (hp1.full (by omega)), hen ▸ hst⟩, (by simp only; omega), ⟨rfl, rfl, rfl, rfl, rfl, rfl, rfl, rfl, trivial⟩⟩
      · try simp only [decide_eq_true_eq, decide_eq_false_iff_not, Bool.not_eq_true', Bool.not_eq_false', bne_iff_ne, beq_iff_eq, ne_eq, Bool.not_true, Bool.not_false, beq_eq_false_iff_ne, bne_eq_false_iff_eq, Decidable.not_not, Int.not_lt, Int.not_le, Bool.and_eq_true, Bool.and_eq_false_iff, Bool.or_eq_true, Bool.or_eq_false_iff, List.length_map] at hc
        refine xa_exit ?_
        refine xa_seq ?_
        refine xa_region ?_
        refine x_move rfl rfl ?_
        (refine x_assign_own rfl rfl (by (rw [List.length_map]; omega)) rfl (fun _ => (slot_obj (by exact noRef_map fun _ => rfl))) (fun _ => rfl) ?_; intro g2)
        refine xr_nil ⟨nofun, [(.t 2, _), (.h 2, _)], ⟨rfl, rfl, rfl, rfl, trivial⟩, ?_⟩
        refine xa_ret ?_
        refine ret_own' rfl rfl (by (rw [List.length_map]; omega)) (by exact noRef_map fun _ => rfl) trivial ?_
        rw [List.drop_eq_nil_of_le (by omega)] at hst
        have e := hki.fin hv (fun i k hi hk => (hst i k hi hk).2 (hall i k hi hk))
        rw [if_pos (vg_iff.2 hv), e]

theorem keep_s_drawStepsByJoins : keepOf Try.f14 = [0, 2] := by kernel_rfl
set_option maxHeartbeats 20000000 in
theorem s_drawStepsByJoins (bs : List Int) (hbs : Bytes bs) (hl : bs.length ≤ 1048576) : ∃ res outs, (fun res outs => ∃ gs, res = .own 1 (List.map oI gs) ∧ outs = [] ∧ gs.length ≤ 6 ∧ ∀ a, (gs.getD a default).length ≤ 6) res outs ∧ CW cxT 14 [.list (bs.map uV)] = some (res, outs) := by
  refine fn_introP rfl Try.func14 rfl ⟨by kernel_rfl, rfl, of_decide_eq_true rfl, of_decide_eq_true rfl, by decide⟩ keep_s_drawStepsByJoins ?_
  refine xa_seq ?_
  refine xa_region ?_
  (refine x_assign_nil rfl rfl (fun _ => rfl) ?_; intro g2)
  refine xr_nil ⟨nofun, [(.t 0, _)], ⟨rfl, rfl, trivial⟩, ?_⟩
  refine xa_seq ?_
  refine xa_region ?_
  refine x_move rfl rfl ?_
  obtain ⟨_, _, ⟨rfl, rfl⟩, hC0⟩ := s_newReader bs hl
  have hbs2 : Bytes (bs.take 2000) := fun b hb => hbs b (List.mem_of_mem_take hb)
  apply x_call rfl
  · apply pa_cons
    · exact pa_plain rfl
    exact pa_nil
  · exact hC0
  · exact ⟨rfl, rfl, rfl, of_decide_eq_true rfl, rfl⟩
  · exact .inl rfl
  · exact back_nil
  · exact inst_box
  · exact fun _ => rfl
  intro g4
  obtain ⟨_, _, ⟨gs, p1, rfl, rfl, hp1, hp2, hg1, hg2⟩, hC1⟩ := s_someGaps (bs.take 2000) 0 hbs2 (by simp; omega) (by omega)
  apply x_call rfl
  · apply pa_cons
    · exact pa_box rfl (by decide) rfl
    exact pa_nil
  · exact hC1
  · exact ⟨rfl, rfl, rfl, of_decide_eq_true rfl, rfl⟩
  · exact .inl rfl
  · exact back_cons rfl rfl rfl back_nil
  · exact inst_own
  · exact fun _ => rfl
  intro g5
  (refine x_assign_own rfl rfl (by (simp; done)) rfl (fun _ => (slot_obj (by exact noRef_map fun _ => rfl))) (fun _ => rfl) ?_; intro g2)
  refine xr_nil ⟨nofun, [(.t 2, _), (.h 2, _)], ⟨rfl, rfl, rfl, rfl, trivial⟩, ?_⟩
  refine xa_ret ?_
  refine ⟨_, _, ?_, ret_own rfl rfl (by (simp; done)) (by exact noRef_map fun _ => rfl) outs_nil⟩
  exact ⟨_, rfl, rfl, hg1, hg2⟩

theorem keep_s_FnStepsByJoins : keepOf Try.f4 = [0, 2, 7, 3, 4, 21] := by kernel_rfl
set_option maxHeartbeats 20000000 in
theorem s_FnStepsByJoins (bs : List Int) (hbs : Bytes bs) : CW cxT 4 [.list (bs.map uV)] = some (bV true, []) := by
  refine fn_intro rfl Try.func4 rfl ⟨by kernel_rfl, rfl, of_decide_eq_true rfl, of_decide_eq_true rfl, by decide⟩ keep_s_FnStepsByJoins ?_
  refine xa_seq ?_
  refine xa_region ?_
  refine x_assign rfl rfl rfl ?_
  refine xr_nil ⟨nofun, [(.t 0, _)], ⟨rfl, rfl, trivial⟩, ?_⟩
  refine xa_seq ?_
  refine xa_seq ?_
  refine xa_region ?_
  refine x_move rfl rfl ?_
  refine x_len_map rfl rfl ?_
  refine x_gtr rfl rfl ?_
  refine xr_nil ⟨nofun, [(.t 0, _), (.t 7, _)], ⟨rfl, rfl, rfl, rfl, trivial⟩, ?_⟩
  refine xa_cond rfl (fun hc => ?_) (fun hc => ?_)
  · try simp only [decide_eq_true_eq, decide_eq_false_iff_not, Bool.not_eq_true', Bool.not_eq_false', bne_iff_ne, beq_iff_eq, ne_eq, Bool.not_true, Bool.not_false, beq_eq_false_iff_ne, bne_eq_false_iff_eq, Decidable.not_not, Int.not_lt, Int.not_le, Bool.and_eq_true, Bool.and_eq_false_iff, Bool.or_eq_true, Bool.or_eq_false_iff, List.length_map] at hc
    refine xa_seq ?_
    refine xa_region ?_
    refine x_assign rfl rfl rfl ?_
    refine xr_nil ⟨nofun, [(.t 2, _)], ⟨rfl, rfl, trivial⟩, ?_⟩
    refine xa_ret ?_
    refine ret_val' rfl rfl trivial ?_
    rfl
  · try simp only [decide_eq_true_eq, decide_eq_false_iff_not, Bool.not_eq_true', Bool.not_eq_false', bne_iff_ne, beq_iff_eq, ne_eq, Bool.not_true, Bool.not_false, beq_eq_false_iff_ne, bne_eq_false_iff_eq, Decidable.not_not, Int.not_lt, Int.not_le, Bool.and_eq_true, Bool.and_eq_false_iff, Bool.or_eq_true, Bool.or_eq_false_iff, List.length_map] at hc
    refine xa_skip ?_
    refine xa_seq ?_
    refine xa_region ?_
    refine x_move rfl rfl ?_
    have hl2 : bs.length ≤ 1048576 := by omega
    obtain ⟨_, _, ⟨gs, rfl, rfl, hn6, hr6⟩, hC1⟩ := s_drawStepsByJoins bs hbs hl2
    have hn : gs.length ≤ 1000 := by omega
    have hr := fun a => Nat.le_trans (hr6 a) (show 6 ≤ 1000 by decide)
    have hxb := stp_bound hn hr
    apply x_call rfl
    · apply pa_cons
      · exact pa_plain rfl
      exact pa_nil
    · exact hC1
    · exact ⟨rfl, rfl, rfl, of_decide_eq_true rfl, rfl⟩
    · exact .inl rfl
    · exact back_nil
    · exact inst_own
    · exact fun _ => rfl
    intro g9
    (refine x_assign_own rfl rfl (by (simp; done)) rfl (fun _ => (slot_obj (by exact noRef_map fun _ => rfl))) (fun _ => rfl) ?_; intro g3)
    refine xr_nil ⟨nofun, [(.t 3, _), (.h 3, _)], ⟨rfl, rfl, rfl, rfl, trivial⟩, ?_⟩
    refine xa_seq ?_
    refine xa_region ?_
    refine x_move rfl rfl ?_
    apply x_call rfl
    · apply pa_cons
      · exact pa_lend_rows rfl rfl rfl (by (simp; done))
      exact pa_nil
    · exact s_stepsJI gs hn hr
    · exact ⟨rfl, rfl, rfl, of_decide_eq_true rfl, rfl⟩
    · exact .inr ⟨by simp [hasList], rfl⟩
    · exact back_nil
    · exact inst_own
    · exact fun _ => rfl
    intro g11
    (refine x_assign_own rfl rfl (by (simp; done)) rfl (fun _ => (slot_obj (by exact noRef_map fun _ => rfl))) (fun _ => rfl) ?_; intro g4)
    refine xr_nil ⟨nofun, [(.t 3, _), (.t 4, _), (.h 3, _), (.h 4, _)], ⟨rfl, rfl, rfl, rfl, rfl, rfl, rfl, rfl, trivial⟩, ?_⟩
    refine xa_seq ?_
    refine xa_seq ?_
    refine xa_region ?_
    refine x_move rfl rfl ?_
    refine x_move rfl rfl ?_
    apply x_call rfl
    · apply pa_cons
      · exact pa_lend_rows rfl rfl rfl (by (simp; done))
      exact pa_nil
    · exact s_stepsJS gs hn hr
    · exact ⟨rfl, rfl, rfl, of_decide_eq_true rfl, rfl⟩
    · exact .inr ⟨by simp [hasList], rfl⟩
    · exact back_nil
    · exact inst_own
    · exact fun _ => rfl
    intro g14
    apply x_call rfl
    · apply pa_cons
      · exact pa_lend_rows rfl rfl rfl (by (simp; done))
      apply pa_cons
      · exact pa_lend_rows rfl rfl rfl (by (simp; done))
      exact pa_nil
    · exact s_equalLists (if vg gs = true then fw gs else []) (if vg gs = true then fw gs else []) hxb.1 hxb.1 hxb.2 hxb.2
    · exact ⟨rfl, rfl, rfl, of_decide_eq_true rfl, rfl⟩
    · exact .inr ⟨rfl, rfl⟩
    · exact back_nil
    · exact inst_plain rfl
    · exact fun _ => rfl
    intro g15
    simp only [beq_self_eq_true]
    refine x_not rfl ?_
    refine x_move rfl rfl ?_
    refine x_guard_t rfl rfl (by rfl) ?_
    refine x_move rfl rfl ?_
    refine x_guard_t rfl rfl (by rfl) ?_
    refine x_len_sl rfl rfl ?_
    refine x_guard_t rfl rfl (by rfl) ?_
    refine x_eql rfl rfl ?_
    refine x_pick_f rfl (by rfl) rfl rfl ?_
    refine xr_nil ⟨nofun, [(.t 3, _), (.t 4, _), (.t 21, _), (.h 3, _), (.h 4, _)], ⟨rfl, rfl, rfl, rfl, rfl, rfl, rfl, rfl, rfl, rfl, trivial⟩, ?_⟩
    refine xa_cond rfl (fun hc => ?_) (fun hc => ?_)
    · try simp only [decide_eq_true_eq, decide_eq_false_iff_not, Bool.not_eq_true', Bool.not_eq_false', bne_iff_ne, beq_iff_eq, ne_eq, Bool.not_true, Bool.not_false, beq_eq_false_iff_ne, bne_eq_false_iff_eq, Decidable.not_not, Int.not_lt, Int.not_le, Bool.and_eq_true, Bool.and_eq_false_iff, Bool.or_eq_true, Bool.or_eq_false_iff, List.length_map] at hc
      refine xa_seq ?_
      refine xa_region ?_
      refine x_move rfl rfl ?_
      refine x_move rfl rfl ?_
      apply x_call rfl
      · apply pa_cons
        · exact pa_lend_rows rfl rfl rfl (by (simp; done))
        exact pa_nil
      · exact s_stepsJS gs hn hr
      · exact ⟨rfl, rfl, rfl, of_decide_eq_true rfl, rfl⟩
      · exact .inr ⟨by simp [hasList], rfl⟩
      · exact back_nil
      · exact inst_own
      · exact fun _ => rfl
      intro g24
      apply x_call rfl
      · apply pa_cons
        · exact pa_lend_rows rfl rfl rfl (by (simp; done))
        apply pa_cons
        · exact pa_lend_rows rfl rfl rfl (by (simp; done))
        exact pa_nil
      · exact s_equalLists (if vg gs = true then fw gs else []) (if vg gs = true then fw gs else []) hxb.1 hxb.1 hxb.2 hxb.2
      · exact ⟨rfl, rfl, rfl, of_decide_eq_true rfl, rfl⟩
      · exact .inr ⟨rfl, rfl⟩
      · exact back_nil
      · exact inst_plain rfl
      · exact fun _ => rfl
      intro g25
      simp only [beq_self_eq_true]
      refine x_assign rfl rfl rfl ?_
      refine xr_nil ⟨nofun, [(.t 2, _)], ⟨rfl, rfl, trivial⟩, ?_⟩
      refine xa_ret ?_
      refine ret_val' rfl rfl trivial ?_
      rfl
    · try simp only [decide_eq_true_eq, decide_eq_false_iff_not, Bool.not_eq_true', Bool.not_eq_false', bne_iff_ne, beq_iff_eq, ne_eq, Bool.not_true, Bool.not_false, beq_eq_false_iff_ne, bne_eq_false_iff_eq, Decidable.not_not, Int.not_lt, Int.not_le, Bool.and_eq_true, Bool.and_eq_false_iff, Bool.or_eq_true, Bool.or_eq_false_iff, List.length_map] at hc
      have hvt : vg gs = true := stp_valid hc
      have hv := vg_iff.1 hvt
      have hfs := fw_sq hv.sq
      have hfs1 := hfs.1
      rw [if_pos hvt]
      refine xa_skip ?_
      refine xa_seq ?_
      refine xa_region ?_
      refine x_move rfl rfl ?_
      apply x_call rfl
      · apply pa_cons
        · exact pa_lend_rows rfl rfl rfl (by (simp; done))
        exact pa_nil
      · exact s_stepsJI (fw gs) (by omega) (hfs.le hn)
      · exact ⟨rfl, rfl, rfl, of_decide_eq_true rfl, rfl⟩
      · exact .inr ⟨by simp [hasList], rfl⟩
      · exact back_nil
      · exact inst_own
      · exact fun _ => rfl
      intro g27
      rw [if_pos (vg_iff.2 (fw_vg hv)), fw_um (fw_vg hv).sq (fw_um' hv)]
      refine x_move rfl rfl ?_
      have hx1 : (fw gs).length ≤ 1000000 := by omega
      have hx2 := rows_le (hfs.le (k := 1000) hn) (show 1000 ≤ 1000000 by decide)
      apply x_call rfl
      · apply pa_cons
        · exact pa_lend_rows rfl rfl rfl (by (simp; done))
        apply pa_cons
        · exact pa_lend_rows rfl rfl rfl (by (simp; done))
        exact pa_nil
      · exact s_equalLists (fw gs) (fw gs) hx1 hx1 hx2 hx2
      · exact ⟨rfl, rfl, rfl, of_decide_eq_true rfl, rfl⟩
      · exact .inr ⟨rfl, rfl⟩
      · exact back_nil
      · exact inst_plain rfl
      · exact fun _ => rfl
      intro g29
      simp only [beq_self_eq_true]
      refine x_move rfl rfl ?_
      refine x_guard_t rfl rfl (by rfl) ?_
      refine x_move rfl rfl ?_
      refine x_guard_t rfl rfl (by rfl) ?_
      apply x_call rfl
      · apply pa_cons
        · exact pa_lend_rows rfl rfl rfl (by (simp; done))
        exact pa_nil
      · exact s_isTreeI gs hn hr
      · exact ⟨rfl, rfl, rfl, of_decide_eq_true rfl, rfl⟩
      · exact .inr ⟨rfl, rfl⟩
      · exact back_nil
      · exact inst_plain rfl
      · exact fun _ => rfl
      intro g32
      refine x_guard_t rfl rfl (by rfl) ?_
      refine x_move rfl rfl ?_
      refine x_guard_t rfl rfl (by rfl) ?_
      refine x_move rfl rfl ?_
      refine x_guard_t rfl rfl (by rfl) ?_
      apply x_call rfl
      · apply pa_cons
        · exact pa_lend_rows rfl rfl rfl (by (simp; done))
        apply pa_cons
        · exact pa_lend_rows rfl rfl rfl (by (simp; done))
        exact pa_nil
      · exact s_equalLists (fw gs) gs hx1 (by omega) hx2 (rows_le hr (by decide))
      · exact ⟨rfl, rfl, rfl, of_decide_eq_true rfl, rfl⟩
      · exact .inr ⟨rfl, rfl⟩
      · exact back_nil
      · exact inst_plain rfl
      · exact fun _ => rfl
      intro g35
      refine x_guard_t rfl rfl (by rfl) ?_
      refine x_beq rfl rfl rfl ?_
      refine x_pick_t rfl (by rfl) rfl rfl ?_
      refine x_assign rfl rfl rfl ?_
      refine xr_nil ⟨nofun, [(.t 2, _)], ⟨rfl, rfl, trivial⟩, ?_⟩
      refine xa_ret ?_
      refine ret_val' rfl rfl trivial ?_
      (simp [hvt, fw_eq hv.sq]; done)
end Go.Proofs.Ytajimnlkgdnamaa

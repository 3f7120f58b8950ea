/- What each function of the program gives on the abstract machine, part 1 of 1. Conditions: those in front of each theorem. -/
import Derived.Test.YthmimfbjoeeggaaMd
import Derived.Test.YthmimfbjoeeggaaChecked
import Derived.KernelRfl

set_option linter.unusedVariables false
set_option linter.unusedSimpArgs false
namespace Go.Proofs.Ythmimfbjoeeggaa
open Go Go.Mv Go.Proofs
set_option maxRecDepth 100000

def mdT : List (Nat × List Nat) := [(17, [1]), (35, [1]), (53, [3, 3, 3, 3]), (54, [3, 3, 3, 3]), (74, [3]), (75, [2]), (76, [3, 3, 3, 3]), (77, [3, 3, 3, 3]), (78, [3, 3, 3, 3]), (82, [2]), (93, [1])]
noncomputable def extT : List (Nat × (List AV → Option (AV × List (List AV)))) := [(74, extBwd 90), (82, extCompact), (92, extClone), (93, extSort)]
noncomputable def cxT : Cx := { P := Try.prog, md := mdOf mdT, ext := extOf extT, it := fun k => if k = 90 then some itBwd else none }
noncomputable def cxE : Cx := { P := Try.prog, md := mdOf mdT, ext := fun _ => none }
theorem s_Backward (es : List AV) : CW cxT 74 [.list es] = some (.clo 90 [.ipt (.list es) 0], []) := CW_ext cxT rfl rfl
theorem s_Compact (xs : List Int) (hl : xs.length ≤ maxL) : CW cxT 82 [.own 1 (xs.map iV)] = some (.own 1 ((compactI xs).map iV), []) := CW_ext cxT rfl (by simp [extCompact, unI_map, hl])
theorem s_Clone (xs : List Int) (hl : xs.length ≤ maxL) : CW cxT 92 [.list (xs.map iV)] = some (.own 1 (xs.map iV), []) := CW_ext cxT rfl (by simp [extClone, unI_map, hl])
theorem s_Sort (xs : List Int) (hl : xs.length ≤ maxL) : CW cxT 93 [.own 1 (xs.map iV)] = some (.tup [], [(sortI xs).map iV]) := CW_ext cxT rfl (by simp [extSort, unI_map, hl])

theorem keep_s_inRange : keepOf Try.f70 = [0, 1, 2, 6] := by kernel_rfl
set_option maxHeartbeats 20000000 in
theorem s_inRange (n lo hi : Int) : CW cxT 70 [iV n, iV lo, iV hi] = some (bV (decide (lo ≤ n) && decide (n ≤ hi)), []) := by
  refine fn_intro rfl Try.func70 rfl ⟨by kernel_rfl, rfl, of_decide_eq_true rfl, of_decide_eq_true rfl, by decide⟩ keep_s_inRange ?_
  refine xa_seq ?_
  refine xa_region ?_
  refine x_assign rfl rfl rfl ?_
  refine xr_nil ⟨nofun, [(.t 0, _), (.t 1, _), (.t 2, _)], ⟨rfl, rfl, rfl, rfl, rfl, rfl, trivial⟩, ?_⟩
  refine xa_seq ?_
  refine xa_region ?_
  refine x_move rfl rfl ?_
  refine x_move rfl rfl ?_
  refine x_leq rfl rfl ?_
  refine x_move rfl rfl ?_
  refine x_guard_split rfl rfl (fun hg0 => ?_) (fun hg0 => ?_)
  · have hg := hg0; try simp only [decide_eq_true_eq, decide_eq_false_iff_not, Bool.not_eq_true', Bool.not_eq_false', bne_iff_ne, beq_iff_eq, ne_eq, Bool.not_true, Bool.not_false, beq_eq_false_iff_ne, bne_eq_false_iff_eq, Decidable.not_not, Int.not_lt, Int.not_le, Bool.and_eq_true, Bool.and_eq_false_iff, Bool.or_eq_true, Bool.or_eq_false_iff] at hg
    refine x_move rfl rfl ?_
    refine x_guard_t rfl rfl (by assumption) ?_
    refine x_move rfl rfl ?_
    refine x_guard_t rfl rfl (by assumption) ?_
    refine x_leq rfl rfl ?_
    refine x_pick_t rfl (by assumption) rfl rfl ?_
    refine x_assign rfl rfl rfl ?_
    refine xr_nil ⟨nofun, [(.t 6, _)], ⟨rfl, rfl, trivial⟩, ?_⟩
    refine xa_ret ?_
    refine ret_val' rfl rfl trivial ?_
    simp_all [ofConst]; try omega
  · have hg := hg0; try simp only [decide_eq_true_eq, decide_eq_false_iff_not, Bool.not_eq_true', Bool.not_eq_false', bne_iff_ne, beq_iff_eq, ne_eq, Bool.not_true, Bool.not_false, beq_eq_false_iff_ne, bne_eq_false_iff_eq, Decidable.not_not, Int.not_lt, Int.not_le, Bool.and_eq_true, Bool.and_eq_false_iff, Bool.or_eq_true, Bool.or_eq_false_iff] at hg
    refine x_guard_f rfl rfl (by assumption) ?_
    refine x_guard_f rfl rfl (by assumption) ?_
    refine x_pick_f rfl (by assumption) rfl rfl ?_
    refine x_assign rfl rfl rfl ?_
    refine xr_nil ⟨nofun, [(.t 6, _)], ⟨rfl, rfl, trivial⟩, ?_⟩
    refine xa_ret ?_
    refine ret_val' rfl rfl trivial ?_
    simp_all [ofConst]; try omega

theorem keep_s_in : keepOf Try.f89 = [0, 1, 2, 6] := by kernel_rfl
set_option maxHeartbeats 20000000 in
theorem s_in (n lo hi : Int) : CW cxT 89 [iV n, iV lo, iV hi] = some (bV (decide (lo ≤ n) && decide (n ≤ hi)), []) := by
  refine fn_intro rfl Try.func89 rfl ⟨by kernel_rfl, rfl, of_decide_eq_true rfl, of_decide_eq_true rfl, by decide⟩ keep_s_in ?_
  refine xa_seq ?_
  refine xa_region ?_
  refine x_assign rfl rfl rfl ?_
  refine xr_nil ⟨nofun, [(.t 0, _), (.t 1, _), (.t 2, _)], ⟨rfl, rfl, rfl, rfl, rfl, rfl, trivial⟩, ?_⟩
  refine xa_seq ?_
  refine xa_region ?_
  refine x_move rfl rfl ?_
  refine x_move rfl rfl ?_
  refine x_geq rfl rfl ?_
  refine x_move rfl rfl ?_
  refine x_guard_split rfl rfl (fun hg0 => ?_) (fun hg0 => ?_)
  · have hg := hg0; try simp only [decide_eq_true_eq, decide_eq_false_iff_not, Bool.not_eq_true', Bool.not_eq_false', bne_iff_ne, beq_iff_eq, ne_eq, Bool.not_true, Bool.not_false, beq_eq_false_iff_ne, bne_eq_false_iff_eq, Decidable.not_not, Int.not_lt, Int.not_le, Bool.and_eq_true, Bool.and_eq_false_iff, Bool.or_eq_true, Bool.or_eq_false_iff] at hg
    refine x_move rfl rfl ?_
    refine x_guard_t rfl rfl (by assumption) ?_
    refine x_move rfl rfl ?_
    refine x_guard_t rfl rfl (by assumption) ?_
    refine x_leq rfl rfl ?_
    refine x_pick_t rfl (by assumption) rfl rfl ?_
    refine x_assign rfl rfl rfl ?_
    refine xr_nil ⟨nofun, [(.t 6, _)], ⟨rfl, rfl, trivial⟩, ?_⟩
    refine xa_ret ?_
    refine ret_val' rfl rfl trivial ?_
    simp_all [ofConst]; try omega
  · have hg := hg0; try simp only [decide_eq_true_eq, decide_eq_false_iff_not, Bool.not_eq_true', Bool.not_eq_false', bne_iff_ne, beq_iff_eq, ne_eq, Bool.not_true, Bool.not_false, beq_eq_false_iff_ne, bne_eq_false_iff_eq, Decidable.not_not, Int.not_lt, Int.not_le, Bool.and_eq_true, Bool.and_eq_false_iff, Bool.or_eq_true, Bool.or_eq_false_iff] at hg
    refine x_guard_f rfl rfl (by assumption) ?_
    refine x_guard_f rfl rfl (by assumption) ?_
    refine x_pick_f rfl (by assumption) rfl rfl ?_
    refine x_assign rfl rfl rfl ?_
    refine xr_nil ⟨nofun, [(.t 6, _)], ⟨rfl, rfl, trivial⟩, ?_⟩
    refine xa_ret ?_
    refine ret_val' rfl rfl trivial ?_
    simp_all [ofConst]; try omega

theorem keep_s_pick : keepOf Try.f78 = [0, 1, 4, 24, 5, 36, 6] := by kernel_rfl
set_option maxHeartbeats 20000000 in
theorem s_pick (bs : List Int) (p : Int) (hbs : Bytes bs) (hl : bs.length ≤ 1048576) (hp : 0 ≤ p ∧ p ≤ 1000000000) (n : Int) (hn : n ≤ 1000000000) : ∃ res outs, (fun res outs => ∃ k, res = iV k ∧ outs = [[rdr bs (p + 1)]] ∧ (1 ≤ n → 0 ≤ k ∧ k < n) ∧ (n < 1 → k = 0)) res outs ∧ CW cxT 78 [.ownp [rdr bs p] 0 0, iV n] = some (res, outs) := by
  refine fn_introP rfl Try.func78 rfl ⟨by kernel_rfl, rfl, of_decide_eq_true rfl, of_decide_eq_true rfl, by decide⟩ keep_s_pick ?_
  refine xa_seq ?_
  refine xa_region ?_
  refine x_assign rfl rfl rfl ?_
  refine xr_nil ⟨nofun, [(.t 0, _), (.t 1, _), (.h 0, _)], ⟨rfl, rfl, rfl, rfl, rfl, rfl, trivial⟩, ?_⟩
  refine xa_seq ?_
  refine xa_region ?_
  refine x_move rfl rfl ?_
  refine x_move rfl rfl ?_
  refine x_nilCheck rfl rfl rfl ?_
  refine x_fieldAddr rfl rfl (by decide) rfl rfl ?_
  refine x_load_ptrN rfl rfl rfl rfl rfl rfl ?_
  refine x_add rfl rfl (inI64 (by omega)) ?_
  refine x_nilCheck rfl rfl rfl ?_
  refine x_fieldAddr rfl rfl (by decide) rfl rfl ?_
  refine x_store rfl rfl rfl rfl rfl ⟨by decide, rfl, of_decide_eq_true rfl, of_decide_eq_true rfl, rfl⟩ (by exact slot_box4 rfl) ?_
  refine xr_nil ⟨nofun, [(.t 0, _), (.t 1, _), (.h 0, _)], ⟨rfl, rfl, rfl, rfl, rfl, rfl, trivial⟩, ?_⟩
  refine xa_seq ?_
  refine xa_seq ?_
  refine xa_region ?_
  refine x_move rfl rfl ?_
  refine x_lss rfl rfl ?_
  refine x_move rfl rfl ?_
  refine x_guard_split rfl rfl (fun hg0 => ?_) (fun hg0 => ?_)
  · have hg := hg0; try simp only [decide_eq_true_eq, decide_eq_false_iff_not, Bool.not_eq_true', Bool.not_eq_false', bne_iff_ne, beq_iff_eq, ne_eq, Bool.not_true, Bool.not_false, beq_eq_false_iff_ne, bne_eq_false_iff_eq, Decidable.not_not, Int.not_lt, Int.not_le, Bool.and_eq_true, Bool.and_eq_false_iff, Bool.or_eq_true, Bool.or_eq_false_iff] at hg
    refine x_move rfl rfl ?_
    refine x_guard_t rfl rfl (by assumption) ?_
    refine x_nilCheck rfl rfl rfl ?_
    refine x_guard_t rfl rfl (by assumption) ?_
    refine x_fieldAddr rfl rfl (by decide) rfl rfl ?_
    refine x_guard_t rfl rfl (by assumption) ?_
    refine x_load_ptrN rfl rfl rfl rfl rfl rfl ?_
    refine x_guard_t rfl rfl (by assumption) ?_
    refine x_len_map rfl rfl ?_
    refine x_guard_t rfl rfl (by assumption) ?_
    refine x_eql rfl rfl ?_
    refine x_pick_f rfl (by assumption) rfl rfl ?_
    refine xr_nil ⟨nofun, [(.t 0, _), (.t 1, _), (.t 24, _), (.h 0, _)], ⟨rfl, rfl, rfl, rfl, rfl, rfl, rfl, rfl, trivial⟩, ?_⟩
    refine xa_cond rfl (fun hc => ?_) (fun hc => ?_)
    · try simp only [decide_eq_true_eq, decide_eq_false_iff_not, Bool.not_eq_true', Bool.not_eq_false', bne_iff_ne, beq_iff_eq, ne_eq, Bool.not_true, Bool.not_false, beq_eq_false_iff_ne, bne_eq_false_iff_eq, Decidable.not_not, Int.not_lt, Int.not_le, Bool.and_eq_true, Bool.and_eq_false_iff, Bool.or_eq_true, Bool.or_eq_false_iff, List.length_map] at hc
      refine xa_seq ?_
      refine xa_region ?_
      refine x_assign rfl rfl rfl ?_
      refine xr_nil ⟨nofun, [(.t 4, _), (.h 0, _)], ⟨rfl, rfl, rfl, rfl, trivial⟩, ?_⟩
      refine xa_ret ?_
      refine ⟨_, _, ?_, ret_val rfl rfl (outs_one rfl rfl)⟩
      refine ⟨_, rfl, rfl, fun h => ?_, fun h => ?_⟩
      · omega
      · omega
    · try simp only [decide_eq_true_eq, decide_eq_false_iff_not, Bool.not_eq_true', Bool.not_eq_false', bne_iff_ne, beq_iff_eq, ne_eq, Bool.not_true, Bool.not_false, beq_eq_false_iff_ne, bne_eq_false_iff_eq, Decidable.not_not, Int.not_lt, Int.not_le, Bool.and_eq_true, Bool.and_eq_false_iff, Bool.or_eq_true, Bool.or_eq_false_iff, List.length_map] at hc
      refine xa_skip ?_
      refine xa_seq ?_
      refine xa_region ?_
      refine x_move rfl rfl ?_
      refine x_nilCheck rfl rfl rfl ?_
      refine x_fieldAddr rfl rfl (by decide) rfl rfl ?_
      refine x_load_ptrN rfl rfl rfl rfl rfl rfl ?_
      refine x_sub rfl rfl (inI64 (by omega)) ?_
      refine x_assign rfl rfl rfl ?_
      refine xr_nil ⟨nofun, [(.t 0, _), (.t 1, _), (.t 5, _), (.h 0, _)], ⟨rfl, rfl, rfl, rfl, rfl, rfl, rfl, rfl, trivial⟩, ?_⟩
      refine xa_seq ?_
      refine xa_seq ?_
      refine xa_region ?_
      refine x_move rfl rfl ?_
      refine x_move rfl rfl ?_
      refine x_nilCheck rfl rfl rfl ?_
      refine x_fieldAddr rfl rfl (by decide) rfl rfl ?_
      refine x_load_ptrN rfl rfl rfl rfl rfl rfl ?_
      refine x_len_map rfl rfl ?_
      refine x_lss rfl rfl ?_
      refine xr_nil ⟨nofun, [(.t 0, _), (.t 1, _), (.t 5, _), (.t 36, _), (.h 0, _)], ⟨rfl, rfl, rfl, rfl, rfl, rfl, rfl, rfl, rfl, rfl, trivial⟩, ?_⟩
      refine xa_cond rfl (fun hc => ?_) (fun hc => ?_)
      · try simp only [decide_eq_true_eq, decide_eq_false_iff_not, Bool.not_eq_true', Bool.not_eq_false', bne_iff_ne, beq_iff_eq, ne_eq, Bool.not_true, Bool.not_false, beq_eq_false_iff_ne, bne_eq_false_iff_eq, Decidable.not_not, Int.not_lt, Int.not_le, Bool.and_eq_true, Bool.and_eq_false_iff, Bool.or_eq_true, Bool.or_eq_false_iff, List.length_map] at hc
        refine xa_seq ?_
        refine xa_region ?_
        refine x_move rfl rfl ?_
        refine x_nilCheck rfl rfl rfl ?_
        refine x_fieldAddr rfl rfl (by decide) rfl rfl ?_
        refine x_load_ptrN rfl rfl rfl rfl rfl rfl ?_
        refine x_move rfl rfl ?_
        refine x_index_list rfl rfl rfl (fun _ => rfl) (by omega) ?_
        refine x_load_iptV rfl rfl rfl ?_
        refine x_conv rfl rfl rfl (inI64 (by have := hbs.getD (p + 1 - 1).toNat; omega)) ?_
        refine x_move rfl rfl ?_
        have hk := hbs.getD (p + 1 - 1).toNat
        refine x_rem rfl rfl (by omega) ?_
        refine x_assign rfl rfl rfl ?_
        refine xr_nil ⟨nofun, [(.t 4, _), (.h 0, _)], ⟨rfl, rfl, rfl, rfl, trivial⟩, ?_⟩
        refine xa_ret ?_
        refine ⟨_, _, ?_, ret_val rfl rfl (outs_one rfl rfl)⟩
        refine ⟨_, rfl, rfl, fun h => ?_, fun h => ?_⟩
        · exact tmod_in (by omega) (by omega)
        · omega
      · try simp only [decide_eq_true_eq, decide_eq_false_iff_not, Bool.not_eq_true', Bool.not_eq_false', bne_iff_ne, beq_iff_eq, ne_eq, Bool.not_true, Bool.not_false, beq_eq_false_iff_ne, bne_eq_false_iff_eq, Decidable.not_not, Int.not_lt, Int.not_le, Bool.and_eq_true, Bool.and_eq_false_iff, Bool.or_eq_true, Bool.or_eq_false_iff, List.length_map] at hc
        refine xa_skip ?_
        refine xa_seq ?_
        refine xa_region ?_
        refine x_move rfl rfl ?_
        refine x_nilCheck rfl rfl rfl ?_
        refine x_fieldAddr rfl rfl (by decide) rfl rfl ?_
        refine x_load_ptrN rfl rfl rfl rfl rfl rfl ?_
        refine x_move rfl rfl ?_
        refine x_move rfl rfl ?_
        refine x_nilCheck rfl rfl rfl ?_
        refine x_fieldAddr rfl rfl (by decide) rfl rfl ?_
        refine x_load_ptrN rfl rfl rfl rfl rfl rfl ?_
        refine x_len_map rfl rfl ?_
        have hlen : 0 < (bs.length : Int) := by omega
        refine x_rem rfl rfl (by omega) ?_
        have hm1 := tmod_in (a := p + 1 - 1) (by omega) hlen
        refine x_index_list rfl rfl rfl (fun _ => rfl) (by omega) ?_
        refine x_load_iptV rfl rfl rfl ?_
        refine x_conv rfl rfl rfl (inI64 (by have := hbs.getD ((p + 1 - 1).tmod bs.length).toNat; omega)) ?_
        have hk := hbs.getD ((p + 1 - 1).tmod bs.length).toNat
        refine x_mul rfl rfl (inI64 (by omega)) ?_
        refine x_move rfl rfl ?_
        refine x_nilCheck rfl rfl rfl ?_
        refine x_fieldAddr rfl rfl (by decide) rfl rfl ?_
        refine x_load_ptrN rfl rfl rfl rfl rfl rfl ?_
        refine x_move rfl rfl ?_
        refine x_mul rfl rfl (inI64 (by omega)) ?_
        refine x_add rfl rfl (inI64 (by omega)) ?_
        refine x_move rfl rfl ?_
        refine x_nilCheck rfl rfl rfl ?_
        refine x_fieldAddr rfl rfl (by decide) rfl rfl ?_
        refine x_load_ptrN rfl rfl rfl rfl rfl rfl ?_
        refine x_len_map rfl rfl ?_
        refine x_rem rfl rfl (by omega) ?_
        have hm2 := tmod_in (a := (p + 1 - 1) * 7 + 3) (by omega) hlen
        refine x_index_list rfl rfl rfl (fun _ => rfl) (by omega) ?_
        refine x_load_iptV rfl rfl rfl ?_
        refine x_conv rfl rfl rfl (inI64 (by have := hbs.getD (((p + 1 - 1) * 7 + 3).tmod bs.length).toNat; omega)) ?_
        have hk2 := hbs.getD (((p + 1 - 1) * 7 + 3).tmod bs.length).toNat
        refine x_mul rfl rfl (inI64 (by omega)) ?_
        refine x_add rfl rfl (inI64 (by omega)) ?_
        refine x_move rfl rfl ?_
        refine x_mul rfl rfl (inI64 (by omega)) ?_
        refine x_add rfl rfl (inI64 (by omega)) ?_
        refine x_move rfl rfl ?_
        refine x_move rfl rfl ?_
        refine x_nilCheck rfl rfl rfl ?_
        refine x_fieldAddr rfl rfl (by decide) rfl rfl ?_
        refine x_load_ptrN rfl rfl rfl rfl rfl rfl ?_
        refine x_len_map rfl rfl ?_
        have hd := tdiv_in (a := p + 1 - 1) (b := bs.length) (by omega) (by omega)
        refine x_quo rfl rfl ⟨by omega, inI64 (by omega)⟩ ?_
        refine x_mul rfl rfl (inI64 (by omega)) ?_
        refine x_add rfl rfl (inI64 (by omega)) ?_
        refine x_assign rfl rfl rfl ?_
        refine xr_nil ⟨fun _ => ⟨by decide +kernel, by decide +kernel⟩, [(.t 1, _), (.t 6, _), (.h 0, _)], ⟨rfl, rfl, rfl, rfl, rfl, rfl, trivial⟩, ?_⟩
        refine xa_seq ?_
        refine xa_region ?_
        refine x_move rfl rfl ?_
        refine x_move rfl rfl ?_
        have hd2 := tdiv_in (a := (bs.getD ((p + 1 - 1).tmod bs.length).toNat default * 131 + bs.getD (((p + 1 - 1) * 7 + 3).tmod bs.length).toNat default * 1117 + (p + 1 - 1) * 29 + (p + 1 - 1).tdiv bs.length * 53)) (b := 64) (by omega) (by decide)
        refine x_quo rfl rfl ⟨by omega, inI64 (by omega)⟩ ?_
        have hx := xor_in (x := (bs.getD ((p + 1 - 1).tmod bs.length).toNat default * 131 + bs.getD (((p + 1 - 1) * 7 + 3).tmod bs.length).toNat default * 1117 + (p + 1 - 1) * 29 + (p + 1 - 1).tdiv bs.length * 53)) (by omega) (y := (bs.getD ((p + 1 - 1).tmod bs.length).toNat default * 131 + bs.getD (((p + 1 - 1) * 7 + 3).tmod bs.length).toNat default * 1117 + (p + 1 - 1) * 29 + (p + 1 - 1).tdiv bs.length * 53).tdiv 64) (by omega)
        refine x_xor rfl rfl ?_
        refine x_assign rfl rfl rfl ?_
        refine xr_nil ⟨nofun, [(.t 1, _), (.t 6, _), (.h 0, _)], ⟨rfl, rfl, rfl, rfl, rfl, rfl, trivial⟩, ?_⟩
        refine xa_seq ?_
        refine xa_region ?_
        refine x_move rfl rfl ?_
        refine x_move rfl rfl ?_
        refine x_rem rfl rfl (by omega) ?_
        refine x_assign rfl rfl rfl ?_
        refine xr_nil ⟨nofun, [(.t 4, _), (.h 0, _)], ⟨rfl, rfl, rfl, rfl, trivial⟩, ?_⟩
        refine xa_ret ?_
        refine ⟨_, _, ?_, ret_val rfl rfl (outs_one rfl rfl)⟩
        refine ⟨_, rfl, rfl, fun h => ?_, fun h => ?_⟩
        · exact tmod_in (by omega) (by omega)
        · omega
  · have hg := hg0; try simp only [decide_eq_true_eq, decide_eq_false_iff_not, Bool.not_eq_true', Bool.not_eq_false', bne_iff_ne, beq_iff_eq, ne_eq, Bool.not_true, Bool.not_false, beq_eq_false_iff_ne, bne_eq_false_iff_eq, Decidable.not_not, Int.not_lt, Int.not_le, Bool.and_eq_true, Bool.and_eq_false_iff, Bool.or_eq_true, Bool.or_eq_false_iff] at hg
    refine x_guard_f rfl rfl (by assumption) ?_
    refine x_guard_f rfl rfl (by assumption) ?_
    refine x_guard_f rfl rfl (by assumption) ?_
    refine x_guard_f rfl rfl (by assumption) ?_
    refine x_guard_f rfl rfl (by assumption) ?_
    refine x_pick_t rfl (by assumption) rfl rfl ?_
    refine xr_nil ⟨nofun, [(.t 0, _), (.t 1, _), (.t 24, _), (.h 0, _)], ⟨rfl, rfl, rfl, rfl, rfl, rfl, rfl, rfl, trivial⟩, ?_⟩
    refine xa_cond rfl (fun hc => ?_) (fun hc => absurd hc (by decide))
    refine xa_seq ?_
    refine xa_region ?_
    refine x_assign rfl rfl rfl ?_
    refine xr_nil ⟨nofun, [(.t 4, _), (.h 0, _)], ⟨rfl, rfl, rfl, rfl, trivial⟩, ?_⟩
    refine xa_ret ?_
    refine ⟨_, _, ?_, ret_val rfl rfl (outs_one rfl rfl)⟩
    refine ⟨_, rfl, rfl, fun h => ?_, fun h => ?_⟩
    · omega
    · omega

theorem keep_s_one : keepOf Try.f77 = [0, 1, 4] := by kernel_rfl
set_option maxHeartbeats 20000000 in
theorem s_one (bs : List Int) (p : Int) (hbs : Bytes bs) (hl : bs.length ≤ 1048576) (hp : 0 ≤ p ∧ p ≤ 1000000000) (xs : List Int) (hx : 1 ≤ xs.length ∧ xs.length ≤ 1000) : ∃ res outs, (fun res outs => ∃ k, res = iV k ∧ outs = [[rdr bs (p + 1)]] ∧ k ∈ xs) res outs ∧ CW cxT 77 [.ownp [rdr bs p] 0 0, L xs] = some (res, outs) := by
  refine fn_introP rfl Try.func77 rfl ⟨by kernel_rfl, rfl, of_decide_eq_true rfl, of_decide_eq_true rfl, by decide⟩ keep_s_one ?_
  refine xa_seq ?_
  refine xa_region ?_
  refine x_assign rfl rfl rfl ?_
  refine xr_nil ⟨nofun, [(.t 0, _), (.t 1, _), (.h 0, _)], ⟨rfl, rfl, rfl, rfl, rfl, rfl, trivial⟩, ?_⟩
  refine xa_seq ?_
  refine xa_region ?_
  refine x_move rfl rfl ?_
  refine x_move rfl rfl ?_
  refine x_move rfl rfl ?_
  refine x_len_map rfl rfl ?_
  obtain ⟨_, _, ⟨k, rfl, rfl, hk1, hk2⟩, hC⟩ := s_pick bs p hbs hl hp xs.length (by omega)
  have hk1 := hk1 (by omega)
  apply x_call rfl
  · apply pa_cons
    · exact pa_box rfl (by decide) rfl
    apply pa_cons
    · exact pa_plain rfl
    exact pa_nil
  · exact hC
  · exact ⟨rfl, rfl, rfl, of_decide_eq_true rfl, rfl⟩
  · exact .inl rfl
  · exact back_cons rfl rfl rfl back_nil
  · exact inst_plain rfl
  · exact fun _ => rfl
  intro g9
  refine x_index_list rfl rfl rfl (fun _ => rfl) (by omega) ?_
  refine x_load_iptV rfl rfl rfl ?_
  refine x_assign rfl rfl rfl ?_
  refine xr_nil ⟨nofun, [(.t 4, _), (.h 0, _)], ⟨rfl, rfl, rfl, rfl, trivial⟩, ?_⟩
  refine xa_ret ?_
  refine ⟨_, _, ?_, ret_val rfl rfl (outs_one rfl rfl)⟩
  refine ⟨_, rfl, rfl, getD_mem (by omega)⟩

theorem keep_s_newReader : keepOf Try.f54 = [0, 2, 5] := by kernel_rfl
set_option maxHeartbeats 20000000 in
theorem s_newReader (bs : List Int) (hl : bs.length ≤ 1048576) : ∃ res outs, (fun res outs => res = .ownp [rdr (bs.take 2000) 0] 0 0 ∧ outs = []) res outs ∧ CW cxT 54 [.list (bs.map uV)] = some (res, outs) := by
  refine fn_introP rfl Try.func54 rfl ⟨by kernel_rfl, rfl, of_decide_eq_true rfl, of_decide_eq_true rfl, by decide⟩ keep_s_newReader ?_
  refine xa_seq ?_
  refine xa_region ?_
  refine x_assign rfl rfl rfl ?_
  refine xr_nil ⟨nofun, [(.t 0, _)], ⟨rfl, rfl, trivial⟩, ?_⟩
  refine xa_seq ?_
  refine xa_seq ?_
  refine xa_region ?_
  refine x_move rfl rfl ?_
  refine x_len_map rfl rfl ?_
  refine x_gtr rfl rfl ?_
  refine xr_nil ⟨nofun, [(.t 0, _), (.t 5, _)], ⟨rfl, rfl, rfl, rfl, trivial⟩, ?_⟩
  refine xa_cond rfl (fun hc => ?_) (fun hc => ?_)
  · try simp only [decide_eq_true_eq, decide_eq_false_iff_not, Bool.not_eq_true', Bool.not_eq_false', bne_iff_ne, beq_iff_eq, ne_eq, Bool.not_true, Bool.not_false, beq_eq_false_iff_ne, bne_eq_false_iff_eq, Decidable.not_not, Int.not_lt, Int.not_le, Bool.and_eq_true, Bool.and_eq_false_iff, Bool.or_eq_true, Bool.or_eq_false_iff, List.length_map] at hc
    refine xa_region ?_
    refine x_move rfl rfl ?_
    refine x_slice_list rfl rfl rfl (Mv.sized_map fun _ => rfl) (optNat_someN rfl) optNat_none (by (simp; omega)) ?_
    refine x_assign rfl rfl rfl ?_
    refine xr_nil ⟨nofun, [(.t 0, _)], ⟨rfl, rfl, trivial⟩, ?_⟩
    refine xa_seq ?_
    refine xa_region ?_
    refine x_move rfl rfl ?_
    refine x_build (fs := [_, _]) rfl rfl rfl rfl rfl ?_
    refine x_box rfl rfl rfl (fun _ => slot_box rfl) (fun _ => rfl) ?_
    intro g10
    (refine x_assign_box rfl rfl rfl rfl (fun _ => slot_box rfl) (fun _ => rfl) ?_; intro g2)
    refine xr_nil ⟨nofun, [(.t 2, _), (.h 2, _)], ⟨rfl, rfl, rfl, rfl, trivial⟩, ?_⟩
    refine xa_ret ?_
    refine ⟨_, _, ?_, ret_box rfl rfl rfl outs_nil⟩
    have e : rdr (bs.take 2000) 0 = .agg [.list ((bs.map uV).take 2000), iV 0] := by unfold rdr; rw [List.map_take]
    rw [e]
    exact ⟨rfl, rfl⟩
  · try simp only [decide_eq_true_eq, decide_eq_false_iff_not, Bool.not_eq_true', Bool.not_eq_false', bne_iff_ne, beq_iff_eq, ne_eq, Bool.not_true, Bool.not_false, beq_eq_false_iff_ne, bne_eq_false_iff_eq, Decidable.not_not, Int.not_lt, Int.not_le, Bool.and_eq_true, Bool.and_eq_false_iff, Bool.or_eq_true, Bool.or_eq_false_iff, List.length_map] at hc
    refine xa_skip ?_
    refine xa_seq ?_
    refine xa_region ?_
    refine x_move rfl rfl ?_
    refine x_build (fs := [_, _]) rfl rfl rfl rfl rfl ?_
    refine x_box rfl rfl rfl (fun _ => slot_box rfl) (fun _ => rfl) ?_
    intro g10
    (refine x_assign_box rfl rfl rfl rfl (fun _ => slot_box rfl) (fun _ => rfl) ?_; intro g2)
    refine xr_nil ⟨nofun, [(.t 2, _), (.h 2, _)], ⟨rfl, rfl, rfl, rfl, trivial⟩, ?_⟩
    refine xa_ret ?_
    refine ⟨_, _, ?_, ret_box rfl rfl rfl outs_nil⟩
    have e : bs.take 2000 = bs := List.take_of_length_le (by omega)
    rw [e]
    exact ⟨rfl, rfl⟩

theorem keep_s_sorted : keepOf Try.f83 = [0, 2, 3] := by kernel_rfl
set_option maxHeartbeats 20000000 in
theorem s_sorted (xs : List Int) (hl : xs.length ≤ maxL) : CW cxT 83 [L xs] = some (.own 1 ((sortI xs).map iV), []) := by
  refine fn_intro rfl Try.func83 rfl ⟨by kernel_rfl, rfl, of_decide_eq_true rfl, of_decide_eq_true rfl, by decide⟩ keep_s_sorted ?_
  refine xa_seq ?_
  refine xa_region ?_
  (refine x_assign_nil rfl rfl (fun _ => rfl) ?_; intro g2)
  refine xr_nil ⟨nofun, [(.t 0, _)], ⟨rfl, rfl, trivial⟩, ?_⟩
  refine xa_seq ?_
  refine xa_region ?_
  refine x_move rfl rfl ?_
  apply x_call rfl
  · apply pa_cons
    · exact pa_plain rfl
    exact pa_nil
  · exact s_Clone xs hl
  · exact ⟨rfl, rfl, rfl, of_decide_eq_true rfl, rfl⟩
  · exact .inl rfl
  · exact back_nil
  · exact inst_own
  · exact fun _ => rfl
  intro g5
  (refine x_assign_own rfl rfl (by (simp; done)) rfl (fun _ => (slot_obj (by exact noRef_map fun _ => rfl))) (fun _ => rfl) ?_; intro g3)
  refine xr_nil ⟨nofun, [(.t 3, _), (.h 3, _)], ⟨rfl, rfl, rfl, rfl, trivial⟩, ?_⟩
  refine xa_seq ?_
  refine xa_region ?_
  refine x_move rfl rfl ?_
  apply x_call rfl
  · apply pa_cons
    · exact pa_write rfl rfl (by decide) (by (simp; done)) (imm_map fun _ => rfl)
    exact pa_nil
  · exact s_Sort _ hl
  · exact ⟨rfl, rfl, rfl, of_decide_eq_true rfl, rfl⟩
  · exact .inl rfl
  · exact back_cons rfl (by simp) (nilFit_int _ _) back_nil
  · exact inst_tup rfl
  · (intro _; exact tRefs_cons (slot_obj (noRef_map fun _ => rfl)) rfl)
  intro g7
  refine xr_nil ⟨nofun, [(.t 3, _), (.h 3, _)], ⟨rfl, rfl, rfl, rfl, trivial⟩, ?_⟩
  refine xa_seq ?_
  refine xa_region ?_
  refine x_move rfl rfl ?_
  (refine x_assign_own rfl rfl (by (simp; done)) rfl (fun _ => (slot_obj (by exact noRef_map fun _ => rfl))) (fun _ => rfl) ?_; intro g2)
  refine xr_nil ⟨nofun, [(.t 2, _), (.h 2, _)], ⟨rfl, rfl, rfl, rfl, trivial⟩, ?_⟩
  refine xa_ret ?_
  refine ret_own' rfl rfl (by (simp; done)) (by exact noRef_map fun _ => rfl) trivial ?_
  rfl

theorem keep_s_IndexFunc2 : keepOf Try.f94 = [0, 1, 4, 8, 7, 9, 5, 16] := by kernel_rfl
set_option maxHeartbeats 20000000 in
theorem s_IndexFunc2 (xs : List Int) (hl : xs.length ≤ 1000) (k : Nat) (a b : AV) (q : Int → Bool) (hq : ∀ x, CW cxT k [iV x, .ipt a 0, .ipt b 0] = some (bV (q x), [])) : ∃ res outs, (fun res outs => ∃ r : Int, res = iV r ∧ outs = [] ∧ decide (0 ≤ r) = xs.any q) res outs ∧ CW cxT 94 [L xs, .clo k [.ipt a 0, .ipt b 0]] = some (res, outs) := by
  refine fn_introP rfl Try.func94 rfl ⟨by kernel_rfl, rfl, of_decide_eq_true rfl, of_decide_eq_true rfl, by decide⟩ keep_s_IndexFunc2 ?_
  refine xa_seq ?_
  refine xa_region ?_
  refine x_assign rfl rfl rfl ?_
  refine xr_nil ⟨nofun, [(.t 0, _), (.t 1, _)], ⟨rfl, rfl, rfl, rfl, trivial⟩, ?_⟩
  refine xa_seq ?_
  refine xa_seq ?_
  refine xa_region ?_
  refine x_move rfl rfl ?_
  refine x_len_map rfl rfl ?_
  refine x_move rfl rfl ?_
  refine xr_nil ⟨nofun, [(.t 0, _), (.t 1, _), (.t 7, _), (.t 8, _)], ⟨rfl, rfl, rfl, rfl, rfl, rfl, rfl, rfl, trivial⟩, ?_⟩
  refine xa_block ?_
  refine xa_loopK (β := Nat) [(.t 0, _), (.t 1, _), (.t 7, _)] (fun (i : Nat) => [(.t 8, iV i)]) (fun (i : Nat) => i ≤ xs.length ∧ ∀ j, j < i → q (xs.getD j default) = false) (fun (i : Nat) => xs.length - i) 0 ⟨rfl, rfl, rfl, rfl, trivial⟩ ⟨Nat.zero_le _, fun j h => by omega⟩ ?_
  intro i hb
  obtain ⟨hi1, hi2⟩ := hb
  refine xa_seq ?_
  refine xa_region ?_
  refine x_lss rfl rfl ?_
  refine xr_nil ⟨nofun, [(.t 0, _), (.t 1, _), (.t 7, _), (.t 8, _), (.t 9, _)], ⟨rfl, rfl, rfl, rfl, rfl, rfl, rfl, rfl, rfl, rfl, trivial⟩, ?_⟩
  refine xa_seq ?_
  refine xa_cond rfl (fun hc => ?_) (fun hc => ?_)
  · try simp only [decide_eq_true_eq, decide_eq_false_iff_not, Bool.not_eq_true', Bool.not_eq_false', bne_iff_ne, beq_iff_eq, ne_eq, Bool.not_true, Bool.not_false, beq_eq_false_iff_ne, bne_eq_false_iff_eq, Decidable.not_not, Int.not_lt, Int.not_le, Bool.and_eq_true, Bool.and_eq_false_iff, Bool.or_eq_true, Bool.or_eq_false_iff, List.length_map] at hc
    refine xa_skip ?_
    refine xa_seq ?_
    refine xa_block ?_
    refine xa_seq ?_
    refine xa_region ?_
    refine x_move rfl rfl ?_
    refine x_assign rfl rfl rfl ?_
    refine xr_nil ⟨nofun, [(.t 0, _), (.t 1, _), (.t 5, _), (.t 7, _), (.t 8, _)], ⟨rfl, rfl, rfl, rfl, rfl, rfl, rfl, rfl, rfl, rfl, trivial⟩, ?_⟩
    refine xa_seq ?_
    refine xa_region ?_
    refine x_move rfl rfl ?_
    refine x_move rfl rfl ?_
    refine x_move rfl rfl ?_
    refine x_index_listN rfl rfl rfl (fun _ => rfl) (by omega) ?_
    refine x_load_iptV rfl rfl rfl ?_
    apply x_callV rfl rfl
    · apply pa_cons
      · exact pa_plain rfl
      apply pa_cons
      · exact pa_plain rfl
      apply pa_cons
      · exact pa_plain rfl
      exact pa_nil
    · exact hq (xs.getD i default)
    · exact ⟨rfl, rfl, rfl, of_decide_eq_true rfl, rfl⟩
    · exact .inl rfl
    · exact back_nil
    · exact inst_plain rfl
    · exact fun _ => rfl
    intro g16
    refine xr_nil ⟨nofun, [(.t 0, _), (.t 1, _), (.t 5, _), (.t 7, _), (.t 8, _), (.t 16, _)], ⟨rfl, rfl, rfl, rfl, rfl, rfl, rfl, rfl, rfl, rfl, rfl, rfl, trivial⟩, ?_⟩
    refine xa_cond rfl (fun hc => ?_) (fun hc => ?_)
    · try simp only [decide_eq_true_eq, decide_eq_false_iff_not, Bool.not_eq_true', Bool.not_eq_false', bne_iff_ne, beq_iff_eq, ne_eq, Bool.not_true, Bool.not_false, beq_eq_false_iff_ne, bne_eq_false_iff_eq, Decidable.not_not, Int.not_lt, Int.not_le, Bool.and_eq_true, Bool.and_eq_false_iff, Bool.or_eq_true, Bool.or_eq_false_iff, List.length_map] at hc
      refine xa_seq ?_
      refine xa_region ?_
      refine x_move rfl rfl ?_
      refine x_assign rfl rfl rfl ?_
      refine xr_nil ⟨nofun, [(.t 4, _)], ⟨rfl, rfl, trivial⟩, ?_⟩
      refine xa_ret ?_
      refine ⟨_, _, ?_, ret_val rfl rfl outs_nil⟩
      exact ⟨_, rfl, rfl, any_hit (by omega) hc⟩
    · try simp only [decide_eq_true_eq, decide_eq_false_iff_not, Bool.not_eq_true', Bool.not_eq_false', bne_iff_ne, beq_iff_eq, ne_eq, Bool.not_true, Bool.not_false, beq_eq_false_iff_ne, bne_eq_false_iff_eq, Decidable.not_not, Int.not_lt, Int.not_le, Bool.and_eq_true, Bool.and_eq_false_iff, Bool.or_eq_true, Bool.or_eq_false_iff, List.length_map] at hc
      refine xa_skip ?_
      refine xa_region ?_
      refine x_add rfl rfl (inI64 (by omega)) ?_
      refine x_move rfl rfl ?_
      refine xr_nil ⟨nofun, [(.t 0, _), (.t 1, _), (.t 7, _), (.t 8, _)], ⟨rfl, rfl, rfl, rfl, rfl, rfl, rfl, rfl, trivial⟩, ?_⟩
      refine ⟨i + 1, ⟨by omega, fun a ha => by rcases Nat.lt_succ_iff_lt_or_eq.1 ha with h | h; exact hi2 a h; subst h; exact hc⟩, (by omega), ⟨rfl, rfl, rfl, rfl, trivial⟩⟩
  · try simp only [decide_eq_true_eq, decide_eq_false_iff_not, Bool.not_eq_true', Bool.not_eq_false', bne_iff_ne, beq_iff_eq, ne_eq, Bool.not_true, Bool.not_false, beq_eq_false_iff_ne, bne_eq_false_iff_eq, Decidable.not_not, Int.not_lt, Int.not_le, Bool.and_eq_true, Bool.and_eq_false_iff, Bool.or_eq_true, Bool.or_eq_false_iff, List.length_map] at hc
    refine xa_exit ?_
    refine xa_seq ?_
    refine xa_region ?_
    refine x_assign rfl rfl rfl ?_
    refine xr_nil ⟨nofun, [(.t 4, _)], ⟨rfl, rfl, trivial⟩, ?_⟩
    refine xa_ret ?_
    refine ⟨_, _, ?_, ret_val rfl rfl outs_nil⟩
    exact ⟨-1, rfl, rfl, any_miss fun j hj => hi2 j (by omega)⟩

theorem keep_s_ContainsFunc2 : keepOf Try.f87 = [0, 1, 4] := by kernel_rfl
set_option maxHeartbeats 20000000 in
theorem s_ContainsFunc2 (xs : List Int) (hl : xs.length ≤ 1000) (k : Nat) (a b : AV) (q : Int → Bool) (hq : ∀ x, CW cxT k [iV x, .ipt a 0, .ipt b 0] = some (bV (q x), [])) : CW cxT 87 [L xs, .clo k [.ipt a 0, .ipt b 0]] = some (bV (xs.any q), []) := by
  obtain ⟨_, _, ⟨r, rfl, rfl, hr⟩, hC⟩ := s_IndexFunc2 xs hl k a b q hq
  refine fn_intro rfl Try.func87 rfl ⟨by kernel_rfl, rfl, of_decide_eq_true rfl, of_decide_eq_true rfl, by decide⟩ keep_s_ContainsFunc2 ?_
  refine xa_seq ?_
  refine xa_region ?_
  refine x_assign rfl rfl rfl ?_
  refine xr_nil ⟨nofun, [(.t 0, _), (.t 1, _)], ⟨rfl, rfl, rfl, rfl, trivial⟩, ?_⟩
  refine xa_seq ?_
  refine xa_region ?_
  refine x_move rfl rfl ?_
  refine x_move rfl rfl ?_
  apply x_call rfl
  · apply pa_cons
    · exact pa_plain rfl
    apply pa_cons
    · exact pa_clo rfl (pc_ipt (pc_ipt pc_nil))
    exact pa_nil
  · exact hC
  · exact ⟨rfl, rfl, rfl, of_decide_eq_true rfl, rfl⟩
  · exact .inl rfl
  · exact back_nil
  · exact inst_plain rfl
  · exact fun _ => rfl
  intro g7
  refine x_geq rfl rfl ?_
  refine x_assign rfl rfl rfl ?_
  refine xr_nil ⟨nofun, [(.t 4, _)], ⟨rfl, rfl, trivial⟩, ?_⟩
  refine xa_ret ?_
  refine ret_val' rfl rfl trivial ?_
  rw [← hr]

theorem keep_s_allIn1 : keepOf Try.f88 = [0, 1, 2, 4] := by kernel_rfl
set_option maxHeartbeats 20000000 in
theorem s_allIn1 (x lo hi : Int) : CW cxT 88 [iV x, .ipt (iV lo) 0, .ipt (iV hi) 0] = some (bV (!(decide (lo ≤ x) && decide (x ≤ hi))), []) := by
  refine fn_intro rfl Try.func88 rfl ⟨by kernel_rfl, rfl, of_decide_eq_true rfl, of_decide_eq_true rfl, by decide⟩ keep_s_allIn1 ?_
  refine xa_seq ?_
  refine xa_region ?_
  refine x_assign rfl rfl rfl ?_
  refine xr_nil ⟨nofun, [(.t 0, _), (.t 1, _), (.t 2, _)], ⟨rfl, rfl, rfl, rfl, rfl, rfl, trivial⟩, ?_⟩
  refine xa_seq ?_
  refine xa_region ?_
  refine x_move rfl rfl ?_
  refine x_load_iptV rfl rfl rfl ?_
  refine x_load_iptV rfl rfl rfl ?_
  apply x_call rfl
  · apply pa_cons
    · exact pa_plain rfl
    apply pa_cons
    · exact pa_plain rfl
    apply pa_cons
    · exact pa_plain rfl
    exact pa_nil
  · exact s_in _ _ _
  · exact ⟨rfl, rfl, rfl, of_decide_eq_true rfl, rfl⟩
  · exact .inl rfl
  · exact back_nil
  · exact inst_plain rfl
  · exact fun _ => rfl
  intro g8
  refine x_not rfl ?_
  refine x_assign rfl rfl rfl ?_
  refine xr_nil ⟨nofun, [(.t 4, _)], ⟨rfl, rfl, trivial⟩, ?_⟩
  refine xa_ret ?_
  refine ret_val' rfl rfl trivial ?_
  rfl

theorem keep_s_allIn : keepOf Try.f73 = [0, 1, 2, 6, 4, 5] := by kernel_rfl
set_option maxHeartbeats 20000000 in
theorem s_allIn (xs : List Int) (hl : xs.length ≤ 1000) (lo hi : Int) : CW cxT 73 [L xs, iV lo, iV hi] = some (bV (allB lo hi xs), []) := by
  refine fn_intro rfl Try.func73 rfl ⟨by kernel_rfl, rfl, of_decide_eq_true rfl, of_decide_eq_true rfl, by decide⟩ keep_s_allIn ?_
  refine xa_seq ?_
  refine xa_region ?_
  refine x_box rfl rfl rfl (fun _ => slot_box rfl) (fun _ => rfl) ?_
  intro g4
  refine x_box rfl rfl rfl (fun _ => slot_box rfl) (fun _ => rfl) ?_
  intro g5
  refine x_assign rfl rfl rfl ?_
  refine xr_nil ⟨nofun, [(.t 0, _), (.t 4, _), (.t 5, _), (.h 4, _), (.h 5, _)], ⟨rfl, rfl, rfl, rfl, rfl, rfl, rfl, rfl, rfl, rfl, trivial⟩, ?_⟩
  refine xa_seq ?_
  refine xa_region ?_
  refine x_move rfl rfl ?_
  refine x_makeFunc rfl rfl ?_
  apply x_call rfl
  · apply pa_cons
    · exact pa_plain rfl
    apply pa_cons
    · exact pa_clo rfl (pc_box rfl rfl (pc_box rfl rfl pc_nil))
    exact pa_nil
  · exact s_ContainsFunc2 xs hl 88 (iV lo) (iV hi) _ (fun x => s_allIn1 x lo hi)
  · exact ⟨rfl, rfl, rfl, of_decide_eq_true rfl, rfl⟩
  · exact .inr ⟨rfl, rfl⟩
  · exact back_nil
  · exact inst_plain rfl
  · exact fun _ => rfl
  intro g9
  refine x_not rfl ?_
  refine x_assign rfl rfl rfl ?_
  refine xr_nil ⟨nofun, [(.t 6, _)], ⟨rfl, rfl, trivial⟩, ?_⟩
  refine xa_ret ?_
  refine ret_val' rfl rfl trivial ?_
  exact congrArg bV (allB_any lo hi xs)

theorem keep_s_sortedS : keepOf Try.f60 = [0, 2, 4, 10, 5, 3, 27] := by kernel_rfl
set_option maxHeartbeats 20000000 in
theorem s_sortedS (xs : List Int) (hl : xs.length ≤ 1000) : CW cxT 60 [L xs] = some (.own 1 ((sortI xs).map iV), []) := by
  refine fn_intro rfl Try.func60 rfl ⟨by kernel_rfl, rfl, of_decide_eq_true rfl, of_decide_eq_true rfl, by decide⟩ keep_s_sortedS ?_
  refine xa_seq ?_
  refine xa_region ?_
  (refine x_assign_nil rfl rfl (fun _ => rfl) ?_; intro g2)
  refine xr_nil ⟨nofun, [(.t 0, _)], ⟨rfl, rfl, trivial⟩, ?_⟩
  refine xa_seq ?_
  refine xa_region ?_
  refine x_buildSlice (es := List.map iV []) rfl rfl (by decide) rfl rfl (fun _ => slot_obj (noRef_map fun _ => rfl)) (fun _ => rfl) ?_
  intro g6
  (refine x_assign_own rfl rfl (by (simp; done)) rfl (fun _ => (slot_obj (by exact noRef_map fun _ => rfl))) (fun _ => rfl) ?_; intro g3)
  refine xr_nil ⟨nofun, [(.t 0, _), (.t 3, _), (.h 3, _)], ⟨rfl, rfl, rfl, rfl, rfl, rfl, trivial⟩, ?_⟩
  refine xa_seq ?_
  refine xa_seq ?_
  refine xa_region ?_
  refine x_assign rfl rfl rfl ?_
  refine xr_nil ⟨nofun, [(.t 0, _), (.t 3, _), (.t 4, _), (.h 3, _)], ⟨rfl, rfl, rfl, rfl, rfl, rfl, rfl, rfl, trivial⟩, ?_⟩
  refine xa_block ?_
  refine xa_loopK (β := Nat × List Int × Nat) [(.t 0, _)] (fun (z : Nat × List Int × Nat) => match z with | (i, out, g) => [(.t 4, iV i), (.t 3, .sl 3 g none 0 out.length), (.h 3, .obj g 0 1 (out.map iV))]) (fun (z : Nat × List Int × Nat) => match z with | (i, out, g) => i ≤ xs.length ∧ out = sortI (xs.take i)) (fun (z : Nat × List Int × Nat) => match z with | (i, out, g) => xs.length - i) (0, [], _) ⟨rfl, rfl, rfl, rfl, trivial⟩ ⟨Nat.zero_le _, rfl⟩ ?_
  intro z hb
  obtain ⟨i, out, g⟩ := z
  try dsimp only at hb
  obtain ⟨hi1, hi2⟩ := hb
  have hol : out.length = i := by rw [hi2, sortI_length, List.length_take]; omega
  refine xa_seq ?_
  refine xa_seq ?_
  refine xa_region ?_
  refine x_move rfl rfl ?_
  refine x_move rfl rfl ?_
  refine x_len_map rfl rfl ?_
  refine x_lss rfl rfl ?_
  refine xr_nil ⟨nofun, [(.t 0, _), (.t 3, _), (.t 4, _), (.t 10, _), (.h 3, _)], ⟨rfl, rfl, rfl, rfl, rfl, rfl, rfl, rfl, rfl, rfl, trivial⟩, ?_⟩
  refine xa_cond rfl (fun hc => ?_) (fun hc => ?_)
  · try simp only [decide_eq_true_eq, decide_eq_false_iff_not, Bool.not_eq_true', Bool.not_eq_false', bne_iff_ne, beq_iff_eq, ne_eq, Bool.not_true, Bool.not_false, beq_eq_false_iff_ne, bne_eq_false_iff_eq, Decidable.not_not, Int.not_lt, Int.not_le, Bool.and_eq_true, Bool.and_eq_false_iff, Bool.or_eq_true, Bool.or_eq_false_iff, List.length_map] at hc
    refine xa_skip ?_
    refine xa_seq ?_
    refine xa_block ?_
    refine xa_seq ?_
    refine xa_region ?_
    refine x_assign rfl rfl rfl ?_
    refine xr_nil ⟨nofun, [(.t 0, _), (.t 3, _), (.t 4, _), (.t 5, _), (.h 3, _)], ⟨rfl, rfl, rfl, rfl, rfl, rfl, rfl, rfl, rfl, rfl, trivial⟩, ?_⟩
    refine xa_seq ?_
    refine xa_block ?_
    refine xa_loopK (β := Nat) [(.t 0, _), (.t 3, _), (.t 4, _), (.h 3, _)] (fun (k : Nat) => [(.t 5, iV k)]) (fun (k : Nat) => k ≤ out.length ∧ ∀ j, j < k → out.getD j default ≤ xs.getD i default) (fun (k : Nat) => out.length - k) 0 ⟨rfl, rfl, rfl, rfl, rfl, trivial⟩ ⟨Nat.zero_le _, fun j h => by omega⟩ ?_
    intro k hb
    obtain ⟨hk1, hk2⟩ := hb
    refine xa_seq ?_
    refine xa_seq ?_
    refine xa_region ?_
    refine x_move rfl rfl ?_
    refine x_move rfl rfl ?_
    refine x_len_sl rfl rfl ?_
    refine x_lss rfl rfl ?_
    refine x_move rfl rfl ?_
    refine x_guard_split rfl rfl (fun hg0 => ?_) (fun hg0 => ?_)
    · have hg := hg0; try simp only [decide_eq_true_eq, decide_eq_false_iff_not, Bool.not_eq_true', Bool.not_eq_false', bne_iff_ne, beq_iff_eq, ne_eq, Bool.not_true, Bool.not_false, beq_eq_false_iff_ne, bne_eq_false_iff_eq, Decidable.not_not, Int.not_lt, Int.not_le, Bool.and_eq_true, Bool.and_eq_false_iff, Bool.or_eq_true, Bool.or_eq_false_iff] at hg
      refine x_move rfl rfl ?_
      refine x_guard_t rfl rfl (by assumption) ?_
      refine x_move rfl rfl ?_
      refine x_guard_t rfl rfl (by assumption) ?_
      refine x_index_slN rfl rfl rfl rfl (by omega) (by (simp; done)) rfl ?_
      refine x_guard_t rfl rfl (by assumption) ?_
      refine x_load_mapV rfl rfl (by omega) (fun _ => rfl) (fun _ => rfl) rfl ?_
      refine x_guard_t rfl rfl (by assumption) ?_
      refine x_move rfl rfl ?_
      refine x_guard_t rfl rfl (by assumption) ?_
      refine x_move rfl rfl ?_
      refine x_guard_t rfl rfl (by assumption) ?_
      refine x_index_listN rfl rfl rfl (fun _ => rfl) (by omega) ?_
      refine x_guard_t rfl rfl (by assumption) ?_
      refine x_load_iptV rfl rfl rfl ?_
      refine x_guard_t rfl rfl (by assumption) ?_
      refine x_leq rfl rfl ?_
      refine x_pick_t rfl (by assumption) rfl rfl ?_
      refine xr_nil ⟨fun _ => ⟨by decide +kernel, by decide +kernel⟩, [(.t 0, _), (.t 3, _), (.t 4, _), (.t 5, _), (.t 27, _), (.h 3, _)], ⟨rfl, rfl, rfl, rfl, rfl, rfl, rfl, rfl, rfl, rfl, rfl, rfl, trivial⟩, ?_⟩
      refine xa_cond rfl (fun hc => ?_) (fun hc => ?_)
      · try simp only [decide_eq_true_eq, decide_eq_false_iff_not, Bool.not_eq_true', Bool.not_eq_false', bne_iff_ne, beq_iff_eq, ne_eq, Bool.not_true, Bool.not_false, beq_eq_false_iff_ne, bne_eq_false_iff_eq, Decidable.not_not, Int.not_lt, Int.not_le, Bool.and_eq_true, Bool.and_eq_false_iff, Bool.or_eq_true, Bool.or_eq_false_iff, List.length_map] at hc
        refine xa_skip ?_
        refine xa_block ?_
        refine xa_region ?_
        refine x_move rfl rfl ?_
        refine x_add rfl rfl (inI64 (by omega)) ?_
        refine x_assign rfl rfl rfl ?_
        refine xr_nil ⟨nofun, [(.t 0, _), (.t 3, _), (.t 4, _), (.t 5, _), (.h 3, _)], ⟨rfl, rfl, rfl, rfl, rfl, rfl, rfl, rfl, rfl, rfl, trivial⟩, ?_⟩
        refine ⟨k + 1, ⟨by omega, fun a ha => by rcases Nat.lt_succ_iff_lt_or_eq.1 ha with h | h; exact hk2 a h; subst h; exact hc⟩, (by omega), ⟨rfl, rfl, rfl, rfl, rfl, trivial⟩⟩
      · try simp only [decide_eq_true_eq, decide_eq_false_iff_not, Bool.not_eq_true', Bool.not_eq_false', bne_iff_ne, beq_iff_eq, ne_eq, Bool.not_true, Bool.not_false, beq_eq_false_iff_ne, bne_eq_false_iff_eq, Decidable.not_not, Int.not_lt, Int.not_le, Bool.and_eq_true, Bool.and_eq_false_iff, Bool.or_eq_true, Bool.or_eq_false_iff, List.length_map] at hc
        refine xa_exit ?_
        refine xa_region ?_
        refine x_buildSlice (es := List.map iV []) rfl rfl (by decide) rfl rfl (fun _ => slot_obj (noRef_map fun _ => rfl)) (fun _ => rfl) ?_
        intro g30
        refine x_move rfl rfl ?_
        refine x_move rfl rfl ?_
        refine x_slice_sl rfl rfl rfl (optNat_someN rfl) (by omega) rfl ?_
        refine x_append_rdM rfl rfl rfl rfl (by decide) rfl (by simp) (by omega) rfl rfl rfl (by decide) (fun _ => ⟨rfl, rfl, rfl⟩) (by simp only [maxL]; (simp only [List.length_nil, List.length_cons, List.length_append, Nat.zero_add, List.length_map]; omega)) (fun _ => rfl) ?_
        intro g34
        refine x_move rfl rfl ?_
        refine x_move rfl rfl ?_
        refine x_index_listN rfl rfl rfl (fun _ => rfl) (by omega) ?_
        refine x_load_iptV rfl rfl rfl ?_
        refine x_buildSlice (es := List.map iV [_]) rfl rfl (by decide) rfl rfl (fun _ => slot_obj (noRef_map fun _ => rfl)) (fun _ => rfl) ?_
        intro g39
        refine x_append_map rfl rfl rfl rfl (by simp) (by simp) (by decide) rfl rfl rfl rfl (by decide) (fun _ => ⟨rfl, rfl⟩) (by simp only [maxL]; (simp; omega)) (fun _ => rfl) ?_
        intro g40
        refine x_move rfl rfl ?_
        refine x_move rfl rfl ?_
        refine x_slice_slx rfl rfl rfl optNat_none (optNat_someN rfl) (by omega) rfl ?_
        refine x_append_rdM rfl rfl rfl rfl (by decide) rfl (by simp) (by omega) rfl rfl rfl (by decide) (fun _ => ⟨rfl, rfl, rfl⟩) (by simp only [maxL]; (simp; omega)) (fun _ => rfl) ?_
        intro g44
        (refine x_assign_own rfl rfl (by (simp; done)) rfl (fun _ => (slot_obj (by exact noRef_map fun _ => rfl))) (fun _ => rfl) ?_; intro g3)
        refine xr_nil ⟨fun _ => ⟨by decide +kernel, by decide +kernel⟩, [(.t 0, _), (.t 3, _), (.t 4, _), (.h 3, _)], ⟨rfl, rfl, rfl, rfl, rfl, rfl, rfl, rfl, trivial⟩, ?_⟩
        refine xa_region ?_
        refine x_move rfl rfl ?_
        refine x_add rfl rfl (inI64 (by omega)) ?_
        refine x_assign rfl rfl rfl ?_
        refine xr_nil ⟨nofun, [(.t 0, _), (.t 3, _), (.t 4, _), (.h 3, _)], ⟨rfl, rfl, rfl, rfl, rfl, rfl, rfl, rfl, trivial⟩, ?_⟩
        refine ⟨(i + 1, _, _), ?_, (by simp only; omega), ⟨rfl, rfl, rfl, rfl, trivial⟩⟩
        exact ⟨by omega, by rw [sortI_take (by omega), ← hi2]; exact insert_step (hi2 ▸ sortI_sorted _) hk1 hk2 fun h => by omega⟩
    · have hg := hg0; try simp only [decide_eq_true_eq, decide_eq_false_iff_not, Bool.not_eq_true', Bool.not_eq_false', bne_iff_ne, beq_iff_eq, ne_eq, Bool.not_true, Bool.not_false, beq_eq_false_iff_ne, bne_eq_false_iff_eq, Decidable.not_not, Int.not_lt, Int.not_le, Bool.and_eq_true, Bool.and_eq_false_iff, Bool.or_eq_true, Bool.or_eq_false_iff] at hg
      refine x_guard_f rfl rfl (by assumption) ?_
      refine x_guard_f rfl rfl (by assumption) ?_
      refine x_guard_f rfl rfl (by assumption) ?_
      refine x_guard_f rfl rfl (by assumption) ?_
      refine x_guard_f rfl rfl (by assumption) ?_
      refine x_guard_f rfl rfl (by assumption) ?_
      refine x_guard_f rfl rfl (by assumption) ?_
      refine x_guard_f rfl rfl (by assumption) ?_
      refine x_pick_f rfl (by assumption) rfl rfl ?_
      refine xr_nil ⟨fun _ => ⟨by decide +kernel, by decide +kernel⟩, [(.t 0, _), (.t 3, _), (.t 4, _), (.t 5, _), (.t 27, _), (.h 3, _)], ⟨rfl, rfl, rfl, rfl, rfl, rfl, rfl, rfl, rfl, rfl, rfl, rfl, trivial⟩, ?_⟩
      refine xa_cond rfl (fun hc => absurd hc (by decide)) (fun hc => ?_)
      refine xa_exit ?_
      refine xa_region ?_
      refine x_buildSlice (es := List.map iV []) rfl rfl (by decide) rfl rfl (fun _ => slot_obj (noRef_map fun _ => rfl)) (fun _ => rfl) ?_
      intro g30
      refine x_move rfl rfl ?_
      refine x_move rfl rfl ?_
      refine x_slice_sl rfl rfl rfl (optNat_someN rfl) (by omega) rfl ?_
      refine x_append_rdM rfl rfl rfl rfl (by decide) rfl (by simp) (by omega) rfl rfl rfl (by decide) (fun _ => ⟨rfl, rfl, rfl⟩) (by simp only [maxL]; (simp only [List.length_nil, List.length_cons, List.length_append, Nat.zero_add, List.length_map]; omega)) (fun _ => rfl) ?_
      intro g34
      refine x_move rfl rfl ?_
      refine x_move rfl rfl ?_
      refine x_index_listN rfl rfl rfl (fun _ => rfl) (by omega) ?_
      refine x_load_iptV rfl rfl rfl ?_
      refine x_buildSlice (es := List.map iV [_]) rfl rfl (by decide) rfl rfl (fun _ => slot_obj (noRef_map fun _ => rfl)) (fun _ => rfl) ?_
      intro g39
      refine x_append_map rfl rfl rfl rfl (by simp) (by simp) (by decide) rfl rfl rfl rfl (by decide) (fun _ => ⟨rfl, rfl⟩) (by simp only [maxL]; (simp; omega)) (fun _ => rfl) ?_
      intro g40
      refine x_move rfl rfl ?_
      refine x_move rfl rfl ?_
      refine x_slice_slx rfl rfl rfl optNat_none (optNat_someN rfl) (by omega) rfl ?_
      refine x_append_rdM rfl rfl rfl rfl (by decide) rfl (by simp) (by omega) rfl rfl rfl (by decide) (fun _ => ⟨rfl, rfl, rfl⟩) (by simp only [maxL]; (simp; omega)) (fun _ => rfl) ?_
      intro g44
      (refine x_assign_own rfl rfl (by (simp; done)) rfl (fun _ => (slot_obj (by exact noRef_map fun _ => rfl))) (fun _ => rfl) ?_; intro g3)
      refine xr_nil ⟨fun _ => ⟨by decide +kernel, by decide +kernel⟩, [(.t 0, _), (.t 3, _), (.t 4, _), (.h 3, _)], ⟨rfl, rfl, rfl, rfl, rfl, rfl, rfl, rfl, trivial⟩, ?_⟩
      refine xa_region ?_
      refine x_move rfl rfl ?_
      refine x_add rfl rfl (inI64 (by omega)) ?_
      refine x_assign rfl rfl rfl ?_
      refine xr_nil ⟨nofun, [(.t 0, _), (.t 3, _), (.t 4, _), (.h 3, _)], ⟨rfl, rfl, rfl, rfl, rfl, rfl, rfl, rfl, trivial⟩, ?_⟩
      refine ⟨(i + 1, _, _), ?_, (by simp only; omega), ⟨rfl, rfl, rfl, rfl, trivial⟩⟩
      exact ⟨by omega, by rw [sortI_take (by omega), ← hi2]; exact insert_step (hi2 ▸ sortI_sorted _) hk1 hk2 fun h => by omega⟩
  · try simp only [decide_eq_true_eq, decide_eq_false_iff_not, Bool.not_eq_true', Bool.not_eq_false', bne_iff_ne, beq_iff_eq, ne_eq, Bool.not_true, Bool.not_false, beq_eq_false_iff_ne, bne_eq_false_iff_eq, Decidable.not_not, Int.not_lt, Int.not_le, Bool.and_eq_true, Bool.and_eq_false_iff, Bool.or_eq_true, Bool.or_eq_false_iff, List.length_map] at hc
    refine xa_exit ?_
    refine xa_seq ?_
    refine xa_region ?_
    refine x_move rfl rfl ?_
    (refine x_assign_own rfl rfl (by (simp; done)) rfl (fun _ => (slot_obj (by exact noRef_map fun _ => rfl))) (fun _ => rfl) ?_; intro g2)
    refine xr_nil ⟨nofun, [(.t 2, _), (.h 2, _)], ⟨rfl, rfl, rfl, rfl, trivial⟩, ?_⟩
    refine xa_ret ?_
    refine ret_own' rfl rfl (by simp) (by exact noRef_map fun _ => rfl) trivial ?_
    rw [hi2, List.take_of_length_le (by omega)]

theorem keep_s_ClipI : keepOf Try.f75 = [0, 2] := by kernel_rfl
set_option maxHeartbeats 20000000 in
theorem s_ClipI (xs : List Int) (hx : xs.length ≤ maxL) : CW cxT 75 [.own 1 (xs.map iV)] = some (.own 1 (xs.map iV), []) := by
  refine fn_intro rfl Try.func75 rfl ⟨by kernel_rfl, rfl, of_decide_eq_true rfl, of_decide_eq_true rfl, by decide⟩ keep_s_ClipI ?_
  refine xa_seq ?_
  refine xa_region ?_
  (refine x_assign_nil rfl rfl (fun _ => rfl) ?_; intro g2)
  refine xr_nil ⟨nofun, [(.t 0, _), (.h 0, _)], ⟨rfl, rfl, rfl, rfl, trivial⟩, ?_⟩
  refine xa_seq ?_
  refine xa_region ?_
  refine x_move rfl rfl ?_
  refine x_move rfl rfl ?_
  refine x_len_sl rfl rfl ?_
  refine x_move rfl rfl ?_
  refine x_len_sl rfl rfl ?_
  refine x_clip rfl rfl rfl rfl rfl rfl (fun hz => ?_) (fun hz => ?_)
  · skip
    (refine x_assign_nil rfl rfl (fun _ => rfl) ?_; intro g2)
    refine xr_nil ⟨nofun, [(.t 2, _), (.h 0, _), (.h 2, _)], ⟨rfl, rfl, rfl, rfl, rfl, rfl, trivial⟩, ?_⟩
    refine xa_ret ?_
    refine ret_own' rfl rfl (by (simp; done)) (by rfl) trivial ?_
    (have h0 : xs = [] := (by simpa using hz); subst h0; rfl)
  · skip
    (refine x_assign_own rfl rfl (by (simp; done)) rfl (fun _ => (slot_obj (by exact noRef_map fun _ => rfl))) (fun _ => rfl) ?_; intro g2)
    refine xr_nil ⟨nofun, [(.t 2, _), (.h 0, _), (.h 2, _)], ⟨rfl, rfl, rfl, rfl, rfl, rfl, trivial⟩, ?_⟩
    refine xa_ret ?_
    refine ret_own' rfl rfl (by (simp; done)) (by exact noRef_map fun _ => rfl) trivial ?_
    rfl

theorem keep_s_Max : keepOf Try.f59 = [0, 2, 7, 4, 15, 3] := by kernel_rfl
set_option maxHeartbeats 20000000 in
theorem s_Max (xs : List Int) (hl : 1 ≤ xs.length ∧ xs.length ≤ 1000) : ∃ res outs, (fun res outs => ∃ v, res = iV v ∧ outs = [] ∧ v ∈ xs ∧ ∀ x ∈ xs, x ≤ v) res outs ∧ CW cxT 59 [L xs] = some (res, outs) := by
  refine fn_introP rfl Try.func59 rfl ⟨by kernel_rfl, rfl, of_decide_eq_true rfl, of_decide_eq_true rfl, by decide⟩ keep_s_Max ?_
  refine xa_seq ?_
  refine xa_region ?_
  refine x_assign rfl rfl rfl ?_
  refine xr_nil ⟨nofun, [(.t 0, _)], ⟨rfl, rfl, trivial⟩, ?_⟩
  refine xa_seq ?_
  refine xa_seq ?_
  refine xa_region ?_
  refine x_move rfl rfl ?_
  refine x_len_map rfl rfl ?_
  refine x_lss rfl rfl ?_
  refine xr_nil ⟨nofun, [(.t 0, _), (.t 7, _)], ⟨rfl, rfl, rfl, rfl, trivial⟩, ?_⟩
  refine xa_cond rfl (fun hc => ?_) (fun hc => ?_)
  · try simp only [decide_eq_true_eq, decide_eq_false_iff_not, Bool.not_eq_true', Bool.not_eq_false', bne_iff_ne, beq_iff_eq, ne_eq, Bool.not_true, Bool.not_false, beq_eq_false_iff_ne, bne_eq_false_iff_eq, Decidable.not_not, Int.not_lt, Int.not_le] at hc
    exact absurd hc (by omega)
  · try simp only [decide_eq_true_eq, decide_eq_false_iff_not, Bool.not_eq_true', Bool.not_eq_false', bne_iff_ne, beq_iff_eq, ne_eq, Bool.not_true, Bool.not_false, beq_eq_false_iff_ne, bne_eq_false_iff_eq, Decidable.not_not, Int.not_lt, Int.not_le, Bool.and_eq_true, Bool.and_eq_false_iff, Bool.or_eq_true, Bool.or_eq_false_iff, List.length_map] at hc
    refine xa_skip ?_
    refine xa_seq ?_
    refine xa_region ?_
    refine x_move rfl rfl ?_
    refine x_index_listN rfl rfl rfl (fun _ => rfl) (by (change 0 < _; omega)) ?_
    refine x_load_iptV rfl rfl rfl ?_
    refine x_assign rfl rfl rfl ?_
    refine xr_nil ⟨nofun, [(.t 0, _), (.t 3, _)], ⟨rfl, rfl, rfl, rfl, trivial⟩, ?_⟩
    refine xa_seq ?_
    refine xa_seq ?_
    refine xa_region ?_
    refine x_assign rfl rfl rfl ?_
    refine xr_nil ⟨nofun, [(.t 0, _), (.t 3, _), (.t 4, _)], ⟨rfl, rfl, rfl, rfl, rfl, rfl, trivial⟩, ?_⟩
    refine xa_block ?_
    refine xa_loopK (β := Nat × Int) [(.t 0, _)] (fun (z : Nat × Int) => match z with | (i, v) => [(.t 4, iV i), (.t 3, iV v)]) (fun (z : Nat × Int) => match z with | (i, v) => 1 ≤ i ∧ i ≤ xs.length ∧ v ∈ xs ∧ ∀ j, j < i → xs.getD j default ≤ v) (fun (z : Nat × Int) => match z with | (i, v) => xs.length - i) (1, xs.getD 0 default) ⟨rfl, rfl, rfl, trivial⟩ ⟨Nat.le_refl _, hl.1, getD_mem (by omega), fun j h => by have h0 : j = 0 := (by omega); subst h0; exact Int.le_refl _⟩ ?_
    intro z hb
    obtain ⟨i, v⟩ := z
    try dsimp only at hb
    obtain ⟨hi0, hi1, hv1, hv2⟩ := hb
    refine xa_seq ?_
    refine xa_seq ?_
    refine xa_region ?_
    refine x_move rfl rfl ?_
    refine x_move rfl rfl ?_
    refine x_len_map rfl rfl ?_
    refine x_lss rfl rfl ?_
    refine xr_nil ⟨nofun, [(.t 0, _), (.t 3, _), (.t 4, _), (.t 15, _)], ⟨rfl, rfl, rfl, rfl, rfl, rfl, rfl, rfl, trivial⟩, ?_⟩
    refine xa_cond rfl (fun hc => ?_) (fun hc => ?_)
    · try simp only [decide_eq_true_eq, decide_eq_false_iff_not, Bool.not_eq_true', Bool.not_eq_false', bne_iff_ne, beq_iff_eq, ne_eq, Bool.not_true, Bool.not_false, beq_eq_false_iff_ne, bne_eq_false_iff_eq, Decidable.not_not, Int.not_lt, Int.not_le, Bool.and_eq_true, Bool.and_eq_false_iff, Bool.or_eq_true, Bool.or_eq_false_iff, List.length_map] at hc
      refine xa_skip ?_
      refine xa_seq ?_
      refine xa_block ?_
      refine xa_region ?_
      refine x_move rfl rfl ?_
      refine x_move rfl rfl ?_
      refine x_move rfl rfl ?_
      refine x_index_listN rfl rfl rfl (fun _ => rfl) (by omega) ?_
      refine x_load_iptV rfl rfl rfl ?_
      refine x_max rfl rfl ?_
      refine x_assign rfl rfl rfl ?_
      refine xr_nil ⟨nofun, [(.t 0, _), (.t 3, _), (.t 4, _)], ⟨rfl, rfl, rfl, rfl, rfl, rfl, trivial⟩, ?_⟩
      refine xa_region ?_
      refine x_move rfl rfl ?_
      refine x_add rfl rfl (inI64 (by omega)) ?_
      refine x_assign rfl rfl rfl ?_
      refine xr_nil ⟨nofun, [(.t 0, _), (.t 3, _), (.t 4, _)], ⟨rfl, rfl, rfl, rfl, rfl, rfl, trivial⟩, ?_⟩
      refine ⟨(i + 1, max v (xs.getD i default)), ⟨by omega, by omega, by rcases Int.le_total v (xs.getD i default) with h | h; (· (rw [Int.max_eq_right h]; exact getD_mem (by omega))); (· (rw [Int.max_eq_left h]; exact hv1)), fun j hj => by rcases Nat.lt_succ_iff_lt_or_eq.1 hj with h | h; (· have := hv2 j h; omega); (· subst h; omega)⟩, (by simp only; omega), ⟨rfl, rfl, rfl, trivial⟩⟩
    · try simp only [decide_eq_true_eq, decide_eq_false_iff_not, Bool.not_eq_true', Bool.not_eq_false', bne_iff_ne, beq_iff_eq, ne_eq, Bool.not_true, Bool.not_false, beq_eq_false_iff_ne, bne_eq_false_iff_eq, Decidable.not_not, Int.not_lt, Int.not_le, Bool.and_eq_true, Bool.and_eq_false_iff, Bool.or_eq_true, Bool.or_eq_false_iff, List.length_map] at hc
      refine xa_exit ?_
      refine xa_seq ?_
      refine xa_region ?_
      refine x_move rfl rfl ?_
      refine x_assign rfl rfl rfl ?_
      refine xr_nil ⟨nofun, [(.t 2, _)], ⟨rfl, rfl, trivial⟩, ?_⟩
      refine xa_ret ?_
      refine ⟨_, _, ?_, ret_val rfl rfl outs_nil⟩
      refine ⟨v, rfl, rfl, hv1, fun x hx2 => ?_⟩
      obtain ⟨j, hj, rfl⟩ := mem_getD hx2
      exact hv2 j (by omega)

theorem keep_s_validData : keepOf Try.f71 = [0, 2, 3, 7, 15] := by kernel_rfl
set_option maxHeartbeats 20000000 in
theorem s_validData (xs : List Int) (hl : xs.length ≤ 1048576) : CW cxT 71 [L xs] = some (bV (vd xs), []) := by
  refine fn_intro rfl Try.func71 rfl ⟨by kernel_rfl, rfl, of_decide_eq_true rfl, of_decide_eq_true rfl, by decide⟩ keep_s_validData ?_
  refine xa_seq ?_
  refine xa_region ?_
  refine x_assign rfl rfl rfl ?_
  refine xr_nil ⟨nofun, [(.t 0, _)], ⟨rfl, rfl, trivial⟩, ?_⟩
  refine xa_seq ?_
  refine xa_seq ?_
  refine xa_region ?_
  refine x_assign rfl rfl rfl ?_
  refine xr_nil ⟨nofun, [(.t 0, _), (.t 3, _)], ⟨rfl, rfl, rfl, rfl, trivial⟩, ?_⟩
  refine xa_block ?_
  refine xa_loopK (β := Nat) [(.t 0, _)] (fun (i : Nat) => [(.t 3, iV i)]) (fun (i : Nat) => i ≤ xs.length ∧ ∀ j, j < i → -200 ≤ xs.getD j default ∧ xs.getD j default ≤ 200) (fun (i : Nat) => xs.length - i) 0 ⟨rfl, rfl, trivial⟩ ⟨Nat.zero_le _, fun j h => by omega⟩ ?_
  intro i hb
  obtain ⟨hi1, hi2⟩ := hb
  refine xa_seq ?_
  refine xa_seq ?_
  refine xa_region ?_
  refine x_move rfl rfl ?_
  refine x_move rfl rfl ?_
  refine x_len_map rfl rfl ?_
  refine x_lss rfl rfl ?_
  refine xr_nil ⟨nofun, [(.t 0, _), (.t 3, _), (.t 7, _)], ⟨rfl, rfl, rfl, rfl, rfl, rfl, trivial⟩, ?_⟩
  refine xa_cond rfl (fun hc => ?_) (fun hc => ?_)
  · try simp only [decide_eq_true_eq, decide_eq_false_iff_not, Bool.not_eq_true', Bool.not_eq_false', bne_iff_ne, beq_iff_eq, ne_eq, Bool.not_true, Bool.not_false, beq_eq_false_iff_ne, bne_eq_false_iff_eq, Decidable.not_not, Int.not_lt, Int.not_le, Bool.and_eq_true, Bool.and_eq_false_iff, Bool.or_eq_true, Bool.or_eq_false_iff, List.length_map] at hc
    refine xa_skip ?_
    refine xa_seq ?_
    refine xa_block ?_
    refine xa_seq ?_
    refine xa_region ?_
    refine x_move rfl rfl ?_
    refine x_move rfl rfl ?_
    refine x_index_listN rfl rfl rfl (fun _ => rfl) (by omega) ?_
    refine x_load_iptV rfl rfl rfl ?_
    apply x_call rfl
    · apply pa_cons
      · exact pa_plain rfl
      apply pa_cons
      · exact pa_plain rfl
      apply pa_cons
      · exact pa_plain rfl
      exact pa_nil
    · exact s_inRange _ _ _
    · exact ⟨rfl, rfl, rfl, of_decide_eq_true rfl, rfl⟩
    · exact .inl rfl
    · exact back_nil
    · exact inst_plain rfl
    · exact fun _ => rfl
    intro g14
    refine x_not rfl ?_
    refine xr_nil ⟨nofun, [(.t 0, _), (.t 3, _), (.t 15, _)], ⟨rfl, rfl, rfl, rfl, rfl, rfl, trivial⟩, ?_⟩
    refine xa_cond rfl (fun hc => ?_) (fun hc => ?_)
    · try simp only [decide_eq_true_eq, decide_eq_false_iff_not, Bool.not_eq_true', Bool.not_eq_false', bne_iff_ne, beq_iff_eq, ne_eq, Bool.not_true, Bool.not_false, beq_eq_false_iff_ne, bne_eq_false_iff_eq, Decidable.not_not, Int.not_lt, Int.not_le, Bool.and_eq_true, Bool.and_eq_false_iff, Bool.or_eq_true, Bool.or_eq_false_iff, List.length_map] at hc
      refine xa_seq ?_
      refine xa_region ?_
      refine x_assign rfl rfl rfl ?_
      refine xr_nil ⟨nofun, [(.t 2, _)], ⟨rfl, rfl, trivial⟩, ?_⟩
      refine xa_ret ?_
      refine ret_val' rfl rfl trivial ?_
      rw [vd, allB_not (show i < xs.length by omega) (by (simp_all; omega)), Bool.and_false]
      rfl
    · try simp only [decide_eq_true_eq, decide_eq_false_iff_not, Bool.not_eq_true', Bool.not_eq_false', bne_iff_ne, beq_iff_eq, ne_eq, Bool.not_true, Bool.not_false, beq_eq_false_iff_ne, bne_eq_false_iff_eq, Decidable.not_not, Int.not_lt, Int.not_le, Bool.and_eq_true, Bool.and_eq_false_iff, Bool.or_eq_true, Bool.or_eq_false_iff, List.length_map] at hc
      refine xa_skip ?_
      refine xa_region ?_
      refine x_move rfl rfl ?_
      refine x_add rfl rfl (inI64 (by omega)) ?_
      refine x_assign rfl rfl rfl ?_
      refine xr_nil ⟨nofun, [(.t 0, _), (.t 3, _)], ⟨rfl, rfl, rfl, rfl, trivial⟩, ?_⟩
      refine ⟨i + 1, ⟨by omega, fun j hj => by rcases Nat.lt_succ_iff_lt_or_eq.1 hj with h | h; (· exact hi2 j h); (· subst h; assumption)⟩, (by omega), ⟨rfl, rfl, trivial⟩⟩
  · try simp only [decide_eq_true_eq, decide_eq_false_iff_not, Bool.not_eq_true', Bool.not_eq_false', bne_iff_ne, beq_iff_eq, ne_eq, Bool.not_true, Bool.not_false, beq_eq_false_iff_ne, bne_eq_false_iff_eq, Decidable.not_not, Int.not_lt, Int.not_le, Bool.and_eq_true, Bool.and_eq_false_iff, Bool.or_eq_true, Bool.or_eq_false_iff, List.length_map] at hc
    refine xa_exit ?_
    refine xa_seq ?_
    refine xa_region ?_
    refine x_move rfl rfl ?_
    refine x_len_map rfl rfl ?_
    refine x_leq rfl rfl ?_
    refine x_assign rfl rfl rfl ?_
    refine xr_nil ⟨nofun, [(.t 2, _)], ⟨rfl, rfl, trivial⟩, ?_⟩
    refine xa_ret ?_
    refine ret_val' rfl rfl trivial ?_
    rw [vd, allB_of fun j hj => hi2 j (by omega), Bool.and_true]
    exact congrArg bV (decide_eq_decide.2 (by omega))

theorem keep_s_validDataI : keepOf Try.f72 = [0, 2] := by kernel_rfl
set_option maxHeartbeats 20000000 in
theorem s_validDataI (xs : List Int) (hl : xs.length ≤ 1048576) : CW cxT 72 [L xs] = some (bV (vd xs), []) := by
  refine fn_intro rfl Try.func72 rfl ⟨by kernel_rfl, rfl, of_decide_eq_true rfl, of_decide_eq_true rfl, by decide⟩ keep_s_validDataI ?_
  refine xa_seq ?_
  refine xa_region ?_
  refine x_assign rfl rfl rfl ?_
  refine xr_nil ⟨nofun, [(.t 0, _)], ⟨rfl, rfl, trivial⟩, ?_⟩
  refine xa_seq ?_
  refine xa_region ?_
  refine x_move rfl rfl ?_
  refine x_len_map rfl rfl ?_
  refine x_leq rfl rfl ?_
  refine x_move rfl rfl ?_
  refine x_guard_split rfl rfl (fun hg0 => ?_) (fun hg0 => ?_)
  · have hg := hg0; try simp only [decide_eq_true_eq, decide_eq_false_iff_not, Bool.not_eq_true', Bool.not_eq_false', bne_iff_ne, beq_iff_eq, ne_eq, Bool.not_true, Bool.not_false, beq_eq_false_iff_ne, bne_eq_false_iff_eq, Decidable.not_not, Int.not_lt, Int.not_le, Bool.and_eq_true, Bool.and_eq_false_iff, Bool.or_eq_true, Bool.or_eq_false_iff] at hg
    refine x_move rfl rfl ?_
    refine x_guard_t rfl rfl (by assumption) ?_
    apply x_call rfl
    · apply pa_cons
      · exact pa_plain rfl
      apply pa_cons
      · exact pa_plain rfl
      apply pa_cons
      · exact pa_plain rfl
      exact pa_nil
    · exact s_allIn xs (by omega) (-200) 200
    · exact ⟨rfl, rfl, rfl, of_decide_eq_true rfl, rfl⟩
    · exact .inl rfl
    · exact back_nil
    · exact inst_plain rfl
    · exact fun _ => rfl
    intro g8
    refine x_pick_t rfl (by assumption) rfl rfl ?_
    refine x_assign rfl rfl rfl ?_
    refine xr_nil ⟨nofun, [(.t 2, _)], ⟨rfl, rfl, trivial⟩, ?_⟩
    refine xa_ret ?_
    refine ret_val' rfl rfl trivial ?_
    cases hb : allB (-200) 200 xs <;> simp_all [vd, ofConst] <;> omega
  · have hg := hg0; try simp only [decide_eq_true_eq, decide_eq_false_iff_not, Bool.not_eq_true', Bool.not_eq_false', bne_iff_ne, beq_iff_eq, ne_eq, Bool.not_true, Bool.not_false, beq_eq_false_iff_ne, bne_eq_false_iff_eq, Decidable.not_not, Int.not_lt, Int.not_le, Bool.and_eq_true, Bool.and_eq_false_iff, Bool.or_eq_true, Bool.or_eq_false_iff] at hg
    refine x_guard_f rfl rfl (by assumption) ?_
    refine x_pick_f rfl (by assumption) rfl rfl ?_
    refine x_assign rfl rfl rfl ?_
    refine xr_nil ⟨nofun, [(.t 2, _)], ⟨rfl, rfl, trivial⟩, ?_⟩
    refine xa_ret ?_
    refine ret_val' rfl rfl trivial ?_
    cases hb : allB (-200) 200 xs <;> simp_all [vd, ofConst] <;> omega

theorem keep_s_validCases : keepOf Try.f48 = [0, 1, 4, 5, 9, 17] := by kernel_rfl
set_option maxHeartbeats 20000000 in
theorem s_validCases (xs ms : List Int) (hl : xs.length ≤ 1048576) (hl2 : ms.length ≤ 1048576) : CW cxT 48 [L xs, L ms] = some (bV (vca xs ms), []) := by
  refine fn_intro rfl Try.func48 rfl ⟨by kernel_rfl, rfl, of_decide_eq_true rfl, of_decide_eq_true rfl, by decide⟩ keep_s_validCases ?_
  refine xa_seq ?_
  refine xa_region ?_
  refine x_assign rfl rfl rfl ?_
  refine xr_nil ⟨nofun, [(.t 0, _), (.t 1, _)], ⟨rfl, rfl, rfl, rfl, trivial⟩, ?_⟩
  refine xa_seq ?_
  refine xa_seq ?_
  refine xa_region ?_
  refine x_assign rfl rfl rfl ?_
  refine xr_nil ⟨nofun, [(.t 0, _), (.t 1, _), (.t 5, _)], ⟨rfl, rfl, rfl, rfl, rfl, rfl, trivial⟩, ?_⟩
  refine xa_block ?_
  refine xa_loopK (β := Nat) [(.t 0, _), (.t 1, _)] (fun (i : Nat) => [(.t 5, iV i)]) (fun (i : Nat) => i ≤ ms.length ∧ ∀ j, j < i → 0 ≤ ms.getD j default ∧ ms.getD j default ≤ 1) (fun (i : Nat) => ms.length - i) 0 ⟨rfl, rfl, rfl, trivial⟩ ⟨Nat.zero_le _, fun j h => by omega⟩ ?_
  intro i hb
  obtain ⟨hi1, hi2⟩ := hb
  refine xa_seq ?_
  refine xa_seq ?_
  refine xa_region ?_
  refine x_move rfl rfl ?_
  refine x_move rfl rfl ?_
  refine x_len_map rfl rfl ?_
  refine x_lss rfl rfl ?_
  refine xr_nil ⟨nofun, [(.t 0, _), (.t 1, _), (.t 5, _), (.t 9, _)], ⟨rfl, rfl, rfl, rfl, rfl, rfl, rfl, rfl, trivial⟩, ?_⟩
  refine xa_cond rfl (fun hc => ?_) (fun hc => ?_)
  · try simp only [decide_eq_true_eq, decide_eq_false_iff_not, Bool.not_eq_true', Bool.not_eq_false', bne_iff_ne, beq_iff_eq, ne_eq, Bool.not_true, Bool.not_false, beq_eq_false_iff_ne, bne_eq_false_iff_eq, Decidable.not_not, Int.not_lt, Int.not_le, Bool.and_eq_true, Bool.and_eq_false_iff, Bool.or_eq_true, Bool.or_eq_false_iff, List.length_map] at hc
    refine xa_skip ?_
    refine xa_seq ?_
    refine xa_block ?_
    refine xa_seq ?_
    refine xa_region ?_
    refine x_move rfl rfl ?_
    refine x_move rfl rfl ?_
    refine x_index_listN rfl rfl rfl (fun _ => rfl) (by omega) ?_
    refine x_load_iptV rfl rfl rfl ?_
    apply x_call rfl
    · apply pa_cons
      · exact pa_plain rfl
      apply pa_cons
      · exact pa_plain rfl
      apply pa_cons
      · exact pa_plain rfl
      exact pa_nil
    · exact s_inRange _ _ _
    · exact ⟨rfl, rfl, rfl, of_decide_eq_true rfl, rfl⟩
    · exact .inl rfl
    · exact back_nil
    · exact inst_plain rfl
    · exact fun _ => rfl
    intro g16
    refine x_not rfl ?_
    refine xr_nil ⟨nofun, [(.t 0, _), (.t 1, _), (.t 5, _), (.t 17, _)], ⟨rfl, rfl, rfl, rfl, rfl, rfl, rfl, rfl, trivial⟩, ?_⟩
    refine xa_cond rfl (fun hc => ?_) (fun hc => ?_)
    · try simp only [decide_eq_true_eq, decide_eq_false_iff_not, Bool.not_eq_true', Bool.not_eq_false', bne_iff_ne, beq_iff_eq, ne_eq, Bool.not_true, Bool.not_false, beq_eq_false_iff_ne, bne_eq_false_iff_eq, Decidable.not_not, Int.not_lt, Int.not_le, Bool.and_eq_true, Bool.and_eq_false_iff, Bool.or_eq_true, Bool.or_eq_false_iff, List.length_map] at hc
      refine xa_seq ?_
      refine xa_region ?_
      refine x_assign rfl rfl rfl ?_
      refine xr_nil ⟨nofun, [(.t 4, _)], ⟨rfl, rfl, trivial⟩, ?_⟩
      refine xa_ret ?_
      refine ret_val' rfl rfl trivial ?_
      rw [vca, allB_not (show i < ms.length by omega) (by (simp_all; omega)), Bool.and_false]
      rfl
    · try simp only [decide_eq_true_eq, decide_eq_false_iff_not, Bool.not_eq_true', Bool.not_eq_false', bne_iff_ne, beq_iff_eq, ne_eq, Bool.not_true, Bool.not_false, beq_eq_false_iff_ne, bne_eq_false_iff_eq, Decidable.not_not, Int.not_lt, Int.not_le, Bool.and_eq_true, Bool.and_eq_false_iff, Bool.or_eq_true, Bool.or_eq_false_iff, List.length_map] at hc
      refine xa_skip ?_
      refine xa_region ?_
      refine x_move rfl rfl ?_
      refine x_add rfl rfl (inI64 (by omega)) ?_
      refine x_assign rfl rfl rfl ?_
      refine xr_nil ⟨nofun, [(.t 0, _), (.t 1, _), (.t 5, _)], ⟨rfl, rfl, rfl, rfl, rfl, rfl, trivial⟩, ?_⟩
      refine ⟨i + 1, ⟨by omega, fun j hj => by rcases Nat.lt_succ_iff_lt_or_eq.1 hj with h | h; (· exact hi2 j h); (· subst h; assumption)⟩, (by omega), ⟨rfl, rfl, rfl, trivial⟩⟩
  · try simp only [decide_eq_true_eq, decide_eq_false_iff_not, Bool.not_eq_true', Bool.not_eq_false', bne_iff_ne, beq_iff_eq, ne_eq, Bool.not_true, Bool.not_false, beq_eq_false_iff_ne, bne_eq_false_iff_eq, Decidable.not_not, Int.not_lt, Int.not_le, Bool.and_eq_true, Bool.and_eq_false_iff, Bool.or_eq_true, Bool.or_eq_false_iff, List.length_map] at hc
    refine xa_exit ?_
    refine xa_seq ?_
    refine xa_region ?_
    refine x_move rfl rfl ?_
    apply x_call rfl
    · apply pa_cons
      · exact pa_plain rfl
      exact pa_nil
    · exact s_validData xs hl
    · exact ⟨rfl, rfl, rfl, of_decide_eq_true rfl, rfl⟩
    · exact .inl rfl
    · exact back_nil
    · exact inst_plain rfl
    · exact fun _ => rfl
    intro g19
    refine x_move rfl rfl ?_
    refine x_guard_split rfl rfl (fun hg0 => ?_) (fun hg0 => ?_)
    · have hg := hg0; try simp only [decide_eq_true_eq, decide_eq_false_iff_not, Bool.not_eq_true', Bool.not_eq_false', bne_iff_ne, beq_iff_eq, ne_eq, Bool.not_true, Bool.not_false, beq_eq_false_iff_ne, bne_eq_false_iff_eq, Decidable.not_not, Int.not_lt, Int.not_le, Bool.and_eq_true, Bool.and_eq_false_iff, Bool.or_eq_true, Bool.or_eq_false_iff] at hg
      refine x_move rfl rfl ?_
      refine x_guard_t rfl rfl (by assumption) ?_
      refine x_len_map rfl rfl ?_
      refine x_guard_t rfl rfl (by assumption) ?_
      refine x_move rfl rfl ?_
      refine x_guard_t rfl rfl (by assumption) ?_
      refine x_len_map rfl rfl ?_
      refine x_guard_t rfl rfl (by assumption) ?_
      refine x_eql rfl rfl ?_
      refine x_pick_t rfl (by assumption) rfl rfl ?_
      refine x_move rfl rfl ?_
      refine x_guard_split rfl rfl (fun hg0 => ?_) (fun hg0 => ?_)
      · have hg := hg0; try simp only [decide_eq_true_eq, decide_eq_false_iff_not, Bool.not_eq_true', Bool.not_eq_false', bne_iff_ne, beq_iff_eq, ne_eq, Bool.not_true, Bool.not_false, beq_eq_false_iff_ne, bne_eq_false_iff_eq, Decidable.not_not, Int.not_lt, Int.not_le, Bool.and_eq_true, Bool.and_eq_false_iff, Bool.or_eq_true, Bool.or_eq_false_iff] at hg
        refine x_move rfl rfl ?_
        refine x_guard_t rfl rfl (by assumption) ?_
        refine x_len_map rfl rfl ?_
        refine x_guard_t rfl rfl (by assumption) ?_
        refine x_gtr rfl rfl ?_
        refine x_pick_t rfl (by assumption) rfl rfl ?_
        refine x_assign rfl rfl rfl ?_
        refine xr_nil ⟨nofun, [(.t 4, _)], ⟨rfl, rfl, trivial⟩, ?_⟩
        refine xa_ret ?_
        refine ret_val' rfl rfl trivial ?_
        rw [vca, allB_of fun j hj => hi2 j (by omega), Bool.and_true]
        cases hvd : vd xs <;> simp_all [ofConst] <;> (rw [Bool.eq_iff_iff]; simp; omega)
      · have hg := hg0; try simp only [decide_eq_true_eq, decide_eq_false_iff_not, Bool.not_eq_true', Bool.not_eq_false', bne_iff_ne, beq_iff_eq, ne_eq, Bool.not_true, Bool.not_false, beq_eq_false_iff_ne, bne_eq_false_iff_eq, Decidable.not_not, Int.not_lt, Int.not_le, Bool.and_eq_true, Bool.and_eq_false_iff, Bool.or_eq_true, Bool.or_eq_false_iff] at hg
        refine x_guard_f rfl rfl (by assumption) ?_
        refine x_guard_f rfl rfl (by assumption) ?_
        refine x_pick_f rfl (by assumption) rfl rfl ?_
        refine x_assign rfl rfl rfl ?_
        refine xr_nil ⟨nofun, [(.t 4, _)], ⟨rfl, rfl, trivial⟩, ?_⟩
        refine xa_ret ?_
        refine ret_val' rfl rfl trivial ?_
        rw [vca, allB_of fun j hj => hi2 j (by omega), Bool.and_true]
        cases hvd : vd xs <;> simp_all [ofConst] <;> omega
    · have hg := hg0; try simp only [decide_eq_true_eq, decide_eq_false_iff_not, Bool.not_eq_true', Bool.not_eq_false', bne_iff_ne, beq_iff_eq, ne_eq, Bool.not_true, Bool.not_false, beq_eq_false_iff_ne, bne_eq_false_iff_eq, Decidable.not_not, Int.not_lt, Int.not_le, Bool.and_eq_true, Bool.and_eq_false_iff, Bool.or_eq_true, Bool.or_eq_false_iff] at hg
      refine x_guard_f rfl rfl (by assumption) ?_
      refine x_guard_f rfl rfl (by assumption) ?_
      refine x_guard_f rfl rfl (by assumption) ?_
      refine x_guard_f rfl rfl (by assumption) ?_
      refine x_pick_f rfl (by assumption) rfl rfl ?_
      refine x_move rfl rfl ?_
      refine x_guard_f rfl rfl (by rfl) ?_
      refine x_guard_f rfl rfl (by rfl) ?_
      refine x_guard_f rfl rfl (by rfl) ?_
      refine x_pick_f rfl (by rfl) rfl rfl ?_
      refine x_assign rfl rfl rfl ?_
      refine xr_nil ⟨nofun, [(.t 4, _)], ⟨rfl, rfl, trivial⟩, ?_⟩
      refine xa_ret ?_
      refine ret_val' rfl rfl trivial ?_
      rw [vca, allB_of fun j hj => hi2 j (by omega), Bool.and_true]
      cases hvd : vd xs <;> simp_all [ofConst] <;> first | omega | (rw [Bool.eq_iff_iff]; simp; omega)

theorem keep_s_validCasesI : keepOf Try.f50 = [0, 1, 4] := by kernel_rfl
set_option maxHeartbeats 20000000 in
theorem s_validCasesI (xs ms : List Int) (hl : xs.length ≤ 1048576) (hl2 : ms.length ≤ 1048576) : CW cxT 50 [L xs, L ms] = some (bV (vca xs ms), []) := by
  refine fn_intro rfl Try.func50 rfl ⟨by kernel_rfl, rfl, of_decide_eq_true rfl, of_decide_eq_true rfl, by decide⟩ keep_s_validCasesI ?_
  refine xa_seq ?_
  refine xa_region ?_
  refine x_assign rfl rfl rfl ?_
  refine xr_nil ⟨nofun, [(.t 0, _), (.t 1, _)], ⟨rfl, rfl, rfl, rfl, trivial⟩, ?_⟩
  refine xa_seq ?_
  refine xa_region ?_
  refine x_move rfl rfl ?_
  refine x_len_map rfl rfl ?_
  refine x_gtr rfl rfl ?_
  refine x_move rfl rfl ?_
  refine x_guard_split rfl rfl (fun hg0 => ?_) (fun hg0 => ?_)
  · have hg := hg0; try simp only [decide_eq_true_eq, decide_eq_false_iff_not, Bool.not_eq_true', Bool.not_eq_false', bne_iff_ne, beq_iff_eq, ne_eq, Bool.not_true, Bool.not_false, beq_eq_false_iff_ne, bne_eq_false_iff_eq, Decidable.not_not, Int.not_lt, Int.not_le, Bool.and_eq_true, Bool.and_eq_false_iff, Bool.or_eq_true, Bool.or_eq_false_iff] at hg
    refine x_move rfl rfl ?_
    refine x_guard_t rfl rfl (by assumption) ?_
    apply x_call rfl
    · apply pa_cons
      · exact pa_plain rfl
      exact pa_nil
    · exact s_validDataI xs hl
    · exact ⟨rfl, rfl, rfl, of_decide_eq_true rfl, rfl⟩
    · exact .inl rfl
    · exact back_nil
    · exact inst_plain rfl
    · exact fun _ => rfl
    intro g10
    refine x_pick_t rfl (by assumption) rfl rfl ?_
    refine x_move rfl rfl ?_
    refine x_guard_split rfl rfl (fun hg0 => ?_) (fun hg0 => ?_)
    · have hg := hg0; try simp only [decide_eq_true_eq, decide_eq_false_iff_not, Bool.not_eq_true', Bool.not_eq_false', bne_iff_ne, beq_iff_eq, ne_eq, Bool.not_true, Bool.not_false, beq_eq_false_iff_ne, bne_eq_false_iff_eq, Decidable.not_not, Int.not_lt, Int.not_le, Bool.and_eq_true, Bool.and_eq_false_iff, Bool.or_eq_true, Bool.or_eq_false_iff] at hg
      refine x_move rfl rfl ?_
      refine x_guard_t rfl rfl (by assumption) ?_
      refine x_len_map rfl rfl ?_
      refine x_guard_t rfl rfl (by assumption) ?_
      refine x_move rfl rfl ?_
      refine x_guard_t rfl rfl (by assumption) ?_
      refine x_len_map rfl rfl ?_
      refine x_guard_t rfl rfl (by assumption) ?_
      refine x_eql rfl rfl ?_
      refine x_pick_t rfl (by assumption) rfl rfl ?_
      refine x_move rfl rfl ?_
      refine x_guard_split rfl rfl (fun hg0 => ?_) (fun hg0 => ?_)
      · have hg := hg0; try simp only [decide_eq_true_eq, decide_eq_false_iff_not, Bool.not_eq_true', Bool.not_eq_false', bne_iff_ne, beq_iff_eq, ne_eq, Bool.not_true, Bool.not_false, beq_eq_false_iff_ne, bne_eq_false_iff_eq, Decidable.not_not, Int.not_lt, Int.not_le, Bool.and_eq_true, Bool.and_eq_false_iff, Bool.or_eq_true, Bool.or_eq_false_iff] at hg
        refine x_move rfl rfl ?_
        refine x_guard_t rfl rfl (by assumption) ?_
        have hvl := vd_len (show vd xs = true by assumption)
        apply x_call rfl
        · apply pa_cons
          · exact pa_plain rfl
          apply pa_cons
          · exact pa_plain rfl
          apply pa_cons
          · exact pa_plain rfl
          exact pa_nil
        · exact s_allIn ms (by omega) 0 1
        · exact ⟨rfl, rfl, rfl, of_decide_eq_true rfl, rfl⟩
        · exact .inl rfl
        · exact back_nil
        · exact inst_plain rfl
        · exact fun _ => rfl
        intro g21
        refine x_pick_t rfl (by assumption) rfl rfl ?_
        refine x_assign rfl rfl rfl ?_
        refine xr_nil ⟨nofun, [(.t 4, _)], ⟨rfl, rfl, trivial⟩, ?_⟩
        refine xa_ret ?_
        refine ret_val' rfl rfl trivial ?_
        cases hvd : vd xs <;> cases hb : allB 0 1 ms <;> simp_all [vca, ofConst] <;> omega
      · have hg := hg0; try simp only [decide_eq_true_eq, decide_eq_false_iff_not, Bool.not_eq_true', Bool.not_eq_false', bne_iff_ne, beq_iff_eq, ne_eq, Bool.not_true, Bool.not_false, beq_eq_false_iff_ne, bne_eq_false_iff_eq, Decidable.not_not, Int.not_lt, Int.not_le, Bool.and_eq_true, Bool.and_eq_false_iff, Bool.or_eq_true, Bool.or_eq_false_iff] at hg
        refine x_guard_f rfl rfl (by assumption) ?_
        refine x_pick_f rfl (by assumption) rfl rfl ?_
        refine x_assign rfl rfl rfl ?_
        refine xr_nil ⟨nofun, [(.t 4, _)], ⟨rfl, rfl, trivial⟩, ?_⟩
        refine xa_ret ?_
        refine ret_val' rfl rfl trivial ?_
        cases hvd : vd xs <;> cases hb : allB 0 1 ms <;> simp_all [vca, ofConst] <;> omega
    · have hg := hg0; try simp only [decide_eq_true_eq, decide_eq_false_iff_not, Bool.not_eq_true', Bool.not_eq_false', bne_iff_ne, beq_iff_eq, ne_eq, Bool.not_true, Bool.not_false, beq_eq_false_iff_ne, bne_eq_false_iff_eq, Decidable.not_not, Int.not_lt, Int.not_le, Bool.and_eq_true, Bool.and_eq_false_iff, Bool.or_eq_true, Bool.or_eq_false_iff] at hg
      refine x_guard_f rfl rfl (by assumption) ?_
      refine x_guard_f rfl rfl (by assumption) ?_
      refine x_guard_f rfl rfl (by assumption) ?_
      refine x_guard_f rfl rfl (by assumption) ?_
      refine x_pick_f rfl (by assumption) rfl rfl ?_
      refine x_move rfl rfl ?_
      refine x_guard_f rfl rfl (by rfl) ?_
      refine x_guard_f rfl rfl (by rfl) ?_
      refine x_pick_f rfl (by rfl) rfl rfl ?_
      refine x_assign rfl rfl rfl ?_
      refine xr_nil ⟨nofun, [(.t 4, _)], ⟨rfl, rfl, trivial⟩, ?_⟩
      refine xa_ret ?_
      refine ret_val' rfl rfl trivial ?_
      cases hvd : vd xs <;> cases hb : allB 0 1 ms <;> simp_all [vca, ofConst] <;> omega
  · have hg := hg0; try simp only [decide_eq_true_eq, decide_eq_false_iff_not, Bool.not_eq_true', Bool.not_eq_false', bne_iff_ne, beq_iff_eq, ne_eq, Bool.not_true, Bool.not_false, beq_eq_false_iff_ne, bne_eq_false_iff_eq, Decidable.not_not, Int.not_lt, Int.not_le, Bool.and_eq_true, Bool.and_eq_false_iff, Bool.or_eq_true, Bool.or_eq_false_iff] at hg
    refine x_guard_f rfl rfl (by assumption) ?_
    refine x_pick_f rfl (by assumption) rfl rfl ?_
    refine x_move rfl rfl ?_
    refine x_guard_f rfl rfl (by rfl) ?_
    refine x_guard_f rfl rfl (by rfl) ?_
    refine x_guard_f rfl rfl (by rfl) ?_
    refine x_guard_f rfl rfl (by rfl) ?_
    refine x_guard_f rfl rfl (by rfl) ?_
    refine x_pick_f rfl (by rfl) rfl rfl ?_
    refine x_move rfl rfl ?_
    refine x_guard_f rfl rfl (by rfl) ?_
    refine x_guard_f rfl rfl (by rfl) ?_
    refine x_pick_f rfl (by rfl) rfl rfl ?_
    refine x_assign rfl rfl rfl ?_
    refine xr_nil ⟨nofun, [(.t 4, _)], ⟨rfl, rfl, trivial⟩, ?_⟩
    refine xa_ret ?_
    refine ret_val' rfl rfl trivial ?_
    cases hvd : vd xs <;> cases hb : allB 0 1 ms <;> simp_all [vca, ofConst] <;> omega

theorem keep_s_valuesOf : keepOf Try.f58 = [0, 2] := by kernel_rfl
set_option maxHeartbeats 20000000 in
theorem s_valuesOf (xs : List Int) (hl : xs.length ≤ 1000) : CW cxT 58 [L xs] = some (.own 1 ((compactI (sortI xs)).map iV), []) := by
  refine fn_intro rfl Try.func58 rfl ⟨by kernel_rfl, rfl, of_decide_eq_true rfl, of_decide_eq_true rfl, by decide⟩ keep_s_valuesOf ?_
  refine xa_seq ?_
  refine xa_region ?_
  (refine x_assign_nil rfl rfl (fun _ => rfl) ?_; intro g2)
  refine xr_nil ⟨nofun, [(.t 0, _)], ⟨rfl, rfl, trivial⟩, ?_⟩
  refine xa_seq ?_
  refine xa_region ?_
  refine x_move rfl rfl ?_
  apply x_call rfl
  · apply pa_cons
    · exact pa_plain rfl
    exact pa_nil
  · exact s_sorted xs (by simp only [maxL]; omega)
  · exact ⟨rfl, rfl, rfl, of_decide_eq_true rfl, rfl⟩
  · exact .inl rfl
  · exact back_nil
  · exact inst_own
  · exact fun _ => rfl
  intro g4
  simp only [List.length_map]
  apply x_call rfl
  · apply pa_cons
    · exact pa_give rfl rfl (by (simp; done)) (noRef_map fun _ => rfl)
    exact pa_nil
  · exact s_Compact (sortI xs) (by rw [sortI_length]; simp only [maxL]; omega)
  · exact ⟨rfl, rfl, rfl, of_decide_eq_true rfl, rfl⟩
  · exact .inl rfl
  · exact back_nil
  · exact inst_own
  · exact fun _ => rfl
  intro g5
  simp only [List.length_map]
  (refine x_assign_own rfl rfl (by (simp; done)) rfl (fun _ => (slot_obj (by exact noRef_map fun _ => rfl))) (fun _ => rfl) ?_; intro g2)
  refine xr_nil ⟨nofun, [(.t 2, _), (.h 2, _)], ⟨rfl, rfl, rfl, rfl, trivial⟩, ?_⟩
  refine xa_ret ?_
  refine ret_own' rfl rfl (by simp) (by exact noRef_map fun _ => rfl) trivial ?_
  rfl

theorem keep_s_corners : keepOf Try.f51 = [0, 1, 4, 5, 2, 6, 22, 24, 28, 27, 29, 26, 10, 13, 35, 11, 12, 3, 8, 7, 49, 54] := by kernel_rfl
set_option maxHeartbeats 20000000 in
theorem s_corners (xs ms : List Int) (h1 : 1 ≤ xs.length) (hl : xs.length ≤ 10) (hb : allB (-200) 200 xs = true) (hml : ms.length = xs.length) (hm : allB 0 1 ms = true) : CW cxT 51 [L xs, L ms] = some (.tup [.own 1 ((corR xs ms 0).map iV), .own 1 ((corR xs ms 1).map iV)], []) := by
  obtain ⟨_, _, ⟨mx, rfl, rfl, hmx1, hmx2⟩, hCx⟩ := s_Max xs ⟨h1, by omega⟩
  have hmb := allB_mem hb hmx1
  have hcl := compactI_length_le (sortI xs)
  rw [sortI_length] at hcl
  refine fn_intro rfl Try.func51 rfl ⟨by kernel_rfl, rfl, of_decide_eq_true rfl, of_decide_eq_true rfl, by decide⟩ keep_s_corners ?_
  refine xa_seq ?_
  refine xa_region ?_
  refine x_box rfl rfl rfl (fun _ => slot_box rfl) (fun _ => rfl) ?_
  intro g2
  refine x_box rfl rfl rfl (fun _ => slot_box rfl) (fun _ => rfl) ?_
  intro g3
  (refine x_assign_nil rfl rfl (fun _ => rfl) ?_; intro g4)
  (refine x_assign_nil rfl rfl (fun _ => rfl) ?_; intro g5)
  refine xr_nil ⟨nofun, [(.t 2, _), (.t 3, _), (.h 2, _), (.h 3, _)], ⟨rfl, rfl, rfl, rfl, rfl, rfl, rfl, rfl, trivial⟩, ?_⟩
  refine xa_seq ?_
  refine xa_region ?_
  refine x_load_boxV rfl rfl rfl rfl rfl ?_
  apply x_call rfl
  · apply pa_cons
    · exact pa_plain rfl
    exact pa_nil
  · exact s_valuesOf xs (by omega)
  · exact ⟨rfl, rfl, rfl, of_decide_eq_true rfl, rfl⟩
  · exact .inl rfl
  · exact back_nil
  · exact inst_own
  · exact fun _ => rfl
  intro g15
  simp only [List.length_map]
  refine x_load_boxV rfl rfl rfl rfl rfl ?_
  apply x_call rfl
  · apply pa_cons
    · exact pa_plain rfl
    exact pa_nil
  · exact hCx
  · exact ⟨rfl, rfl, rfl, of_decide_eq_true rfl, rfl⟩
  · exact .inl rfl
  · exact back_nil
  · exact inst_plain rfl
  · exact fun _ => rfl
  intro g17
  refine x_add rfl rfl (inI64 (by omega)) ?_
  refine x_buildSlice (es := List.map iV [_]) rfl rfl (by decide) rfl rfl (fun _ => slot_obj (noRef_map fun _ => rfl)) (fun _ => rfl) ?_
  intro g19
  refine x_append_map rfl rfl rfl rfl (by simp) (by simp) (by decide) rfl rfl rfl rfl (by decide) (fun _ => ⟨rfl, rfl⟩) (by simp only [maxL]; (simp only [List.length_nil, List.length_cons, List.length_append, Nat.zero_add, List.length_map]; omega)) (fun _ => rfl) ?_
  intro g20
  (refine x_assign_own rfl rfl (by (simp; done)) rfl (fun _ => (slot_obj (by exact noRef_map fun _ => rfl))) (fun _ => rfl) ?_; intro g6)
  refine xr_nil ⟨fun _ => ⟨by (simp only [wmap, List.nil_append, List.append_nil, List.map_cons, List.map_nil, List.cons_append]; decide +kernel), by decide +kernel⟩, [(.t 2, _), (.t 3, _), (.t 6, _), (.h 2, _), (.h 3, _), (.h 6, _)], ⟨rfl, rfl, rfl, rfl, rfl, rfl, rfl, rfl, rfl, rfl, rfl, rfl, trivial⟩, ?_⟩
  refine xa_seq ?_
  refine xa_region ?_
  refine x_alloc rfl (fun _ => slot_box rfl) (fun _ => rfl) ?_
  intro g7
  refine x_alloc rfl (fun _ => slot_box rfl) (fun _ => rfl) ?_
  intro g8
  refine xr_nil ⟨nofun, [(.t 2, _), (.t 3, _), (.t 6, _), (.t 7, _), (.t 8, _), (.h 2, _), (.h 3, _), (.h 6, _), (.h 7, _), (.h 8, _)], ⟨rfl, rfl, rfl, rfl, rfl, rfl, rfl, rfl, rfl, rfl, rfl, rfl, rfl, rfl, rfl, rfl, rfl, rfl, rfl, rfl, trivial⟩, ?_⟩
  refine xa_seq ?_
  refine xa_seq ?_
  refine xa_region ?_
  refine x_move rfl rfl ?_
  apply x_call rfl
  · apply pa_cons
    · exact pa_keep_map rfl rfl (by (simp; done)) (fun _ => rfl)
    exact pa_nil
  · exact s_Backward _
  · exact ⟨rfl, rfl, rfl, of_decide_eq_true rfl, rfl⟩
  · exact .inl rfl
  · exact back_nil
  · exact inst_clo
  · exact fun _ => tRefs_cons (slot_objM (noRef_map fun _ => rfl) (by decide)) rfl
  intro _
  refine xr_nil ⟨nofun, [(.t 2, _), (.t 3, _), (.t 7, _), (.t 8, _), (.t 22, _), (.h 2, _), (.h 3, _), (.h 7, _), (.h 8, _)], ⟨rfl, rfl, rfl, rfl, rfl, rfl, rfl, rfl, rfl, rfl, rfl, rfl, rfl, rfl, rfl, rfl, rfl, rfl, trivial⟩, ?_⟩
  refine xa_block ?_
  refine xa_rangeB (zs := edgesI xs mx) (σ := List Int × Nat × List Int × Nat) [(.t 2, _), (.t 3, _), (.t 7, _), (.t 8, _), (.h 2, _), (.h 3, _)] (fun (ys : List (Nat × Int)) s => match ys, s with | [], (zs, g1, os, g2) => [(.h 7, .obj g7 3 1 [.nil]), (.h 8, .obj g8 3 1 [.nil])] | _ :: _, (zs, g1, os, g2) => [(.h 7, .obj g7 3 1 [.sl 1000049 g1 none 0 zs.length]), (.h 1000049, .obj g1 0 1 (zs.map iV)), (.h 8, .obj g8 3 1 [.sl 1000054 g2 none 0 os.length]), (.h 1000054, .obj g2 0 1 (os.map iV))]) (fun ys s => match s with | (zs, g1, os, g2) => zs = ys.map (fun y => cnI xs ms 0 y.2) ∧ os = ys.map (fun y => cnI xs ms 1 y.2)) ([], 0, [], 0) rfl rfl rfl (by simp [edgesI, maxL]; omega) rfl rfl rfl (fun ys s => by cases ys <;> rfl) ⟨rfl, rfl, rfl, rfl, rfl, rfl, rfl, rfl, trivial⟩ ⟨rfl, rfl⟩ ?_ ?_
  · intro ys q e s hyz hz hlen hP
    obtain ⟨zs, g1, os, g2⟩ := s
    dsimp only at hP
    obtain ⟨hzs, hos⟩ := hP
    have hel : (edgesI xs mx).length ≤ 11 := by simp [edgesI]; omega
    have hzl : zs.length = ys.length := by rw [hzs]; simp
    have hol : os.length = ys.length := by rw [hos]; simp
    cases ys with
    | nil =>
      refine xa_weak (B := [(.t 2, _), (.t 3, _), (.t 7, _), (.t 8, _), (.h 2, _), (.h 3, _), (.t 10, iV e), (.h 7, .obj g7 3 1 [.nil]), (.h 8, .obj g8 3 1 [.nil])]) ⟨rfl, rfl, rfl, rfl, rfl, rfl, rfl, rfl, rfl, trivial⟩ ?_
      refine xa_block ?_
      refine xa_seq ?_
      refine xa_region ?_
      refine x_build_arr rfl rfl rfl rfl ?_
      refine x_alloc rfl (fun _ => slot_box rfl) (fun _ => rfl) ?_
      intro g11
      refine x_store_boxV rfl rfl rfl rfl ⟨by decide, rfl, of_decide_eq_true rfl, of_decide_eq_true rfl, rfl⟩ rfl (by exact slot_box rfl) ?_
      refine xr_nil ⟨nofun, [(.t 2, _), (.t 3, _), (.t 7, _), (.t 8, _), (.t 10, _), (.t 11, _), (.h 2, _), (.h 3, _), (.h 7, _), (.h 8, _), (.h 11, _)], ⟨rfl, rfl, rfl, rfl, rfl, rfl, rfl, rfl, rfl, rfl, rfl, rfl, rfl, rfl, rfl, rfl, rfl, rfl, rfl, rfl, rfl, rfl, trivial⟩, ?_⟩
      refine xa_seq ?_
      refine xa_seq ?_
      refine xa_region ?_
      refine x_load_boxV rfl rfl rfl rfl rfl ?_
      refine x_len_map rfl rfl ?_
      refine x_move rfl rfl ?_
      refine xr_nil ⟨nofun, [(.t 2, _), (.t 3, _), (.t 7, _), (.t 8, _), (.t 10, _), (.t 11, _), (.t 26, _), (.t 27, _), (.t 28, _), (.h 2, _), (.h 3, _), (.h 7, _), (.h 8, _), (.h 11, _)], ⟨rfl, rfl, rfl, rfl, rfl, rfl, rfl, rfl, rfl, rfl, rfl, rfl, rfl, rfl, rfl, rfl, rfl, rfl, rfl, rfl, rfl, rfl, rfl, rfl, rfl, rfl, rfl, rfl, trivial⟩, ?_⟩
      refine xa_block ?_
      refine xa_loopK (β := Nat × List Int) [(.t 2, _), (.t 3, _), (.t 7, _), (.t 8, _), (.t 10, _), (.t 11, _), (.t 26, _), (.t 27, _), (.h 2, _), (.h 3, _), (.h 7, _), (.h 8, _)] (fun (z : Nat × List Int) => match z with | (i, c) => [(.t 28, iV i), (.h 11, .obj g11 3 2 [.agg (c.map iV)])]) (fun (z : Nat × List Int) => match z with | (i, c) => i ≤ xs.length ∧ c = cn2 xs ms e i) (fun (z : Nat × List Int) => match z with | (i, c) => xs.length - i) (0, [0, 0]) ⟨rfl, rfl, rfl, rfl, rfl, rfl, rfl, rfl, rfl, rfl, rfl, rfl, rfl, rfl, trivial⟩ ⟨Nat.zero_le _, rfl⟩ ?_
      intro z hb
      obtain ⟨i, c⟩ := z
      try dsimp only at hb
      obtain ⟨hi1, hc2⟩ := hb
      have hcl2 := cn2_len hc2
      have hmk := fun h : i < ms.length => allB_iff.1 hm i h
      have hcb := cn2_bd hc2
      refine xa_seq ?_
      refine xa_region ?_
      refine x_lss rfl rfl ?_
      refine xr_nil ⟨nofun, [(.t 2, _), (.t 3, _), (.t 7, _), (.t 8, _), (.t 10, _), (.t 11, _), (.t 26, _), (.t 27, _), (.t 28, _), (.t 29, _), (.h 2, _), (.h 3, _), (.h 7, _), (.h 8, _), (.h 11, _)], ⟨rfl, rfl, rfl, rfl, rfl, rfl, rfl, rfl, rfl, rfl, rfl, rfl, rfl, rfl, rfl, rfl, rfl, rfl, rfl, rfl, rfl, rfl, rfl, rfl, rfl, rfl, rfl, rfl, rfl, rfl, trivial⟩, ?_⟩
      refine xa_seq ?_
      refine xa_cond rfl (fun hc => ?_) (fun hc => ?_)
      · try simp only [decide_eq_true_eq, decide_eq_false_iff_not, Bool.not_eq_true', Bool.not_eq_false', bne_iff_ne, beq_iff_eq, ne_eq, Bool.not_true, Bool.not_false, beq_eq_false_iff_ne, bne_eq_false_iff_eq, Decidable.not_not, Int.not_lt, Int.not_le, Bool.and_eq_true, Bool.and_eq_false_iff, Bool.or_eq_true, Bool.or_eq_false_iff, List.length_map] at hc
        refine xa_skip ?_
        refine xa_seq ?_
        refine xa_block ?_
        refine xa_seq ?_
        refine xa_region ?_
        refine x_move rfl rfl ?_
        refine x_index_listN rfl rfl rfl (fun _ => rfl) (by omega) ?_
        refine x_load_iptV rfl rfl rfl ?_
        refine x_assign rfl rfl rfl ?_
        refine x_assign rfl rfl rfl ?_
        refine xr_nil ⟨nofun, [(.t 2, _), (.t 3, _), (.t 7, _), (.t 8, _), (.t 10, _), (.t 11, _), (.t 12, _), (.t 13, _), (.t 26, _), (.t 27, _), (.t 28, _), (.h 2, _), (.h 3, _), (.h 7, _), (.h 8, _), (.h 11, _)], ⟨rfl, rfl, rfl, rfl, rfl, rfl, rfl, rfl, rfl, rfl, rfl, rfl, rfl, rfl, rfl, rfl, rfl, rfl, rfl, rfl, rfl, rfl, rfl, rfl, rfl, rfl, rfl, rfl, rfl, rfl, rfl, rfl, trivial⟩, ?_⟩
        refine xa_seq ?_
        refine xa_region ?_
        refine x_move rfl rfl ?_
        refine x_move rfl rfl ?_
        refine x_geq rfl rfl ?_
        refine xr_nil ⟨nofun, [(.t 2, _), (.t 3, _), (.t 7, _), (.t 8, _), (.t 10, _), (.t 11, _), (.t 12, _), (.t 26, _), (.t 27, _), (.t 28, _), (.t 35, _), (.h 2, _), (.h 3, _), (.h 7, _), (.h 8, _), (.h 11, _)], ⟨rfl, rfl, rfl, rfl, rfl, rfl, rfl, rfl, rfl, rfl, rfl, rfl, rfl, rfl, rfl, rfl, rfl, rfl, rfl, rfl, rfl, rfl, rfl, rfl, rfl, rfl, rfl, rfl, rfl, rfl, rfl, rfl, trivial⟩, ?_⟩
        refine xa_cond rfl (fun hc => ?_) (fun hc => ?_)
        · try simp only [decide_eq_true_eq, decide_eq_false_iff_not, Bool.not_eq_true', Bool.not_eq_false', bne_iff_ne, beq_iff_eq, ne_eq, Bool.not_true, Bool.not_false, beq_eq_false_iff_ne, bne_eq_false_iff_eq, Decidable.not_not, Int.not_lt, Int.not_le, Bool.and_eq_true, Bool.and_eq_false_iff, Bool.or_eq_true, Bool.or_eq_false_iff, List.length_map] at hc
          refine xa_region ?_
          refine x_load_boxV rfl rfl rfl rfl rfl ?_
          refine x_move rfl rfl ?_
          refine x_index_listN rfl rfl rfl (fun _ => rfl) (by omega) ?_
          refine x_load_iptV rfl rfl rfl ?_
          have hmi := hmk (by omega)
          have hcbi := hcb (ms.getD i default).toNat
          refine x_index_arr rfl rfl rfl rfl rfl (by omega) rfl ?_
          refine x_load_arr rfl rfl (by omega) ⟨rfl, rfl, rfl⟩ ?_
          refine x_add rfl rfl (inI64 (by omega)) ?_
          refine x_index_arr rfl rfl rfl rfl rfl (by omega) rfl ?_
          refine x_store_arr rfl rfl rfl (by omega) rfl (by decide) (slot_arr _) ?_
          refine xr_nil ⟨nofun, [(.t 2, _), (.t 3, _), (.t 7, _), (.t 8, _), (.t 10, _), (.t 11, _), (.t 26, _), (.t 27, _), (.t 28, _), (.h 2, _), (.h 3, _), (.h 7, _), (.h 8, _), (.h 11, _)], ⟨rfl, rfl, rfl, rfl, rfl, rfl, rfl, rfl, rfl, rfl, rfl, rfl, rfl, rfl, rfl, rfl, rfl, rfl, rfl, rfl, rfl, rfl, rfl, rfl, rfl, rfl, rfl, rfl, trivial⟩, ?_⟩
          refine xa_region ?_
          refine x_add rfl rfl (inI64 (by omega)) ?_
          refine x_move rfl rfl ?_
          refine xr_nil ⟨nofun, [(.t 2, _), (.t 3, _), (.t 7, _), (.t 8, _), (.t 10, _), (.t 11, _), (.t 26, _), (.t 27, _), (.t 28, _), (.h 2, _), (.h 3, _), (.h 7, _), (.h 8, _), (.h 11, _)], ⟨rfl, rfl, rfl, rfl, rfl, rfl, rfl, rfl, rfl, rfl, rfl, rfl, rfl, rfl, rfl, rfl, rfl, rfl, rfl, rfl, rfl, rfl, rfl, rfl, rfl, rfl, rfl, rfl, trivial⟩, ?_⟩
          first
            | (refine ⟨(i + 1, c.set (ms.getD i default).toNat (c.getD (ms.getD i default).toNat 0 + 1)), ⟨by omega, cn2_t hc2 (by omega) (hmk (by omega))⟩, by simp only; omega, ⟨rfl, rfl, rfl, rfl, rfl, rfl, rfl, rfl, rfl, rfl, rfl, rfl, rfl, rfl, trivial⟩⟩)
            | (refine ⟨(i + 1, c), ⟨by omega, cn2_f hc2 (by omega)⟩, by simp only; omega, ⟨rfl, rfl, rfl, rfl, rfl, rfl, rfl, rfl, rfl, rfl, rfl, rfl, rfl, rfl, trivial⟩⟩)
        · try simp only [decide_eq_true_eq, decide_eq_false_iff_not, Bool.not_eq_true', Bool.not_eq_false', bne_iff_ne, beq_iff_eq, ne_eq, Bool.not_true, Bool.not_false, beq_eq_false_iff_ne, bne_eq_false_iff_eq, Decidable.not_not, Int.not_lt, Int.not_le, Bool.and_eq_true, Bool.and_eq_false_iff, Bool.or_eq_true, Bool.or_eq_false_iff, List.length_map] at hc
          refine xa_skip ?_
          refine xa_region ?_
          refine x_add rfl rfl (inI64 (by omega)) ?_
          refine x_move rfl rfl ?_
          refine xr_nil ⟨nofun, [(.t 2, _), (.t 3, _), (.t 7, _), (.t 8, _), (.t 10, _), (.t 11, _), (.t 26, _), (.t 27, _), (.t 28, _), (.h 2, _), (.h 3, _), (.h 7, _), (.h 8, _), (.h 11, _)], ⟨rfl, rfl, rfl, rfl, rfl, rfl, rfl, rfl, rfl, rfl, rfl, rfl, rfl, rfl, rfl, rfl, rfl, rfl, rfl, rfl, rfl, rfl, rfl, rfl, rfl, rfl, rfl, rfl, trivial⟩, ?_⟩
          first
            | (refine ⟨(i + 1, c.set (ms.getD i default).toNat (c.getD (ms.getD i default).toNat 0 + 1)), ⟨by omega, cn2_t hc2 (by omega) (hmk (by omega))⟩, by simp only; omega, ⟨rfl, rfl, rfl, rfl, rfl, rfl, rfl, rfl, rfl, rfl, rfl, rfl, rfl, rfl, trivial⟩⟩)
            | (refine ⟨(i + 1, c), ⟨by omega, cn2_f hc2 (by omega)⟩, by simp only; omega, ⟨rfl, rfl, rfl, rfl, rfl, rfl, rfl, rfl, rfl, rfl, rfl, rfl, rfl, rfl, trivial⟩⟩)
      · try simp only [decide_eq_true_eq, decide_eq_false_iff_not, Bool.not_eq_true', Bool.not_eq_false', bne_iff_ne, beq_iff_eq, ne_eq, Bool.not_true, Bool.not_false, beq_eq_false_iff_ne, bne_eq_false_iff_eq, Decidable.not_not, Int.not_lt, Int.not_le, Bool.and_eq_true, Bool.and_eq_false_iff, Bool.or_eq_true, Bool.or_eq_false_iff, List.length_map] at hc
        refine xa_exit ?_
        refine xa_region ?_
        refine x_load_boxV rfl rfl rfl rfl rfl ?_
        refine x_index_arr rfl rfl rfl rfl rfl (by omega) rfl ?_
        refine x_load_arr rfl rfl (by omega) ⟨rfl, rfl, rfl⟩ ?_
        refine x_buildSlice (es := List.map iV [_]) rfl rfl (by decide) rfl rfl (fun _ => slot_obj (noRef_map fun _ => rfl)) (fun _ => rfl) ?_
        intro g48
        refine x_append_nilM rfl rfl rfl (by simp) (by decide) rfl rfl rfl (by decide) (fun _ => ⟨rfl, rfl⟩) (by simp only [maxL]; (simp only [List.length_nil, List.length_cons, List.length_append, Nat.zero_add, List.length_map]; omega)) (fun _ => rfl) ?_
        intro g49
        refine x_load_boxV rfl rfl rfl rfl rfl ?_
        refine x_index_arr rfl rfl rfl rfl rfl (by omega) rfl ?_
        refine x_load_arr rfl rfl (by omega) ⟨rfl, rfl, rfl⟩ ?_
        refine x_buildSlice (es := List.map iV [_]) rfl rfl (by decide) rfl rfl (fun _ => slot_obj (noRef_map fun _ => rfl)) (fun _ => rfl) ?_
        intro g53
        refine x_append_nilM rfl rfl rfl (by simp) (by decide) rfl rfl rfl (by decide) (fun _ => ⟨rfl, rfl⟩) (by simp only [maxL]; (simp only [List.length_nil, List.length_cons, List.length_append, Nat.zero_add, List.length_map]; omega)) (fun _ => rfl) ?_
        intro g54
        refine x_store_ref rfl rfl rfl rfl rfl (by decide) rfl rfl ?_
        refine x_store_ref rfl rfl rfl rfl rfl (by decide) rfl rfl ?_
        refine xr_nil ⟨fun _ => ⟨by decide +kernel, by decide +kernel⟩, [(.t 2, _), (.t 3, _), (.t 7, _), (.t 8, _), (.h 2, _), (.h 3, _), (.h 7, _), (.h 1000049, _), (.h 8, _), (.h 1000054, _)], ⟨rfl, rfl, rfl, rfl, rfl, rfl, rfl, rfl, rfl, rfl, rfl, rfl, rfl, rfl, rfl, rfl, rfl, rfl, rfl, rfl, trivial⟩, ?_⟩
        have hce : c = cn2 xs ms e xs.length := by rw [hc2, show i = xs.length by omega]
        exact ⟨rfl, ([c.getD 0 0], _, [c.getD 1 0], _), ⟨congrArg (fun v => [v]) (cn2_get0 hce), congrArg (fun v => [v]) (cn2_get1 hce)⟩, ⟨rfl, rfl, rfl, rfl, rfl, rfl, rfl, rfl, rfl, rfl, trivial⟩⟩
    | cons y0 ys0 =>
      refine xa_weak (B := [(.t 2, _), (.t 3, _), (.t 7, _), (.t 8, _), (.h 2, _), (.h 3, _), (.t 10, iV e), (.h 7, .obj g7 3 1 [.sl 1000049 g1 none 0 zs.length]), (.h 1000049, .obj g1 0 1 (zs.map iV)), (.h 8, .obj g8 3 1 [.sl 1000054 g2 none 0 os.length]), (.h 1000054, .obj g2 0 1 (os.map iV))]) ⟨rfl, rfl, rfl, rfl, rfl, rfl, rfl, rfl, rfl, rfl, rfl, trivial⟩ ?_
      refine xa_block ?_
      refine xa_seq ?_
      refine xa_region ?_
      refine x_build_arr rfl rfl rfl rfl ?_
      refine x_alloc rfl (fun _ => slot_box rfl) (fun _ => rfl) ?_
      intro g11
      refine x_store_boxV rfl rfl rfl rfl ⟨by decide, rfl, of_decide_eq_true rfl, of_decide_eq_true rfl, rfl⟩ rfl (by exact slot_box rfl) ?_
      refine xr_nil ⟨nofun, [(.t 2, _), (.t 3, _), (.t 7, _), (.t 8, _), (.t 10, _), (.t 11, _), (.h 2, _), (.h 3, _), (.h 7, _), (.h 1000049, _), (.h 8, _), (.h 1000054, _), (.h 11, _)], ⟨rfl, rfl, rfl, rfl, rfl, rfl, rfl, rfl, rfl, rfl, rfl, rfl, rfl, rfl, rfl, rfl, rfl, rfl, rfl, rfl, rfl, rfl, rfl, rfl, rfl, rfl, trivial⟩, ?_⟩
      refine xa_seq ?_
      refine xa_seq ?_
      refine xa_region ?_
      refine x_load_boxV rfl rfl rfl rfl rfl ?_
      refine x_len_map rfl rfl ?_
      refine x_move rfl rfl ?_
      refine xr_nil ⟨nofun, [(.t 2, _), (.t 3, _), (.t 7, _), (.t 8, _), (.t 10, _), (.t 11, _), (.t 26, _), (.t 27, _), (.t 28, _), (.h 2, _), (.h 3, _), (.h 7, _), (.h 1000049, _), (.h 8, _), (.h 1000054, _), (.h 11, _)], ⟨rfl, rfl, rfl, rfl, rfl, rfl, rfl, rfl, rfl, rfl, rfl, rfl, rfl, rfl, rfl, rfl, rfl, rfl, rfl, rfl, rfl, rfl, rfl, rfl, rfl, rfl, rfl, rfl, rfl, rfl, rfl, rfl, trivial⟩, ?_⟩
      refine xa_block ?_
      refine xa_loopK (β := Nat × List Int) [(.t 2, _), (.t 3, _), (.t 7, _), (.t 8, _), (.t 10, _), (.t 11, _), (.t 26, _), (.t 27, _), (.h 2, _), (.h 3, _), (.h 7, _), (.h 1000049, _), (.h 8, _), (.h 1000054, _)] (fun (z : Nat × List Int) => match z with | (i, c) => [(.t 28, iV i), (.h 11, .obj g11 3 2 [.agg (c.map iV)])]) (fun (z : Nat × List Int) => match z with | (i, c) => i ≤ xs.length ∧ c = cn2 xs ms e i) (fun (z : Nat × List Int) => match z with | (i, c) => xs.length - i) (0, [0, 0]) ⟨rfl, rfl, rfl, rfl, rfl, rfl, rfl, rfl, rfl, rfl, rfl, rfl, rfl, rfl, rfl, rfl, trivial⟩ ⟨Nat.zero_le _, rfl⟩ ?_
      intro z hb
      obtain ⟨i, c⟩ := z
      try dsimp only at hb
      obtain ⟨hi1, hc2⟩ := hb
      have hcl2 := cn2_len hc2
      have hmk := fun h : i < ms.length => allB_iff.1 hm i h
      have hcb := cn2_bd hc2
      refine xa_seq ?_
      refine xa_region ?_
      refine x_lss rfl rfl ?_
      refine xr_nil ⟨nofun, [(.t 2, _), (.t 3, _), (.t 7, _), (.t 8, _), (.t 10, _), (.t 11, _), (.t 26, _), (.t 27, _), (.t 28, _), (.t 29, _), (.h 2, _), (.h 3, _), (.h 7, _), (.h 1000049, _), (.h 8, _), (.h 1000054, _), (.h 11, _)], ⟨rfl, rfl, rfl, rfl, rfl, rfl, rfl, rfl, rfl, rfl, rfl, rfl, rfl, rfl, rfl, rfl, rfl, rfl, rfl, rfl, rfl, rfl, rfl, rfl, rfl, rfl, rfl, rfl, rfl, rfl, rfl, rfl, rfl, rfl, trivial⟩, ?_⟩
      refine xa_seq ?_
      refine xa_cond rfl (fun hc => ?_) (fun hc => ?_)
      · try simp only [decide_eq_true_eq, decide_eq_false_iff_not, Bool.not_eq_true', Bool.not_eq_false', bne_iff_ne, beq_iff_eq, ne_eq, Bool.not_true, Bool.not_false, beq_eq_false_iff_ne, bne_eq_false_iff_eq, Decidable.not_not, Int.not_lt, Int.not_le, Bool.and_eq_true, Bool.and_eq_false_iff, Bool.or_eq_true, Bool.or_eq_false_iff, List.length_map] at hc
        refine xa_skip ?_
        refine xa_seq ?_
        refine xa_block ?_
        refine xa_seq ?_
        refine xa_region ?_
        refine x_move rfl rfl ?_
        refine x_index_listN rfl rfl rfl (fun _ => rfl) (by omega) ?_
        refine x_load_iptV rfl rfl rfl ?_
        refine x_assign rfl rfl rfl ?_
        refine x_assign rfl rfl rfl ?_
        refine xr_nil ⟨nofun, [(.t 2, _), (.t 3, _), (.t 7, _), (.t 8, _), (.t 10, _), (.t 11, _), (.t 12, _), (.t 13, _), (.t 26, _), (.t 27, _), (.t 28, _), (.h 2, _), (.h 3, _), (.h 7, _), (.h 1000049, _), (.h 8, _), (.h 1000054, _), (.h 11, _)], ⟨rfl, rfl, rfl, rfl, rfl, rfl, rfl, rfl, rfl, rfl, rfl, rfl, rfl, rfl, rfl, rfl, rfl, rfl, rfl, rfl, rfl, rfl, rfl, rfl, rfl, rfl, rfl, rfl, rfl, rfl, rfl, rfl, rfl, rfl, rfl, rfl, trivial⟩, ?_⟩
        refine xa_seq ?_
        refine xa_region ?_
        refine x_move rfl rfl ?_
        refine x_move rfl rfl ?_
        refine x_geq rfl rfl ?_
        refine xr_nil ⟨nofun, [(.t 2, _), (.t 3, _), (.t 7, _), (.t 8, _), (.t 10, _), (.t 11, _), (.t 12, _), (.t 26, _), (.t 27, _), (.t 28, _), (.t 35, _), (.h 2, _), (.h 3, _), (.h 7, _), (.h 1000049, _), (.h 8, _), (.h 1000054, _), (.h 11, _)], ⟨rfl, rfl, rfl, rfl, rfl, rfl, rfl, rfl, rfl, rfl, rfl, rfl, rfl, rfl, rfl, rfl, rfl, rfl, rfl, rfl, rfl, rfl, rfl, rfl, rfl, rfl, rfl, rfl, rfl, rfl, rfl, rfl, rfl, rfl, rfl, rfl, trivial⟩, ?_⟩
        refine xa_cond rfl (fun hc => ?_) (fun hc => ?_)
        · try simp only [decide_eq_true_eq, decide_eq_false_iff_not, Bool.not_eq_true', Bool.not_eq_false', bne_iff_ne, beq_iff_eq, ne_eq, Bool.not_true, Bool.not_false, beq_eq_false_iff_ne, bne_eq_false_iff_eq, Decidable.not_not, Int.not_lt, Int.not_le, Bool.and_eq_true, Bool.and_eq_false_iff, Bool.or_eq_true, Bool.or_eq_false_iff, List.length_map] at hc
          refine xa_region ?_
          refine x_load_boxV rfl rfl rfl rfl rfl ?_
          refine x_move rfl rfl ?_
          refine x_index_listN rfl rfl rfl (fun _ => rfl) (by omega) ?_
          refine x_load_iptV rfl rfl rfl ?_
          have hmi := hmk (by omega)
          have hcbi := hcb (ms.getD i default).toNat
          refine x_index_arr rfl rfl rfl rfl rfl (by omega) rfl ?_
          refine x_load_arr rfl rfl (by omega) ⟨rfl, rfl, rfl⟩ ?_
          refine x_add rfl rfl (inI64 (by omega)) ?_
          refine x_index_arr rfl rfl rfl rfl rfl (by omega) rfl ?_
          refine x_store_arr rfl rfl rfl (by omega) rfl (by decide) (slot_arr _) ?_
          refine xr_nil ⟨nofun, [(.t 2, _), (.t 3, _), (.t 7, _), (.t 8, _), (.t 10, _), (.t 11, _), (.t 26, _), (.t 27, _), (.t 28, _), (.h 2, _), (.h 3, _), (.h 7, _), (.h 1000049, _), (.h 8, _), (.h 1000054, _), (.h 11, _)], ⟨rfl, rfl, rfl, rfl, rfl, rfl, rfl, rfl, rfl, rfl, rfl, rfl, rfl, rfl, rfl, rfl, rfl, rfl, rfl, rfl, rfl, rfl, rfl, rfl, rfl, rfl, rfl, rfl, rfl, rfl, rfl, rfl, trivial⟩, ?_⟩
          refine xa_region ?_
          refine x_add rfl rfl (inI64 (by omega)) ?_
          refine x_move rfl rfl ?_
          refine xr_nil ⟨nofun, [(.t 2, _), (.t 3, _), (.t 7, _), (.t 8, _), (.t 10, _), (.t 11, _), (.t 26, _), (.t 27, _), (.t 28, _), (.h 2, _), (.h 3, _), (.h 7, _), (.h 1000049, _), (.h 8, _), (.h 1000054, _), (.h 11, _)], ⟨rfl, rfl, rfl, rfl, rfl, rfl, rfl, rfl, rfl, rfl, rfl, rfl, rfl, rfl, rfl, rfl, rfl, rfl, rfl, rfl, rfl, rfl, rfl, rfl, rfl, rfl, rfl, rfl, rfl, rfl, rfl, rfl, trivial⟩, ?_⟩
          first
            | (refine ⟨(i + 1, c.set (ms.getD i default).toNat (c.getD (ms.getD i default).toNat 0 + 1)), ⟨by omega, cn2_t hc2 (by omega) (hmk (by omega))⟩, by simp only; omega, ⟨rfl, rfl, rfl, rfl, rfl, rfl, rfl, rfl, rfl, rfl, rfl, rfl, rfl, rfl, rfl, rfl, trivial⟩⟩)
            | (refine ⟨(i + 1, c), ⟨by omega, cn2_f hc2 (by omega)⟩, by simp only; omega, ⟨rfl, rfl, rfl, rfl, rfl, rfl, rfl, rfl, rfl, rfl, rfl, rfl, rfl, rfl, rfl, rfl, trivial⟩⟩)
        · try simp only [decide_eq_true_eq, decide_eq_false_iff_not, Bool.not_eq_true', Bool.not_eq_false', bne_iff_ne, beq_iff_eq, ne_eq, Bool.not_true, Bool.not_false, beq_eq_false_iff_ne, bne_eq_false_iff_eq, Decidable.not_not, Int.not_lt, Int.not_le, Bool.and_eq_true, Bool.and_eq_false_iff, Bool.or_eq_true, Bool.or_eq_false_iff, List.length_map] at hc
          refine xa_skip ?_
          refine xa_region ?_
          refine x_add rfl rfl (inI64 (by omega)) ?_
          refine x_move rfl rfl ?_
          refine xr_nil ⟨nofun, [(.t 2, _), (.t 3, _), (.t 7, _), (.t 8, _), (.t 10, _), (.t 11, _), (.t 26, _), (.t 27, _), (.t 28, _), (.h 2, _), (.h 3, _), (.h 7, _), (.h 1000049, _), (.h 8, _), (.h 1000054, _), (.h 11, _)], ⟨rfl, rfl, rfl, rfl, rfl, rfl, rfl, rfl, rfl, rfl, rfl, rfl, rfl, rfl, rfl, rfl, rfl, rfl, rfl, rfl, rfl, rfl, rfl, rfl, rfl, rfl, rfl, rfl, rfl, rfl, rfl, rfl, trivial⟩, ?_⟩
          first
            | (refine ⟨(i + 1, c.set (ms.getD i default).toNat (c.getD (ms.getD i default).toNat 0 + 1)), ⟨by omega, cn2_t hc2 (by omega) (hmk (by omega))⟩, by simp only; omega, ⟨rfl, rfl, rfl, rfl, rfl, rfl, rfl, rfl, rfl, rfl, rfl, rfl, rfl, rfl, rfl, rfl, trivial⟩⟩)
            | (refine ⟨(i + 1, c), ⟨by omega, cn2_f hc2 (by omega)⟩, by simp only; omega, ⟨rfl, rfl, rfl, rfl, rfl, rfl, rfl, rfl, rfl, rfl, rfl, rfl, rfl, rfl, rfl, rfl, trivial⟩⟩)
      · try simp only [decide_eq_true_eq, decide_eq_false_iff_not, Bool.not_eq_true', Bool.not_eq_false', bne_iff_ne, beq_iff_eq, ne_eq, Bool.not_true, Bool.not_false, beq_eq_false_iff_ne, bne_eq_false_iff_eq, Decidable.not_not, Int.not_lt, Int.not_le, Bool.and_eq_true, Bool.and_eq_false_iff, Bool.or_eq_true, Bool.or_eq_false_iff, List.length_map] at hc
        refine xa_exit ?_
        refine xa_region ?_
        refine x_load_boxV rfl rfl rfl rfl rfl ?_
        refine x_index_arr rfl rfl rfl rfl rfl (by omega) rfl ?_
        refine x_load_arr rfl rfl (by omega) ⟨rfl, rfl, rfl⟩ ?_
        refine x_buildSlice (es := List.map iV [_]) rfl rfl (by decide) rfl rfl (fun _ => slot_obj (noRef_map fun _ => rfl)) (fun _ => rfl) ?_
        intro g48
        refine x_append_map rfl rfl rfl rfl (by simp) (by simp) (by decide) rfl rfl rfl rfl (by decide) (fun _ => ⟨rfl, rfl⟩) (by simp only [maxL]; (simp only [List.length_nil, List.length_cons, List.length_append, Nat.zero_add, List.length_map]; omega)) (fun _ => rfl) ?_
        intro g49
        refine x_load_boxV rfl rfl rfl rfl rfl ?_
        refine x_index_arr rfl rfl rfl rfl rfl (by omega) rfl ?_
        refine x_load_arr rfl rfl (by omega) ⟨rfl, rfl, rfl⟩ ?_
        refine x_buildSlice (es := List.map iV [_]) rfl rfl (by decide) rfl rfl (fun _ => slot_obj (noRef_map fun _ => rfl)) (fun _ => rfl) ?_
        intro g53
        refine x_append_map rfl rfl rfl rfl (by simp) (by simp) (by decide) rfl rfl rfl rfl (by decide) (fun _ => ⟨rfl, rfl⟩) (by simp only [maxL]; (simp only [List.length_nil, List.length_cons, List.length_append, Nat.zero_add, List.length_map]; omega)) (fun _ => rfl) ?_
        intro g54
        refine x_store_ref rfl rfl rfl rfl rfl (by exact Nat.le_refl _) rfl rfl ?_
        refine x_store_ref rfl rfl rfl rfl rfl (by exact Nat.le_refl _) rfl rfl ?_
        refine xr_nil ⟨fun _ => ⟨by decide +kernel, by decide +kernel⟩, [(.t 2, _), (.t 3, _), (.t 7, _), (.t 8, _), (.h 2, _), (.h 3, _), (.h 7, _), (.h 1000049, _), (.h 8, _), (.h 1000054, _)], ⟨rfl, rfl, rfl, rfl, rfl, rfl, rfl, rfl, rfl, rfl, rfl, rfl, rfl, rfl, rfl, rfl, rfl, rfl, rfl, rfl, trivial⟩, ?_⟩
        have hce : c = cn2 xs ms e xs.length := by rw [hc2, show i = xs.length by omega]
        exact ⟨rfl, (zs ++ [c.getD 0 0], _, os ++ [c.getD 1 0], _), ⟨by rw [List.map_append, ← hzs, cn2_get0 hce]; rfl, by rw [List.map_append, ← hos, cn2_get1 hce]; rfl⟩, ⟨rfl, rfl, rfl, rfl, rfl, rfl, rfl, rfl, rfl, rfl, trivial⟩⟩
  · intro ys s hys hP
    obtain ⟨zs, g1, os, g2⟩ := s
    dsimp only at hP
    obtain ⟨hzs, hos⟩ := hP
    have hel : (edgesI xs mx).length ≤ 11 := by simp [edgesI]; omega
    have hzl : zs.length = ys.length := by rw [hzs]; simp
    have hol : os.length = ys.length := by rw [hos]; simp
    have hez := edges_cor (ms := ms) hmx2 0
    have heo := edges_cor (ms := ms) hmx2 1
    rw [← hys] at hez heo
    rw [← hzs] at hez
    rw [← hos] at heo
    have hbl := bItems_length (edgesI xs mx)
    rw [← hys] at hbl
    cases ys with
    | nil => exact absurd (congrArg List.length hys) (by simp [bItems_length, edgesI])
    | cons y0 ys0 =>
      refine xa_weak (B := [(.t 2, _), (.t 3, _), (.t 7, _), (.t 8, _), (.h 2, _), (.h 3, _), (.h 7, .obj g7 3 1 [.sl 1000049 g1 none 0 zs.length]), (.h 1000049, .obj g1 0 1 (zs.map iV)), (.h 8, .obj g8 3 1 [.sl 1000054 g2 none 0 os.length]), (.h 1000054, .obj g2 0 1 (os.map iV))]) ⟨rfl, rfl, rfl, rfl, rfl, rfl, rfl, rfl, rfl, rfl, trivial⟩ ?_
      refine xa_seq ?_
      refine xa_region ?_
      refine x_load_boxV rfl rfl rfl rfl rfl ?_
      apply x_call rfl
      · apply pa_cons
        · exact pa_give rfl rfl (by (simp; done)) (noRef_map fun _ => rfl)
        exact pa_nil
      · exact s_ClipI zs (by simp only [maxL]; omega)
      · exact ⟨rfl, rfl, rfl, of_decide_eq_true rfl, rfl⟩
      · exact .inl rfl
      · exact back_nil
      · exact inst_own
      · exact fun _ => rfl
      intro g56
      simp only [List.length_map]
      refine x_load_boxV rfl rfl rfl rfl rfl ?_
      apply x_call rfl
      · apply pa_cons
        · exact pa_give rfl rfl (by (simp; done)) (noRef_map fun _ => rfl)
        exact pa_nil
      · exact s_ClipI os (by simp only [maxL]; omega)
      · exact ⟨rfl, rfl, rfl, of_decide_eq_true rfl, rfl⟩
      · exact .inl rfl
      · exact back_nil
      · exact inst_own
      · exact fun _ => rfl
      intro g58
      simp only [List.length_map]
      (refine x_assign_own rfl rfl (by (simp; done)) rfl (fun _ => (slot_obj (by exact noRef_map fun _ => rfl))) (fun _ => rfl) ?_; intro g4)
      (refine x_assign_own rfl rfl (by (simp; done)) rfl (fun _ => (slot_obj (by exact noRef_map fun _ => rfl))) (fun _ => rfl) ?_; intro g5)
      refine xr_nil ⟨fun _ => ⟨by (simp only [wmap, List.nil_append, List.append_nil, List.map_cons, List.map_nil, List.cons_append]; decide +kernel), by decide +kernel⟩, [(.t 4, _), (.t 5, _), (.h 4, _), (.h 5, _)], ⟨rfl, rfl, rfl, rfl, rfl, rfl, rfl, rfl, trivial⟩, ?_⟩
      refine xa_ret ?_
      refine ret_tup (rl_own rfl rfl (by simp) (by exact noRef_map fun _ => rfl) (rl_own rfl rfl (by simp) (by exact noRef_map fun _ => rfl) (rl_nil outs_nil))) ?_
      rw [hez, heo]
      rfl

theorem keep_s_sum : keepOf Try.f52 = [0, 2, 8, 7, 9, 6, 5, 3] := by kernel_rfl
set_option maxHeartbeats 20000000 in
theorem s_sum (ms : List Int) (hl : ms.length ≤ 1000) (hsb : ∀ i, i ≤ ms.length → -1000000 ≤ (ms.take i).sum ∧ (ms.take i).sum ≤ 1000000) : CW cxT 52 [L ms] = some (iV ms.sum, []) := by
  refine fn_intro rfl Try.func52 rfl ⟨by kernel_rfl, rfl, of_decide_eq_true rfl, of_decide_eq_true rfl, by decide⟩ keep_s_sum ?_
  refine xa_seq ?_
  refine xa_region ?_
  refine x_assign rfl rfl rfl ?_
  refine xr_nil ⟨nofun, [(.t 0, _)], ⟨rfl, rfl, trivial⟩, ?_⟩
  refine xa_seq ?_
  refine xa_region ?_
  refine x_assign rfl rfl rfl ?_
  refine xr_nil ⟨nofun, [(.t 0, _), (.t 3, _)], ⟨rfl, rfl, rfl, rfl, trivial⟩, ?_⟩
  refine xa_seq ?_
  refine xa_seq ?_
  refine xa_region ?_
  refine x_move rfl rfl ?_
  refine x_len_map rfl rfl ?_
  refine x_move rfl rfl ?_
  refine xr_nil ⟨nofun, [(.t 3, _), (.t 6, _), (.t 7, _), (.t 8, _)], ⟨rfl, rfl, rfl, rfl, rfl, rfl, rfl, rfl, trivial⟩, ?_⟩
  refine xa_block ?_
  refine xa_loopK (β := Nat × Int) [(.t 6, _), (.t 7, _)] (fun (z : Nat × Int) => match z with | (i, a) => [(.t 8, iV i), (.t 3, iV a)]) (fun (z : Nat × Int) => match z with | (i, a) => i ≤ ms.length ∧ a = (ms.take i).sum) (fun (z : Nat × Int) => match z with | (i, a) => ms.length - i) (0, 0) ⟨rfl, rfl, rfl, rfl, trivial⟩ ⟨Nat.zero_le _, rfl⟩ ?_
  intro z hb
  obtain ⟨i, a⟩ := z
  try dsimp only at hb
  obtain ⟨hi1, ha⟩ := hb
  have hb1 := hsb i hi1
  have hb2 := fun h : i < ms.length => hsb (i + 1) h
  have hb3 := fun h : i < ms.length => sum_take_succ h
  refine xa_seq ?_
  refine xa_region ?_
  refine x_lss rfl rfl ?_
  refine xr_nil ⟨nofun, [(.t 3, _), (.t 6, _), (.t 7, _), (.t 8, _), (.t 9, _)], ⟨rfl, rfl, rfl, rfl, rfl, rfl, rfl, rfl, rfl, rfl, trivial⟩, ?_⟩
  refine xa_seq ?_
  refine xa_cond rfl (fun hc => ?_) (fun hc => ?_)
  · try simp only [decide_eq_true_eq, decide_eq_false_iff_not, Bool.not_eq_true', Bool.not_eq_false', bne_iff_ne, beq_iff_eq, ne_eq, Bool.not_true, Bool.not_false, beq_eq_false_iff_ne, bne_eq_false_iff_eq, Decidable.not_not, Int.not_lt, Int.not_le, Bool.and_eq_true, Bool.and_eq_false_iff, Bool.or_eq_true, Bool.or_eq_false_iff, List.length_map] at hc
    refine xa_skip ?_
    refine xa_seq ?_
    refine xa_block ?_
    refine xa_seq ?_
    refine xa_region ?_
    refine x_index_listN rfl rfl rfl (fun _ => rfl) (by omega) ?_
    refine x_load_iptV rfl rfl rfl ?_
    refine x_assign rfl rfl rfl ?_
    refine xr_nil ⟨nofun, [(.t 3, _), (.t 5, _), (.t 6, _), (.t 7, _), (.t 8, _)], ⟨rfl, rfl, rfl, rfl, rfl, rfl, rfl, rfl, rfl, rfl, trivial⟩, ?_⟩
    refine xa_region ?_
    refine x_move rfl rfl ?_
    refine x_move rfl rfl ?_
    have hs3 := hb3 (by omega)
    have hs2 := hb2 (by omega)
    refine x_add rfl rfl (inI64 (by omega)) ?_
    refine x_assign rfl rfl rfl ?_
    refine xr_nil ⟨nofun, [(.t 3, _), (.t 6, _), (.t 7, _), (.t 8, _)], ⟨rfl, rfl, rfl, rfl, rfl, rfl, rfl, rfl, trivial⟩, ?_⟩
    refine xa_region ?_
    refine x_add rfl rfl (inI64 (by omega)) ?_
    refine x_move rfl rfl ?_
    refine xr_nil ⟨nofun, [(.t 3, _), (.t 6, _), (.t 7, _), (.t 8, _)], ⟨rfl, rfl, rfl, rfl, rfl, rfl, rfl, rfl, trivial⟩, ?_⟩
    refine ⟨(i + 1, a + ms.getD i default), ⟨by omega, by rw [sum_take_succ (by omega), ha]⟩, (by simp only; omega), ⟨rfl, rfl, rfl, rfl, trivial⟩⟩
  · try simp only [decide_eq_true_eq, decide_eq_false_iff_not, Bool.not_eq_true', Bool.not_eq_false', bne_iff_ne, beq_iff_eq, ne_eq, Bool.not_true, Bool.not_false, beq_eq_false_iff_ne, bne_eq_false_iff_eq, Decidable.not_not, Int.not_lt, Int.not_le, Bool.and_eq_true, Bool.and_eq_false_iff, Bool.or_eq_true, Bool.or_eq_false_iff, List.length_map] at hc
    refine xa_exit ?_
    refine xa_seq ?_
    refine xa_region ?_
    refine x_move rfl rfl ?_
    refine x_assign rfl rfl rfl ?_
    refine xr_nil ⟨nofun, [(.t 2, _)], ⟨rfl, rfl, trivial⟩, ?_⟩
    refine xa_ret ?_
    refine ret_val' rfl rfl trivial ?_
    rw [ha, List.take_of_length_le (by omega)]

theorem keep_s_wrongI : keepOf Try.f20 = [0, 1, 4, 13, 5, 24, 23, 25, 8, 6, 9, 7] := by kernel_rfl
set_option maxHeartbeats 20000000 in
theorem s_wrongI (xs ms : List Int) (hl : xs.length ≤ 1048576) (hl2 : ms.length ≤ 1048576) : CW cxT 20 [L xs, L ms] = some (iV (wbR xs ms), []) := by
  refine fn_intro rfl Try.func20 rfl ⟨by kernel_rfl, rfl, of_decide_eq_true rfl, of_decide_eq_true rfl, by decide⟩ keep_s_wrongI ?_
  refine xa_seq ?_
  refine xa_region ?_
  refine x_assign rfl rfl rfl ?_
  refine xr_nil ⟨nofun, [(.t 0, _), (.t 1, _)], ⟨rfl, rfl, rfl, rfl, trivial⟩, ?_⟩
  refine xa_seq ?_
  refine xa_seq ?_
  refine xa_region ?_
  refine x_move rfl rfl ?_
  refine x_move rfl rfl ?_
  apply x_call rfl
  · apply pa_cons
    · exact pa_plain rfl
    apply pa_cons
    · exact pa_plain rfl
    exact pa_nil
  · exact s_validCasesI xs ms hl hl2
  · exact ⟨rfl, rfl, rfl, of_decide_eq_true rfl, rfl⟩
  · exact .inl rfl
  · exact back_nil
  · exact inst_plain rfl
  · exact fun _ => rfl
  intro g12
  refine x_not rfl ?_
  refine xr_nil ⟨nofun, [(.t 0, _), (.t 1, _), (.t 13, _)], ⟨rfl, rfl, rfl, rfl, rfl, rfl, trivial⟩, ?_⟩
  refine xa_cond rfl (fun hc => ?_) (fun hc => ?_)
  · try simp only [decide_eq_true_eq, decide_eq_false_iff_not, Bool.not_eq_true', Bool.not_eq_false', bne_iff_ne, beq_iff_eq, ne_eq, Bool.not_true, Bool.not_false, beq_eq_false_iff_ne, bne_eq_false_iff_eq, Decidable.not_not, Int.not_lt, Int.not_le, Bool.and_eq_true, Bool.and_eq_false_iff, Bool.or_eq_true, Bool.or_eq_false_iff, List.length_map] at hc
    have hvc : ¬ vca xs ms = true := by simpa using hc
    refine xa_seq ?_
    refine xa_region ?_
    refine x_assign rfl rfl rfl ?_
    refine xr_nil ⟨nofun, [(.t 4, _)], ⟨rfl, rfl, trivial⟩, ?_⟩
    refine xa_ret ?_
    refine ret_val' rfl rfl trivial ?_
    rw [wbR, if_neg hvc]
    rfl
  · try simp only [decide_eq_true_eq, decide_eq_false_iff_not, Bool.not_eq_true', Bool.not_eq_false', bne_iff_ne, beq_iff_eq, ne_eq, Bool.not_true, Bool.not_false, beq_eq_false_iff_ne, bne_eq_false_iff_eq, Decidable.not_not, Int.not_lt, Int.not_le, Bool.and_eq_true, Bool.and_eq_false_iff, Bool.or_eq_true, Bool.or_eq_false_iff, List.length_map] at hc
    have hvc : vca xs ms = true := by exact hc
    obtain ⟨h1, hl10, hxb, hml, hmb⟩ := vca_iff.1 hvc
    have hll0 := corR_len_le xs ms 0
    refine xa_skip ?_
    refine xa_seq ?_
    refine xa_region ?_
    refine x_move rfl rfl ?_
    refine x_move rfl rfl ?_
    apply x_call rfl
    · apply pa_cons
      · exact pa_plain rfl
      apply pa_cons
      · exact pa_plain rfl
      exact pa_nil
    · exact s_corners xs ms h1 hl10 hxb hml hmb
    · exact ⟨rfl, rfl, rfl, of_decide_eq_true rfl, rfl⟩
    · exact .inr ⟨by simp [hasList, hasListL], rfl⟩
    · exact back_nil
    · exact inst_tupL (il_own fun _ => il_own fun _ => il_nil)
    · exact fun _ => rfl
    intro g17
    simp only [List.length_map]
    refine x_move rfl rfl ?_
    refine x_extract rfl rfl rfl ?_
    refine x_extract rfl rfl rfl ?_
    (refine x_assign_own rfl rfl (by (simp; done)) rfl (fun _ => (slot_obj (by exact noRef_map fun _ => rfl))) (fun _ => rfl) ?_; intro g5)
    (refine x_assign_own rfl rfl (by (simp; done)) rfl (fun _ => (slot_obj (by exact noRef_map fun _ => rfl))) (fun _ => rfl) ?_; intro g6)
    refine xr_nil ⟨nofun, [(.t 0, _), (.t 1, _), (.t 5, _), (.t 6, _), (.h 5, _), (.h 6, _)], ⟨rfl, rfl, rfl, rfl, rfl, rfl, rfl, rfl, rfl, rfl, rfl, rfl, trivial⟩, ?_⟩
    refine xa_seq ?_
    refine xa_region ?_
    refine x_move rfl rfl ?_
    refine x_len_map rfl rfl ?_
    refine x_assign rfl rfl rfl ?_
    refine xr_nil ⟨nofun, [(.t 0, _), (.t 1, _), (.t 5, _), (.t 6, _), (.t 7, _), (.h 5, _), (.h 6, _)], ⟨rfl, rfl, rfl, rfl, rfl, rfl, rfl, rfl, rfl, rfl, rfl, rfl, rfl, rfl, trivial⟩, ?_⟩
    refine xa_seq ?_
    refine xa_seq ?_
    refine xa_region ?_
    refine x_move rfl rfl ?_
    refine x_len_sl rfl rfl ?_
    refine x_move rfl rfl ?_
    refine xr_nil ⟨nofun, [(.t 0, _), (.t 1, _), (.t 5, _), (.t 6, _), (.t 7, _), (.t 23, _), (.t 24, _), (.h 5, _), (.h 6, _)], ⟨rfl, rfl, rfl, rfl, rfl, rfl, rfl, rfl, rfl, rfl, rfl, rfl, rfl, rfl, rfl, rfl, rfl, rfl, trivial⟩, ?_⟩
    refine xa_block ?_
    refine xa_loopK (β := Nat) [(.t 0, _), (.t 1, _), (.t 5, _), (.t 6, _), (.t 23, _), (.h 5, _), (.h 6, _)] (fun (i : Nat) => [(.t 24, iV i), (.t 7, iV (wbU xs ms i))]) (fun (i : Nat) => i ≤ (corR xs ms 0).length) (fun (i : Nat) => (corR xs ms 0).length - i) 0 ⟨rfl, rfl, rfl, rfl, rfl, rfl, rfl, rfl, rfl, trivial⟩ (Nat.zero_le _) ?_
    intro i hb
    have hi1 := hb
    have hwi := corR_bd xs ms 0 i
    have hwo := corR_bd xs ms 1 i
    have hs01 := sum01 hmb
    have hll := corR_lens xs ms
    refine xa_seq ?_
    refine xa_region ?_
    refine x_lss rfl rfl ?_
    refine xr_nil ⟨nofun, [(.t 0, _), (.t 1, _), (.t 5, _), (.t 6, _), (.t 7, _), (.t 23, _), (.t 24, _), (.t 25, _), (.h 5, _), (.h 6, _)], ⟨rfl, rfl, rfl, rfl, rfl, rfl, rfl, rfl, rfl, rfl, rfl, rfl, rfl, rfl, rfl, rfl, rfl, rfl, rfl, rfl, trivial⟩, ?_⟩
    refine xa_seq ?_
    refine xa_cond rfl (fun hc => ?_) (fun hc => ?_)
    · try simp only [decide_eq_true_eq, decide_eq_false_iff_not, Bool.not_eq_true', Bool.not_eq_false', bne_iff_ne, beq_iff_eq, ne_eq, Bool.not_true, Bool.not_false, beq_eq_false_iff_ne, bne_eq_false_iff_eq, Decidable.not_not, Int.not_lt, Int.not_le, Bool.and_eq_true, Bool.and_eq_false_iff, Bool.or_eq_true, Bool.or_eq_false_iff, List.length_map] at hc
      refine xa_skip ?_
      refine xa_seq ?_
      refine xa_block ?_
      refine xa_seq ?_
      refine xa_region ?_
      refine x_move rfl rfl ?_
      refine x_assign rfl rfl rfl ?_
      refine xr_nil ⟨nofun, [(.t 0, _), (.t 1, _), (.t 5, _), (.t 6, _), (.t 7, _), (.t 8, _), (.t 23, _), (.t 24, _), (.h 5, _), (.h 6, _)], ⟨rfl, rfl, rfl, rfl, rfl, rfl, rfl, rfl, rfl, rfl, rfl, rfl, rfl, rfl, rfl, rfl, rfl, rfl, rfl, rfl, trivial⟩, ?_⟩
      refine xa_seq ?_
      refine xa_region ?_
      refine x_move rfl rfl ?_
      refine x_move rfl rfl ?_
      refine x_index_slN rfl rfl rfl rfl (by omega) (by (simp; done)) rfl ?_
      refine x_load_mapV rfl rfl (by omega) (fun _ => rfl) (fun _ => rfl) rfl ?_
      refine x_move rfl rfl ?_
      apply x_call rfl
      · apply pa_cons
        · exact pa_plain rfl
        exact pa_nil
      · exact s_sum ms (by omega) (fun i hi => by have := sum01_bd hmb i hi; omega)
      · exact ⟨rfl, rfl, rfl, of_decide_eq_true rfl, rfl⟩
      · exact .inl rfl
      · exact back_nil
      · exact inst_plain rfl
      · exact fun _ => rfl
      intro g32
      refine x_add rfl rfl (inI64 (by omega)) ?_
      refine x_move rfl rfl ?_
      refine x_move rfl rfl ?_
      refine x_index_slN rfl rfl rfl rfl (by omega) (by (simp; done)) rfl ?_
      refine x_load_mapV rfl rfl (by omega) (fun _ => rfl) (fun _ => rfl) rfl ?_
      refine x_sub rfl rfl (inI64 (by omega)) ?_
      refine x_assign rfl rfl rfl ?_
      refine xr_nil ⟨fun _ => ⟨by (simp only [wmap, List.nil_append, List.append_nil, List.map_cons, List.map_nil, List.cons_append]; decide +kernel), by decide +kernel⟩, [(.t 0, _), (.t 1, _), (.t 5, _), (.t 6, _), (.t 7, _), (.t 9, _), (.t 23, _), (.t 24, _), (.h 5, _), (.h 6, _)], ⟨rfl, rfl, rfl, rfl, rfl, rfl, rfl, rfl, rfl, rfl, rfl, rfl, rfl, rfl, rfl, rfl, rfl, rfl, rfl, rfl, trivial⟩, ?_⟩
      refine xa_region ?_
      refine x_move rfl rfl ?_
      refine x_move rfl rfl ?_
      refine x_move rfl rfl ?_
      refine x_len_map rfl rfl ?_
      refine x_move rfl rfl ?_
      refine x_sub rfl rfl (inI64 (by omega)) ?_
      refine x_min3 rfl rfl rfl ?_
      refine x_assign rfl rfl rfl ?_
      refine xr_nil ⟨nofun, [(.t 0, _), (.t 1, _), (.t 5, _), (.t 6, _), (.t 7, _), (.t 23, _), (.t 24, _), (.h 5, _), (.h 6, _)], ⟨rfl, rfl, rfl, rfl, rfl, rfl, rfl, rfl, rfl, rfl, rfl, rfl, rfl, rfl, rfl, rfl, rfl, rfl, trivial⟩, ?_⟩
      refine xa_region ?_
      refine x_add rfl rfl (inI64 (by omega)) ?_
      refine x_move rfl rfl ?_
      refine xr_nil ⟨nofun, [(.t 0, _), (.t 1, _), (.t 5, _), (.t 6, _), (.t 7, _), (.t 23, _), (.t 24, _), (.h 5, _), (.h 6, _)], ⟨rfl, rfl, rfl, rfl, rfl, rfl, rfl, rfl, rfl, rfl, rfl, rfl, rfl, rfl, rfl, rfl, rfl, rfl, trivial⟩, ?_⟩
      refine ⟨i + 1, (by omega), (by omega), ⟨rfl, rfl, rfl, rfl, rfl, rfl, rfl, rfl, rfl, trivial⟩⟩
    · try simp only [decide_eq_true_eq, decide_eq_false_iff_not, Bool.not_eq_true', Bool.not_eq_false', bne_iff_ne, beq_iff_eq, ne_eq, Bool.not_true, Bool.not_false, beq_eq_false_iff_ne, bne_eq_false_iff_eq, Decidable.not_not, Int.not_lt, Int.not_le, Bool.and_eq_true, Bool.and_eq_false_iff, Bool.or_eq_true, Bool.or_eq_false_iff, List.length_map] at hc
      refine xa_exit ?_
      refine xa_seq ?_
      refine xa_region ?_
      refine x_move rfl rfl ?_
      refine x_assign rfl rfl rfl ?_
      refine xr_nil ⟨nofun, [(.t 4, _)], ⟨rfl, rfl, trivial⟩, ?_⟩
      refine xa_ret ?_
      refine ret_val' rfl rfl trivial ?_
      rw [wbR, if_pos hvc, show i = (corR xs ms 0).length by omega]

theorem keep_s_dataOf : keepOf Try.f76 = [0, 1, 4, 5, 14, 6, 27, 28, 36] := by kernel_rfl
set_option maxHeartbeats 20000000 in
theorem s_dataOf (bs : List Int) (p : Int) (hbs : Bytes bs) (hl : bs.length ≤ 1048576) (hp : 0 ≤ p ∧ p ≤ 1000) (n : Int) (hn : 0 ≤ n ∧ n ≤ 10) : ∃ res outs, (fun res outs => ∃ (xs : List Int) (p' : Int), res = .own 1 (xs.map iV) ∧ outs = [[rdr bs p']] ∧ xs.length ≤ 21 ∧ p ≤ p' ∧ p' ≤ p + 13) res outs ∧ CW cxT 76 [.ownp [rdr bs p] 0 0, iV n] = some (res, outs) := by
  refine fn_introP rfl Try.func76 rfl ⟨by kernel_rfl, rfl, of_decide_eq_true rfl, of_decide_eq_true rfl, by decide⟩ keep_s_dataOf ?_
  refine xa_seq ?_
  refine xa_region ?_
  (refine x_assign_nil rfl rfl (fun _ => rfl) ?_; intro g4)
  refine xr_nil ⟨nofun, [(.t 0, _), (.t 1, _), (.h 0, _)], ⟨rfl, rfl, rfl, rfl, rfl, rfl, trivial⟩, ?_⟩
  refine xa_seq ?_
  refine xa_region ?_
  refine x_buildSlice (es := List.map iV []) rfl rfl (by decide) rfl rfl (fun _ => slot_obj (noRef_map fun _ => rfl)) (fun _ => rfl) ?_
  intro g7
  (refine x_assign_own rfl rfl (by (simp; done)) rfl (fun _ => (slot_obj (by exact noRef_map fun _ => rfl))) (fun _ => rfl) ?_; intro g5)
  refine xr_nil ⟨nofun, [(.t 0, _), (.t 1, _), (.t 5, _), (.h 0, _), (.h 5, _)], ⟨rfl, rfl, rfl, rfl, rfl, rfl, rfl, rfl, rfl, rfl, trivial⟩, ?_⟩
  refine xa_seq ?_
  refine xa_region ?_
  refine x_move rfl rfl ?_
  refine x_buildSlice (es := List.map iV [_, _, _, _]) rfl rfl (by decide) rfl rfl (fun _ => slot_obj (noRef_map fun _ => rfl)) (fun _ => rfl) ?_
  intro g9
  obtain ⟨_, _, ⟨k0, rfl, rfl, k0m⟩, hC0⟩ := s_one bs (p) hbs hl (by omega) [3, 10, 40, 200] (by decide)
  have k0b : 3 ≤ k0 ∧ k0 ≤ 200 := by simp at k0m; omega
  apply x_call rfl
  · apply pa_cons
    · exact pa_box rfl (by decide) rfl
    apply pa_cons
    · exact pa_keep_map rfl rfl (by (simp; done)) (fun _ => rfl)
    exact pa_nil
  · exact hC0
  · exact ⟨rfl, rfl, rfl, of_decide_eq_true rfl, rfl⟩
  · exact .inl rfl
  · exact back_cons rfl rfl rfl back_nil
  · exact inst_plain rfl
  · exact fun _ => rfl
  intro g10
  refine x_assign rfl rfl rfl ?_
  refine xr_nil ⟨nofun, [(.t 0, _), (.t 1, _), (.t 5, _), (.t 6, _), (.h 0, _), (.h 5, _)], ⟨rfl, rfl, rfl, rfl, rfl, rfl, rfl, rfl, rfl, rfl, rfl, rfl, trivial⟩, ?_⟩
  refine xa_seq ?_
  refine xa_block ?_
  refine xa_loopK (β := List Int × Nat × Int) [(.t 0, _), (.t 1, _), (.t 6, _)] (fun (z : List Int × Nat × Int) => match z with | (xs, g, q) => [(.h 0, .obj 1 4 0 [rdr bs q]), (.t 5, .sl 5 g none 0 xs.length), (.h 5, .obj g 0 1 (xs.map iV))]) (fun (z : List Int × Nat × Int) => match z with | (xs, g, q) => (xs.length : Int) ≤ n ∧ q = p + 1 + xs.length) (fun (z : List Int × Nat × Int) => match z with | (xs, g, q) => 10 - xs.length) ([], _, p + 1) ⟨rfl, rfl, rfl, rfl, rfl, rfl, trivial⟩ ⟨by simp; omega, by simp⟩ ?_
  intro z hb
  obtain ⟨xs, g, q⟩ := z
  try dsimp only at hb
  obtain ⟨hx1, hq1⟩ := hb
  refine xa_seq ?_
  refine xa_seq ?_
  refine xa_region ?_
  refine x_move rfl rfl ?_
  refine x_len_sl rfl rfl ?_
  refine x_move rfl rfl ?_
  refine x_lss rfl rfl ?_
  refine xr_nil ⟨nofun, [(.t 0, _), (.t 1, _), (.t 5, _), (.t 6, _), (.t 14, _), (.h 0, _), (.h 5, _)], ⟨rfl, rfl, rfl, rfl, rfl, rfl, rfl, rfl, rfl, rfl, rfl, rfl, rfl, rfl, trivial⟩, ?_⟩
  refine xa_cond rfl (fun hc => ?_) (fun hc => ?_)
  · try simp only [decide_eq_true_eq, decide_eq_false_iff_not, Bool.not_eq_true', Bool.not_eq_false', bne_iff_ne, beq_iff_eq, ne_eq, Bool.not_true, Bool.not_false, beq_eq_false_iff_ne, bne_eq_false_iff_eq, Decidable.not_not, Int.not_lt, Int.not_le, Bool.and_eq_true, Bool.and_eq_false_iff, Bool.or_eq_true, Bool.or_eq_false_iff, List.length_map] at hc
    refine xa_skip ?_
    refine xa_block ?_
    refine xa_region ?_
    refine x_move rfl rfl ?_
    refine x_move rfl rfl ?_
    refine x_move rfl rfl ?_
    refine x_mul rfl rfl (inI64 (by omega)) ?_
    refine x_add rfl rfl (inI64 (by omega)) ?_
    obtain ⟨_, _, ⟨k1, rfl, rfl, k1b, -⟩, hC1⟩ := s_pick bs (q) hbs hl (by omega) (2 * k0 + 1) (by omega)
    have k1b := k1b (by omega)
    apply x_call rfl
    · apply pa_cons
      · exact pa_box rfl (by decide) rfl
      apply pa_cons
      · exact pa_plain rfl
      exact pa_nil
    · exact hC1
    · exact ⟨rfl, rfl, rfl, of_decide_eq_true rfl, rfl⟩
    · exact .inl rfl
    · exact back_cons rfl rfl rfl back_nil
    · exact inst_plain rfl
    · exact fun _ => rfl
    intro g20
    refine x_rem rfl rfl (by omega) ?_
    refine x_move rfl rfl ?_
    have hm1 := tmod_in (a := k1) (b := 401) (by omega) (by decide)
    refine x_sub rfl rfl (inI64 (by omega)) ?_
    refine x_buildSlice (es := List.map iV [k1.tmod 401 - k0]) rfl rfl (by decide) rfl rfl (fun _ => slot_obj (noRef_map fun _ => rfl)) (fun _ => rfl) ?_
    intro g24
    refine x_append_map rfl rfl rfl rfl (by simp) (by simp) (by decide) rfl rfl rfl rfl (by decide) (fun _ => ⟨rfl, rfl⟩) (by simp only [maxL]; (simp only [List.length_nil, List.length_cons, List.length_append, Nat.zero_add, List.length_map]; omega)) (fun _ => rfl) ?_
    intro g25
    (refine x_assign_own rfl rfl (by (simp; done)) rfl (fun _ => (slot_obj (by exact noRef_map fun _ => rfl))) (fun _ => rfl) ?_; intro g5)
    refine xr_nil ⟨nofun, [(.t 0, _), (.t 1, _), (.t 5, _), (.t 6, _), (.h 0, _), (.h 5, _)], ⟨rfl, rfl, rfl, rfl, rfl, rfl, rfl, rfl, rfl, rfl, rfl, rfl, trivial⟩, ?_⟩
    refine ⟨(xs ++ [k1.tmod 401 - k0], _, q + 1), ?_, (by simp only [List.length_append, List.length_singleton]; omega), ⟨rfl, rfl, rfl, rfl, rfl, rfl, trivial⟩⟩
    refine ⟨?_, ?_⟩ <;> (try simp only [List.length_append, List.length_singleton]) <;> omega
  · try simp only [decide_eq_true_eq, decide_eq_false_iff_not, Bool.not_eq_true', Bool.not_eq_false', bne_iff_ne, beq_iff_eq, ne_eq, Bool.not_true, Bool.not_false, beq_eq_false_iff_ne, bne_eq_false_iff_eq, Decidable.not_not, Int.not_lt, Int.not_le, Bool.and_eq_true, Bool.and_eq_false_iff, Bool.or_eq_true, Bool.or_eq_false_iff, List.length_map] at hc
    refine xa_exit ?_
    refine xa_seq ?_
    refine xa_seq ?_
    refine xa_region ?_
    refine x_move rfl rfl ?_
    obtain ⟨_, _, ⟨k2, rfl, rfl, k2b, -⟩, hC2⟩ := s_pick bs (q) hbs hl (by omega) (40) (by omega)
    have k2b := k2b (by omega)
    obtain ⟨_, _, ⟨k3, rfl, rfl, k3m⟩, hC3⟩ := s_one bs (q + 1) hbs hl (by omega) [201, -201] (by decide)
    have k3b : -201 ≤ k3 ∧ k3 ≤ 201 := by simp at k3m; omega
    apply x_call rfl
    · apply pa_cons
      · exact pa_box rfl (by decide) rfl
      apply pa_cons
      · exact pa_plain rfl
      exact pa_nil
    · exact hC2
    · exact ⟨rfl, rfl, rfl, of_decide_eq_true rfl, rfl⟩
    · exact .inl rfl
    · exact back_cons rfl rfl rfl back_nil
    · exact inst_plain rfl
    · exact fun _ => rfl
    intro g27
    refine xr_nil ⟨nofun, [(.t 0, _), (.t 5, _), (.t 27, _), (.h 0, _), (.h 5, _)], ⟨rfl, rfl, rfl, rfl, rfl, rfl, rfl, rfl, rfl, rfl, trivial⟩, ?_⟩
    refine xa_block ?_
    refine xa_seq ?_
    refine xa_region ?_
    refine x_eql rfl rfl ?_
    refine x_assign rfl rfl rfl ?_
    refine xr_nil ⟨nofun, [(.t 0, _), (.t 5, _), (.t 27, _), (.t 28, _), (.h 0, _), (.h 5, _)], ⟨rfl, rfl, rfl, rfl, rfl, rfl, rfl, rfl, rfl, rfl, rfl, rfl, trivial⟩, ?_⟩
    refine xa_cond rfl (fun hc => ?_) (fun hc => ?_)
    · try simp only [decide_eq_true_eq, decide_eq_false_iff_not, Bool.not_eq_true', Bool.not_eq_false', bne_iff_ne, beq_iff_eq, ne_eq, Bool.not_true, Bool.not_false, beq_eq_false_iff_ne, bne_eq_false_iff_eq, Decidable.not_not, Int.not_lt, Int.not_le, Bool.and_eq_true, Bool.and_eq_false_iff, Bool.or_eq_true, Bool.or_eq_false_iff, List.length_map] at hc
      refine xa_seq ?_
      refine xa_region ?_
      refine x_move rfl rfl ?_
      refine x_move rfl rfl ?_
      refine x_buildSlice (es := List.map iV [_, _]) rfl rfl (by decide) rfl rfl (fun _ => slot_obj (noRef_map fun _ => rfl)) (fun _ => rfl) ?_
      intro g32
      apply x_call rfl
      · apply pa_cons
        · exact pa_box rfl (by decide) rfl
        apply pa_cons
        · exact pa_keep_map rfl rfl (by (simp; done)) (fun _ => rfl)
        exact pa_nil
      · exact hC3
      · exact ⟨rfl, rfl, rfl, of_decide_eq_true rfl, rfl⟩
      · exact .inl rfl
      · exact back_cons rfl rfl rfl back_nil
      · exact inst_plain rfl
      · exact fun _ => rfl
      intro g33
      refine x_buildSlice (es := List.map iV [_]) rfl rfl (by decide) rfl rfl (fun _ => slot_obj (noRef_map fun _ => rfl)) (fun _ => rfl) ?_
      intro g34
      refine x_append_map rfl rfl rfl rfl (by simp) (by simp) (by decide) rfl rfl rfl rfl (by decide) (fun _ => ⟨rfl, rfl⟩) (by simp only [maxL]; (simp only [List.length_nil, List.length_cons, List.length_append, Nat.zero_add, List.length_map]; omega)) (fun _ => rfl) ?_
      intro g35
      (refine x_assign_own rfl rfl (by (simp; done)) rfl (fun _ => (slot_obj (by exact noRef_map fun _ => rfl))) (fun _ => rfl) ?_; intro g4)
      refine xr_nil ⟨nofun, [(.t 4, _), (.h 0, _), (.h 4, _)], ⟨rfl, rfl, rfl, rfl, rfl, rfl, trivial⟩, ?_⟩
      refine xa_ret ?_
      refine ⟨_, _, ?_, ret_own rfl rfl (by (simp; done)) (by exact noRef_map fun _ => rfl) (outs_one rfl rfl)⟩
      exact ⟨_, _, rfl, rfl, by (simp; omega), by omega, by omega⟩
    · try simp only [decide_eq_true_eq, decide_eq_false_iff_not, Bool.not_eq_true', Bool.not_eq_false', bne_iff_ne, beq_iff_eq, ne_eq, Bool.not_true, Bool.not_false, beq_eq_false_iff_ne, bne_eq_false_iff_eq, Decidable.not_not, Int.not_lt, Int.not_le, Bool.and_eq_true, Bool.and_eq_false_iff, Bool.or_eq_true, Bool.or_eq_false_iff, List.length_map] at hc
      refine xa_seq ?_
      refine xa_region ?_
      refine x_eql rfl rfl ?_
      refine x_assign rfl rfl rfl ?_
      refine xr_nil ⟨nofun, [(.t 5, _), (.t 36, _), (.h 0, _), (.h 5, _)], ⟨rfl, rfl, rfl, rfl, rfl, rfl, rfl, rfl, trivial⟩, ?_⟩
      refine xa_cond rfl (fun hc => ?_) (fun hc => ?_)
      · try simp only [decide_eq_true_eq, decide_eq_false_iff_not, Bool.not_eq_true', Bool.not_eq_false', bne_iff_ne, beq_iff_eq, ne_eq, Bool.not_true, Bool.not_false, beq_eq_false_iff_ne, bne_eq_false_iff_eq, Decidable.not_not, Int.not_lt, Int.not_le, Bool.and_eq_true, Bool.and_eq_false_iff, Bool.or_eq_true, Bool.or_eq_false_iff, List.length_map] at hc
        refine xa_seq ?_
        refine xa_region ?_
        refine x_move rfl rfl ?_
        refine x_buildSlice (es := List.map iV [_, _, _, _, _, _, _, _, _, _, _]) rfl rfl (by decide) rfl rfl (fun _ => slot_obj (noRef_map fun _ => rfl)) (fun _ => rfl) ?_
        intro g39
        refine x_append_map rfl rfl rfl rfl (by simp) (by simp) (by decide) rfl rfl rfl rfl (by decide) (fun _ => ⟨rfl, rfl⟩) (by simp only [maxL]; (simp only [List.length_nil, List.length_cons, List.length_append, Nat.zero_add, List.length_map]; omega)) (fun _ => rfl) ?_
        intro g40
        (refine x_assign_own rfl rfl (by (simp; done)) rfl (fun _ => (slot_obj (by exact noRef_map fun _ => rfl))) (fun _ => rfl) ?_; intro g4)
        refine xr_nil ⟨nofun, [(.t 4, _), (.h 0, _), (.h 4, _)], ⟨rfl, rfl, rfl, rfl, rfl, rfl, trivial⟩, ?_⟩
        refine xa_ret ?_
        refine ⟨_, _, ?_, ret_own rfl rfl (by (simp; done)) (by exact noRef_map fun _ => rfl) (outs_one rfl rfl)⟩
        exact ⟨_, _, rfl, rfl, by (simp; omega), by omega, by omega⟩
      · try simp only [decide_eq_true_eq, decide_eq_false_iff_not, Bool.not_eq_true', Bool.not_eq_false', bne_iff_ne, beq_iff_eq, ne_eq, Bool.not_true, Bool.not_false, beq_eq_false_iff_ne, bne_eq_false_iff_eq, Decidable.not_not, Int.not_lt, Int.not_le, Bool.and_eq_true, Bool.and_eq_false_iff, Bool.or_eq_true, Bool.or_eq_false_iff, List.length_map] at hc
        refine xa_skip ?_
        refine xa_seq ?_
        refine xa_region ?_
        refine x_move rfl rfl ?_
        (refine x_assign_own rfl rfl (by (simp; done)) rfl (fun _ => (slot_obj (by exact noRef_map fun _ => rfl))) (fun _ => rfl) ?_; intro g4)
        refine xr_nil ⟨nofun, [(.t 4, _), (.h 0, _), (.h 4, _)], ⟨rfl, rfl, rfl, rfl, rfl, rfl, trivial⟩, ?_⟩
        refine xa_ret ?_
        refine ⟨_, _, ?_, ret_own rfl rfl (by (simp; done)) (by exact noRef_map fun _ => rfl) (outs_one rfl rfl)⟩
        exact ⟨_, _, rfl, rfl, by omega, by omega, by omega⟩

theorem keep_s_someCases : keepOf Try.f53 = [0, 2, 3, 4, 6, 17, 31, 7, 5, 37, 38, 44, 48] := by kernel_rfl
set_option maxHeartbeats 20000000 in
theorem s_someCases (bs : List Int) (p : Int) (hbs : Bytes bs) (hl : bs.length ≤ 1048576) (hp : p = 0) : ∃ res outs, (fun res outs => ∃ (xs ms : List Int) (p' : Int), res = .tup [.own 1 (xs.map iV), .own 1 (ms.map iV)] ∧ outs = [[rdr bs p']] ∧ xs.length ≤ 21 ∧ ms.length ≤ 22) res outs ∧ CW cxT 53 [.ownp [rdr bs p] 0 0] = some (res, outs) := by
  refine fn_introP rfl Try.func53 rfl ⟨by kernel_rfl, rfl, of_decide_eq_true rfl, of_decide_eq_true rfl, by decide⟩ keep_s_someCases ?_
  refine xa_seq ?_
  refine xa_region ?_
  (refine x_assign_nil rfl rfl (fun _ => rfl) ?_; intro g2)
  (refine x_assign_nil rfl rfl (fun _ => rfl) ?_; intro g3)
  refine xr_nil ⟨nofun, [(.t 0, _), (.h 0, _)], ⟨rfl, rfl, rfl, rfl, trivial⟩, ?_⟩
  refine xa_seq ?_
  refine xa_region ?_
  refine x_move rfl rfl ?_
  refine x_move rfl rfl ?_
  refine x_buildSlice (es := List.map iV [_, _, _, _, _, _, _, _, _]) rfl rfl (by decide) rfl rfl (fun _ => slot_obj (noRef_map fun _ => rfl)) (fun _ => rfl) ?_
  intro g10
  obtain ⟨_, _, ⟨k0, rfl, rfl, k0m⟩, hC0⟩ := s_one bs (p) hbs hl (by omega) [5, 6, 4, 8, 3, 2, 10, 1, 0] (by decide)
  have k0b : 0 ≤ k0 ∧ k0 ≤ 10 := by simp at k0m; omega
  apply x_call rfl
  · apply pa_cons
    · exact pa_box rfl (by decide) rfl
    apply pa_cons
    · exact pa_keep_map rfl rfl (by (simp; done)) (fun _ => rfl)
    exact pa_nil
  · exact hC0
  · exact ⟨rfl, rfl, rfl, of_decide_eq_true rfl, rfl⟩
  · exact .inl rfl
  · exact back_cons rfl rfl rfl back_nil
  · exact inst_plain rfl
  · exact fun _ => rfl
  intro g11
  obtain ⟨_, _, ⟨xs, p1, rfl, rfl, hx21, hp1, hp2⟩, hC1⟩ := s_dataOf bs (p + 1) hbs hl (by omega) k0 (by omega)
  apply x_call rfl
  · apply pa_cons
    · exact pa_box rfl (by decide) rfl
    apply pa_cons
    · exact pa_plain rfl
    exact pa_nil
  · exact hC1
  · exact ⟨rfl, rfl, rfl, of_decide_eq_true rfl, rfl⟩
  · exact .inl rfl
  · exact back_cons rfl rfl rfl back_nil
  · exact inst_own
  · exact fun _ => rfl
  intro g12
  simp only [List.length_map]
  (refine x_assign_own rfl rfl (by (simp; done)) rfl (fun _ => (slot_obj (by exact noRef_map fun _ => rfl))) (fun _ => rfl) ?_; intro g4)
  refine xr_nil ⟨nofun, [(.t 0, _), (.t 4, _), (.h 0, _), (.h 4, _)], ⟨rfl, rfl, rfl, rfl, rfl, rfl, rfl, rfl, trivial⟩, ?_⟩
  refine xa_seq ?_
  refine xa_region ?_
  refine x_buildSlice (es := List.map iV []) rfl rfl (by decide) rfl rfl (fun _ => slot_obj (noRef_map fun _ => rfl)) (fun _ => rfl) ?_
  intro g13
  (refine x_assign_own rfl rfl (by (simp; done)) rfl (fun _ => (slot_obj (by exact noRef_map fun _ => rfl))) (fun _ => rfl) ?_; intro g5)
  refine xr_nil ⟨nofun, [(.t 0, _), (.t 4, _), (.t 5, _), (.h 0, _), (.h 4, _), (.h 5, _)], ⟨rfl, rfl, rfl, rfl, rfl, rfl, rfl, rfl, rfl, rfl, rfl, rfl, trivial⟩, ?_⟩
  refine xa_seq ?_
  refine xa_seq ?_
  refine xa_region ?_
  refine x_assign rfl rfl rfl ?_
  refine xr_nil ⟨nofun, [(.t 0, _), (.t 4, _), (.t 5, _), (.t 6, _), (.h 0, _), (.h 4, _), (.h 5, _)], ⟨rfl, rfl, rfl, rfl, rfl, rfl, rfl, rfl, rfl, rfl, rfl, rfl, rfl, rfl, trivial⟩, ?_⟩
  refine xa_block ?_
  refine xa_loopK (β := Nat × List Int × Nat × Int) [(.t 0, _), (.t 4, _), (.h 4, _)] (fun (z : Nat × List Int × Nat × Int) => match z with | (i, ms, g, q) => [(.h 0, .obj 1 4 0 [rdr bs q]), (.t 6, iV i), (.t 5, .sl 5 g none 0 ms.length), (.h 5, .obj g 0 1 (ms.map iV))]) (fun (z : Nat × List Int × Nat × Int) => match z with | (i, ms, g, q) => i ≤ xs.length ∧ ms.length = i ∧ q = p1 + 2 * i) (fun (z : Nat × List Int × Nat × Int) => match z with | (i, ms, g, q) => xs.length - i) (0, [], _, p1) ⟨rfl, rfl, rfl, rfl, rfl, rfl, rfl, trivial⟩ ⟨Nat.zero_le _, rfl, by simp⟩ ?_
  intro z hb
  obtain ⟨i, ms, g, q⟩ := z
  try dsimp only at hb
  obtain ⟨hi1, hml, hq1⟩ := hb
  refine xa_seq ?_
  refine xa_seq ?_
  refine xa_region ?_
  refine x_move rfl rfl ?_
  refine x_move rfl rfl ?_
  refine x_len_sl rfl rfl ?_
  refine x_lss rfl rfl ?_
  refine xr_nil ⟨nofun, [(.t 0, _), (.t 4, _), (.t 5, _), (.t 6, _), (.t 17, _), (.h 0, _), (.h 4, _), (.h 5, _)], ⟨rfl, rfl, rfl, rfl, rfl, rfl, rfl, rfl, rfl, rfl, rfl, rfl, rfl, rfl, rfl, rfl, trivial⟩, ?_⟩
  refine xa_cond rfl (fun hc => ?_) (fun hc => ?_)
  · try simp only [decide_eq_true_eq, decide_eq_false_iff_not, Bool.not_eq_true', Bool.not_eq_false', bne_iff_ne, beq_iff_eq, ne_eq, Bool.not_true, Bool.not_false, beq_eq_false_iff_ne, bne_eq_false_iff_eq, Decidable.not_not, Int.not_lt, Int.not_le, Bool.and_eq_true, Bool.and_eq_false_iff, Bool.or_eq_true, Bool.or_eq_false_iff, List.length_map] at hc
    refine xa_skip ?_
    refine xa_seq ?_
    refine xa_block ?_
    refine xa_seq ?_
    refine xa_region ?_
    refine x_move rfl rfl ?_
    obtain ⟨_, _, ⟨k1, rfl, rfl, k1b, -⟩, hC2⟩ := s_pick bs (q) hbs hl (by omega) (2) (by omega)
    have k1b := k1b (by omega)
    obtain ⟨_, _, ⟨k2, rfl, rfl, k2b, -⟩, hC3⟩ := s_pick bs (q + 1) hbs hl (by omega) (2) (by omega)
    have k2b := k2b (by omega)
    apply x_call rfl
    · apply pa_cons
      · exact pa_box rfl (by decide) rfl
      apply pa_cons
      · exact pa_plain rfl
      exact pa_nil
    · exact hC2
    · exact ⟨rfl, rfl, rfl, of_decide_eq_true rfl, rfl⟩
    · exact .inl rfl
    · exact back_cons rfl rfl rfl back_nil
    · exact inst_plain rfl
    · exact fun _ => rfl
    intro g21
    refine x_assign rfl rfl rfl ?_
    refine xr_nil ⟨nofun, [(.t 0, _), (.t 4, _), (.t 5, _), (.t 6, _), (.t 7, _), (.h 0, _), (.h 4, _), (.h 5, _)], ⟨rfl, rfl, rfl, rfl, rfl, rfl, rfl, rfl, rfl, rfl, rfl, rfl, rfl, rfl, rfl, rfl, trivial⟩, ?_⟩
    refine xa_seq ?_
    refine xa_seq ?_
    refine xa_region ?_
    refine x_move rfl rfl ?_
    apply x_call rfl
    · apply pa_cons
      · exact pa_box rfl (by decide) rfl
      apply pa_cons
      · exact pa_plain rfl
      exact pa_nil
    · exact hC3
    · exact ⟨rfl, rfl, rfl, of_decide_eq_true rfl, rfl⟩
    · exact .inl rfl
    · exact back_cons rfl rfl rfl back_nil
    · exact inst_plain rfl
    · exact fun _ => rfl
    intro g23
    refine x_eql rfl rfl ?_
    refine x_move rfl rfl ?_
    refine x_guard_split rfl rfl (fun hg0 => ?_) (fun hg0 => ?_)
    · have hg := hg0; try simp only [decide_eq_true_eq, decide_eq_false_iff_not, Bool.not_eq_true', Bool.not_eq_false', bne_iff_ne, beq_iff_eq, ne_eq, Bool.not_true, Bool.not_false, beq_eq_false_iff_ne, bne_eq_false_iff_eq, Decidable.not_not, Int.not_lt, Int.not_le, Bool.and_eq_true, Bool.and_eq_false_iff, Bool.or_eq_true, Bool.or_eq_false_iff] at hg
      refine x_move rfl rfl ?_
      refine x_guard_t rfl rfl (by assumption) ?_
      refine x_move rfl rfl ?_
      refine x_guard_t rfl rfl (by assumption) ?_
      refine x_index_slN rfl rfl rfl rfl (by omega) (by (simp; done)) rfl ?_
      refine x_guard_t rfl rfl (by assumption) ?_
      refine x_load_mapV rfl rfl (by omega) (fun _ => rfl) (fun _ => rfl) rfl ?_
      refine x_guard_t rfl rfl (by assumption) ?_
      refine x_gtr rfl rfl ?_
      refine x_pick_t rfl (by assumption) rfl rfl ?_
      refine xr_nil ⟨nofun, [(.t 0, _), (.t 4, _), (.t 5, _), (.t 6, _), (.t 7, _), (.t 31, _), (.h 0, _), (.h 4, _), (.h 5, _)], ⟨rfl, rfl, rfl, rfl, rfl, rfl, rfl, rfl, rfl, rfl, rfl, rfl, rfl, rfl, rfl, rfl, rfl, rfl, trivial⟩, ?_⟩
      refine xa_cond rfl (fun hc => ?_) (fun hc => ?_)
      · try simp only [decide_eq_true_eq, decide_eq_false_iff_not, Bool.not_eq_true', Bool.not_eq_false', bne_iff_ne, beq_iff_eq, ne_eq, Bool.not_true, Bool.not_false, beq_eq_false_iff_ne, bne_eq_false_iff_eq, Decidable.not_not, Int.not_lt, Int.not_le, Bool.and_eq_true, Bool.and_eq_false_iff, Bool.or_eq_true, Bool.or_eq_false_iff, List.length_map] at hc
        refine xa_region ?_
        refine x_assign rfl rfl rfl ?_
        refine xr_nil ⟨nofun, [(.t 0, _), (.t 4, _), (.t 5, _), (.t 6, _), (.t 7, _), (.h 0, _), (.h 4, _), (.h 5, _)], ⟨rfl, rfl, rfl, rfl, rfl, rfl, rfl, rfl, rfl, rfl, rfl, rfl, rfl, rfl, rfl, rfl, trivial⟩, ?_⟩
        refine xa_region ?_
        refine x_move rfl rfl ?_
        refine x_move rfl rfl ?_
        refine x_buildSlice (es := List.map iV [_]) rfl rfl (by decide) rfl rfl (fun _ => slot_obj (noRef_map fun _ => rfl)) (fun _ => rfl) ?_
        intro g34
        refine x_append_map rfl rfl rfl rfl (by simp) (by simp) (by decide) rfl rfl rfl rfl (by decide) (fun _ => ⟨rfl, rfl⟩) (by simp only [maxL]; (simp only [List.length_nil, List.length_cons, List.length_append, Nat.zero_add, List.length_map]; omega)) (fun _ => rfl) ?_
        intro g35
        (refine x_assign_own rfl rfl (by (simp; done)) rfl (fun _ => (slot_obj (by exact noRef_map fun _ => rfl))) (fun _ => rfl) ?_; intro g5)
        refine xr_nil ⟨nofun, [(.t 0, _), (.t 4, _), (.t 5, _), (.t 6, _), (.h 0, _), (.h 4, _), (.h 5, _)], ⟨rfl, rfl, rfl, rfl, rfl, rfl, rfl, rfl, rfl, rfl, rfl, rfl, rfl, rfl, trivial⟩, ?_⟩
        refine xa_region ?_
        refine x_move rfl rfl ?_
        refine x_add rfl rfl (inI64 (by omega)) ?_
        refine x_assign rfl rfl rfl ?_
        refine xr_nil ⟨nofun, [(.t 0, _), (.t 4, _), (.t 5, _), (.t 6, _), (.h 0, _), (.h 4, _), (.h 5, _)], ⟨rfl, rfl, rfl, rfl, rfl, rfl, rfl, rfl, rfl, rfl, rfl, rfl, rfl, rfl, trivial⟩, ?_⟩
        refine ⟨(i + 1, ms ++ [1], _, q + 1 + 1), ?_, (by simp only; omega), ⟨rfl, rfl, rfl, rfl, rfl, rfl, rfl, trivial⟩⟩
        refine ⟨by omega, by simp [hml], by omega⟩
      · try simp only [decide_eq_true_eq, decide_eq_false_iff_not, Bool.not_eq_true', Bool.not_eq_false', bne_iff_ne, beq_iff_eq, ne_eq, Bool.not_true, Bool.not_false, beq_eq_false_iff_ne, bne_eq_false_iff_eq, Decidable.not_not, Int.not_lt, Int.not_le, Bool.and_eq_true, Bool.and_eq_false_iff, Bool.or_eq_true, Bool.or_eq_false_iff, List.length_map] at hc
        refine xa_skip ?_
        refine xa_region ?_
        refine x_move rfl rfl ?_
        refine x_move rfl rfl ?_
        refine x_buildSlice (es := List.map iV [_]) rfl rfl (by decide) rfl rfl (fun _ => slot_obj (noRef_map fun _ => rfl)) (fun _ => rfl) ?_
        intro g34
        refine x_append_map rfl rfl rfl rfl (by simp) (by simp) (by decide) rfl rfl rfl rfl (by decide) (fun _ => ⟨rfl, rfl⟩) (by simp only [maxL]; (simp only [List.length_nil, List.length_cons, List.length_append, Nat.zero_add, List.length_map]; omega)) (fun _ => rfl) ?_
        intro g35
        (refine x_assign_own rfl rfl (by (simp; done)) rfl (fun _ => (slot_obj (by exact noRef_map fun _ => rfl))) (fun _ => rfl) ?_; intro g5)
        refine xr_nil ⟨nofun, [(.t 0, _), (.t 4, _), (.t 5, _), (.t 6, _), (.h 0, _), (.h 4, _), (.h 5, _)], ⟨rfl, rfl, rfl, rfl, rfl, rfl, rfl, rfl, rfl, rfl, rfl, rfl, rfl, rfl, trivial⟩, ?_⟩
        refine xa_region ?_
        refine x_move rfl rfl ?_
        refine x_add rfl rfl (inI64 (by omega)) ?_
        refine x_assign rfl rfl rfl ?_
        refine xr_nil ⟨nofun, [(.t 0, _), (.t 4, _), (.t 5, _), (.t 6, _), (.h 0, _), (.h 4, _), (.h 5, _)], ⟨rfl, rfl, rfl, rfl, rfl, rfl, rfl, rfl, rfl, rfl, rfl, rfl, rfl, rfl, trivial⟩, ?_⟩
        refine ⟨(i + 1, ms ++ [k1], _, q + 1 + 1), ?_, (by simp only; omega), ⟨rfl, rfl, rfl, rfl, rfl, rfl, rfl, trivial⟩⟩
        refine ⟨by omega, by simp [hml], by omega⟩
    · have hg := hg0; try simp only [decide_eq_true_eq, decide_eq_false_iff_not, Bool.not_eq_true', Bool.not_eq_false', bne_iff_ne, beq_iff_eq, ne_eq, Bool.not_true, Bool.not_false, beq_eq_false_iff_ne, bne_eq_false_iff_eq, Decidable.not_not, Int.not_lt, Int.not_le, Bool.and_eq_true, Bool.and_eq_false_iff, Bool.or_eq_true, Bool.or_eq_false_iff] at hg
      refine x_guard_f rfl rfl (by assumption) ?_
      refine x_guard_f rfl rfl (by assumption) ?_
      refine x_guard_f rfl rfl (by assumption) ?_
      refine x_guard_f rfl rfl (by assumption) ?_
      refine x_pick_f rfl (by assumption) rfl rfl ?_
      refine xr_nil ⟨nofun, [(.t 0, _), (.t 4, _), (.t 5, _), (.t 6, _), (.t 7, _), (.t 31, _), (.h 0, _), (.h 4, _), (.h 5, _)], ⟨rfl, rfl, rfl, rfl, rfl, rfl, rfl, rfl, rfl, rfl, rfl, rfl, rfl, rfl, rfl, rfl, rfl, rfl, trivial⟩, ?_⟩
      refine xa_cond rfl (fun hc => absurd hc (by decide)) (fun hc => ?_)
      refine xa_skip ?_
      refine xa_region ?_
      refine x_move rfl rfl ?_
      refine x_move rfl rfl ?_
      refine x_buildSlice (es := List.map iV [_]) rfl rfl (by decide) rfl rfl (fun _ => slot_obj (noRef_map fun _ => rfl)) (fun _ => rfl) ?_
      intro g34
      refine x_append_map rfl rfl rfl rfl (by simp) (by simp) (by decide) rfl rfl rfl rfl (by decide) (fun _ => ⟨rfl, rfl⟩) (by simp only [maxL]; (simp only [List.length_nil, List.length_cons, List.length_append, Nat.zero_add, List.length_map]; omega)) (fun _ => rfl) ?_
      intro g35
      (refine x_assign_own rfl rfl (by (simp; done)) rfl (fun _ => (slot_obj (by exact noRef_map fun _ => rfl))) (fun _ => rfl) ?_; intro g5)
      refine xr_nil ⟨nofun, [(.t 0, _), (.t 4, _), (.t 5, _), (.t 6, _), (.h 0, _), (.h 4, _), (.h 5, _)], ⟨rfl, rfl, rfl, rfl, rfl, rfl, rfl, rfl, rfl, rfl, rfl, rfl, rfl, rfl, trivial⟩, ?_⟩
      refine xa_region ?_
      refine x_move rfl rfl ?_
      refine x_add rfl rfl (inI64 (by omega)) ?_
      refine x_assign rfl rfl rfl ?_
      refine xr_nil ⟨nofun, [(.t 0, _), (.t 4, _), (.t 5, _), (.t 6, _), (.h 0, _), (.h 4, _), (.h 5, _)], ⟨rfl, rfl, rfl, rfl, rfl, rfl, rfl, rfl, rfl, rfl, rfl, rfl, rfl, rfl, trivial⟩, ?_⟩
      refine ⟨(i + 1, ms ++ [k1], _, q + 1 + 1), ?_, (by simp only; omega), ⟨rfl, rfl, rfl, rfl, rfl, rfl, rfl, trivial⟩⟩
      refine ⟨by omega, by simp [hml], by omega⟩
  · try simp only [decide_eq_true_eq, decide_eq_false_iff_not, Bool.not_eq_true', Bool.not_eq_false', bne_iff_ne, beq_iff_eq, ne_eq, Bool.not_true, Bool.not_false, beq_eq_false_iff_ne, bne_eq_false_iff_eq, Decidable.not_not, Int.not_lt, Int.not_le, Bool.and_eq_true, Bool.and_eq_false_iff, Bool.or_eq_true, Bool.or_eq_false_iff, List.length_map] at hc
    refine xa_exit ?_
    refine xa_seq ?_
    refine xa_seq ?_
    refine xa_region ?_
    refine x_move rfl rfl ?_
    obtain ⟨_, _, ⟨k3, rfl, rfl, k3b, -⟩, hC4⟩ := s_pick bs (q) hbs hl (by omega) (30) (by omega)
    have k3b := k3b (by omega)
    apply x_call rfl
    · apply pa_cons
      · exact pa_box rfl (by decide) rfl
      apply pa_cons
      · exact pa_plain rfl
      exact pa_nil
    · exact hC4
    · exact ⟨rfl, rfl, rfl, of_decide_eq_true rfl, rfl⟩
    · exact .inl rfl
    · exact back_cons rfl rfl rfl back_nil
    · exact inst_plain rfl
    · exact fun _ => rfl
    intro g37
    refine xr_nil ⟨nofun, [(.t 4, _), (.t 5, _), (.t 37, _), (.h 0, _), (.h 4, _), (.h 5, _)], ⟨rfl, rfl, rfl, rfl, rfl, rfl, rfl, rfl, rfl, rfl, rfl, rfl, trivial⟩, ?_⟩
    refine xa_block ?_
    refine xa_seq ?_
    refine xa_region ?_
    refine x_eql rfl rfl ?_
    refine x_assign rfl rfl rfl ?_
    refine xr_nil ⟨nofun, [(.t 4, _), (.t 5, _), (.t 37, _), (.t 38, _), (.h 0, _), (.h 4, _), (.h 5, _)], ⟨rfl, rfl, rfl, rfl, rfl, rfl, rfl, rfl, rfl, rfl, rfl, rfl, rfl, rfl, trivial⟩, ?_⟩
    refine xa_cond rfl (fun hc => ?_) (fun hc => ?_)
    · try simp only [decide_eq_true_eq, decide_eq_false_iff_not, Bool.not_eq_true', Bool.not_eq_false', bne_iff_ne, beq_iff_eq, ne_eq, Bool.not_true, Bool.not_false, beq_eq_false_iff_ne, bne_eq_false_iff_eq, Decidable.not_not, Int.not_lt, Int.not_le, Bool.and_eq_true, Bool.and_eq_false_iff, Bool.or_eq_true, Bool.or_eq_false_iff, List.length_map] at hc
      refine xa_seq ?_
      refine xa_region ?_
      refine x_move rfl rfl ?_
      refine x_move rfl rfl ?_
      refine x_buildSlice (es := List.map iV [_]) rfl rfl (by decide) rfl rfl (fun _ => slot_obj (noRef_map fun _ => rfl)) (fun _ => rfl) ?_
      intro g42
      refine x_append_map rfl rfl rfl rfl (by simp) (by simp) (by decide) rfl rfl rfl rfl (by decide) (fun _ => ⟨rfl, rfl⟩) (by simp only [maxL]; (simp only [List.length_nil, List.length_cons, List.length_append, Nat.zero_add, List.length_map]; omega)) (fun _ => rfl) ?_
      intro g43
      (refine x_assign_own rfl rfl (by (simp; done)) rfl (fun _ => (slot_obj (by exact noRef_map fun _ => rfl))) (fun _ => rfl) ?_; intro g2)
      (refine x_assign_own rfl rfl (by (simp; done)) rfl (fun _ => (slot_obj (by exact noRef_map fun _ => rfl))) (fun _ => rfl) ?_; intro g3)
      refine xr_nil ⟨nofun, [(.t 2, _), (.t 3, _), (.h 0, _), (.h 2, _), (.h 3, _)], ⟨rfl, rfl, rfl, rfl, rfl, rfl, rfl, rfl, rfl, rfl, trivial⟩, ?_⟩
      refine xa_ret ?_
      refine ⟨_, _, ?_, ret_tup (rl_own rfl rfl (by (simp; done)) (by exact noRef_map fun _ => rfl) (rl_own rfl rfl (by (simp; done)) (by exact noRef_map fun _ => rfl) (rl_nil (outs_one rfl rfl)))) rfl⟩
      exact ⟨_, _, _, rfl, rfl, by omega, by (simp; omega)⟩
    · try simp only [decide_eq_true_eq, decide_eq_false_iff_not, Bool.not_eq_true', Bool.not_eq_false', bne_iff_ne, beq_iff_eq, ne_eq, Bool.not_true, Bool.not_false, beq_eq_false_iff_ne, bne_eq_false_iff_eq, Decidable.not_not, Int.not_lt, Int.not_le, Bool.and_eq_true, Bool.and_eq_false_iff, Bool.or_eq_true, Bool.or_eq_false_iff, List.length_map] at hc
      refine xa_seq ?_
      refine xa_region ?_
      refine x_eql rfl rfl ?_
      refine x_assign rfl rfl rfl ?_
      refine xr_nil ⟨nofun, [(.t 4, _), (.t 5, _), (.t 44, _), (.h 0, _), (.h 4, _), (.h 5, _)], ⟨rfl, rfl, rfl, rfl, rfl, rfl, rfl, rfl, rfl, rfl, rfl, rfl, trivial⟩, ?_⟩
      refine xa_cond rfl (fun hc => ?_) (fun hc => ?_)
      · try simp only [decide_eq_true_eq, decide_eq_false_iff_not, Bool.not_eq_true', Bool.not_eq_false', bne_iff_ne, beq_iff_eq, ne_eq, Bool.not_true, Bool.not_false, beq_eq_false_iff_ne, bne_eq_false_iff_eq, Decidable.not_not, Int.not_lt, Int.not_le, Bool.and_eq_true, Bool.and_eq_false_iff, Bool.or_eq_true, Bool.or_eq_false_iff, List.length_map] at hc
        refine xa_seq ?_
        refine xa_region ?_
        refine x_move rfl rfl ?_
        refine x_len_sl rfl rfl ?_
        refine x_gtr rfl rfl ?_
        refine xr_nil ⟨nofun, [(.t 4, _), (.t 5, _), (.t 48, _), (.h 0, _), (.h 4, _), (.h 5, _)], ⟨rfl, rfl, rfl, rfl, rfl, rfl, rfl, rfl, rfl, rfl, rfl, rfl, trivial⟩, ?_⟩
        refine xa_cond rfl (fun hc => ?_) (fun hc => ?_)
        · try simp only [decide_eq_true_eq, decide_eq_false_iff_not, Bool.not_eq_true', Bool.not_eq_false', bne_iff_ne, beq_iff_eq, ne_eq, Bool.not_true, Bool.not_false, beq_eq_false_iff_ne, bne_eq_false_iff_eq, Decidable.not_not, Int.not_lt, Int.not_le, Bool.and_eq_true, Bool.and_eq_false_iff, Bool.or_eq_true, Bool.or_eq_false_iff, List.length_map] at hc
          refine xa_region ?_
          refine x_move rfl rfl ?_
          refine x_index_slN rfl rfl rfl rfl (by (change 0 < _; omega)) (by (simp; done)) rfl ?_
          refine x_store_mapO rfl rfl rfl (by (change 0 < _; omega)) (fun _ _ => ⟨rfl, rfl, of_decide_eq_true rfl, of_decide_eq_true rfl, rfl, rfl⟩) (by decide) (by exact slot_obj (noRef_map fun _ => rfl)) ?_
          refine xr_nil ⟨nofun, [(.t 4, _), (.t 5, _), (.h 0, _), (.h 4, _), (.h 5, _)], ⟨rfl, rfl, rfl, rfl, rfl, rfl, rfl, rfl, rfl, rfl, trivial⟩, ?_⟩
          refine xa_seq ?_
          refine xa_region ?_
          refine x_move rfl rfl ?_
          refine x_move rfl rfl ?_
          (refine x_assign_own rfl rfl (by (simp; done)) rfl (fun _ => (slot_obj (by exact noRef_map fun _ => rfl))) (fun _ => rfl) ?_; intro g2)
          (refine x_assign_own rfl rfl (by (simp; done)) rfl (fun _ => (slot_obj (by exact noRef_map fun _ => rfl))) (fun _ => rfl) ?_; intro g3)
          refine xr_nil ⟨nofun, [(.t 2, _), (.t 3, _), (.h 0, _), (.h 2, _), (.h 3, _)], ⟨rfl, rfl, rfl, rfl, rfl, rfl, rfl, rfl, rfl, rfl, trivial⟩, ?_⟩
          refine xa_ret ?_
          refine ⟨_, _, ?_, ret_tup (rl_own rfl rfl (by (simp; done)) (by exact noRef_map fun _ => rfl) (rl_own rfl rfl (by (simp; done)) (by exact noRef_map fun _ => rfl) (rl_nil (outs_one rfl rfl)))) rfl⟩
          exact ⟨_, _, _, rfl, rfl, by omega, by (simp; omega)⟩
        · try simp only [decide_eq_true_eq, decide_eq_false_iff_not, Bool.not_eq_true', Bool.not_eq_false', bne_iff_ne, beq_iff_eq, ne_eq, Bool.not_true, Bool.not_false, beq_eq_false_iff_ne, bne_eq_false_iff_eq, Decidable.not_not, Int.not_lt, Int.not_le, Bool.and_eq_true, Bool.and_eq_false_iff, Bool.or_eq_true, Bool.or_eq_false_iff, List.length_map] at hc
          refine xa_skip ?_
          refine xa_seq ?_
          refine xa_region ?_
          refine x_move rfl rfl ?_
          refine x_move rfl rfl ?_
          (refine x_assign_own rfl rfl (by (simp; done)) rfl (fun _ => (slot_obj (by exact noRef_map fun _ => rfl))) (fun _ => rfl) ?_; intro g2)
          (refine x_assign_own rfl rfl (by (simp; done)) rfl (fun _ => (slot_obj (by exact noRef_map fun _ => rfl))) (fun _ => rfl) ?_; intro g3)
          refine xr_nil ⟨nofun, [(.t 2, _), (.t 3, _), (.h 0, _), (.h 2, _), (.h 3, _)], ⟨rfl, rfl, rfl, rfl, rfl, rfl, rfl, rfl, rfl, rfl, trivial⟩, ?_⟩
          refine xa_ret ?_
          refine ⟨_, _, ?_, ret_tup (rl_own rfl rfl (by (simp; done)) (by exact noRef_map fun _ => rfl) (rl_own rfl rfl (by (simp; done)) (by exact noRef_map fun _ => rfl) (rl_nil (outs_one rfl rfl)))) rfl⟩
          exact ⟨_, _, _, rfl, rfl, by omega, by omega⟩
      · try simp only [decide_eq_true_eq, decide_eq_false_iff_not, Bool.not_eq_true', Bool.not_eq_false', bne_iff_ne, beq_iff_eq, ne_eq, Bool.not_true, Bool.not_false, beq_eq_false_iff_ne, bne_eq_false_iff_eq, Decidable.not_not, Int.not_lt, Int.not_le, Bool.and_eq_true, Bool.and_eq_false_iff, Bool.or_eq_true, Bool.or_eq_false_iff, List.length_map] at hc
        refine xa_skip ?_
        refine xa_seq ?_
        refine xa_region ?_
        refine x_move rfl rfl ?_
        refine x_move rfl rfl ?_
        (refine x_assign_own rfl rfl (by (simp; done)) rfl (fun _ => (slot_obj (by exact noRef_map fun _ => rfl))) (fun _ => rfl) ?_; intro g2)
        (refine x_assign_own rfl rfl (by (simp; done)) rfl (fun _ => (slot_obj (by exact noRef_map fun _ => rfl))) (fun _ => rfl) ?_; intro g3)
        refine xr_nil ⟨nofun, [(.t 2, _), (.t 3, _), (.h 0, _), (.h 2, _), (.h 3, _)], ⟨rfl, rfl, rfl, rfl, rfl, rfl, rfl, rfl, rfl, rfl, trivial⟩, ?_⟩
        refine xa_ret ?_
        refine ⟨_, _, ?_, ret_tup (rl_own rfl rfl (by (simp; done)) (by exact noRef_map fun _ => rfl) (rl_own rfl rfl (by (simp; done)) (by exact noRef_map fun _ => rfl) (rl_nil (outs_one rfl rfl)))) rfl⟩
        exact ⟨_, _, _, rfl, rfl, by omega, by omega⟩

theorem keep_s_drawEdgeOf : keepOf Try.f29 = [0, 2, 3] := by kernel_rfl
set_option maxHeartbeats 20000000 in
theorem s_drawEdgeOf (bs : List Int) (hbs : Bytes bs) (hl : bs.length ≤ 1048576) : ∃ res outs, (fun res outs => ∃ xs ms : List Int, res = .tup [.own 1 (xs.map iV), .own 1 (ms.map iV)] ∧ outs = [] ∧ xs.length ≤ 21 ∧ ms.length ≤ 22) res outs ∧ CW cxT 29 [.list (bs.map uV)] = some (res, outs) := by
  refine fn_introP rfl Try.func29 rfl ⟨by kernel_rfl, rfl, of_decide_eq_true rfl, of_decide_eq_true rfl, by decide⟩ keep_s_drawEdgeOf ?_
  refine xa_seq ?_
  refine xa_region ?_
  (refine x_assign_nil rfl rfl (fun _ => rfl) ?_; intro g2)
  (refine x_assign_nil rfl rfl (fun _ => rfl) ?_; intro g3)
  refine xr_nil ⟨nofun, [(.t 0, _)], ⟨rfl, rfl, trivial⟩, ?_⟩
  refine xa_seq ?_
  refine xa_region ?_
  refine x_move rfl rfl ?_
  obtain ⟨_, _, ⟨rfl, rfl⟩, hC0⟩ := s_newReader bs hl
  have hbs2 : Bytes (bs.take 2000) := fun b hb => hbs b (List.mem_of_mem_take hb)
  have hl2 : (bs.take 2000).length ≤ 1048576 := by simp; omega
  apply x_call rfl
  · apply pa_cons
    · exact pa_plain rfl
    exact pa_nil
  · exact hC0
  · exact ⟨rfl, rfl, rfl, of_decide_eq_true rfl, rfl⟩
  · exact .inl rfl
  · exact back_nil
  · exact inst_box
  · exact fun _ => rfl
  intro g5
  obtain ⟨_, _, ⟨xs, ms, p1, rfl, rfl, hx21, hm22⟩, hC1⟩ := s_someCases (bs.take 2000) 0 hbs2 hl2 rfl
  apply x_call rfl
  · apply pa_cons
    · exact pa_box rfl (by decide) rfl
    exact pa_nil
  · exact hC1
  · exact ⟨rfl, rfl, rfl, of_decide_eq_true rfl, rfl⟩
  · exact .inl rfl
  · exact back_cons rfl rfl rfl back_nil
  · exact inst_tupL (il_own fun _ => il_own fun _ => il_nil)
  · exact fun _ => rfl
  intro g6
  refine x_extract rfl rfl rfl ?_
  refine x_extract rfl rfl rfl ?_
  (refine x_assign_own rfl rfl (by (simp; done)) rfl (fun _ => (slot_obj (by exact noRef_map fun _ => rfl))) (fun _ => rfl) ?_; intro g2)
  (refine x_assign_own rfl rfl (by (simp; done)) rfl (fun _ => (slot_obj (by exact noRef_map fun _ => rfl))) (fun _ => rfl) ?_; intro g3)
  refine xr_nil ⟨nofun, [(.t 2, _), (.t 3, _), (.h 2, _), (.h 3, _)], ⟨rfl, rfl, rfl, rfl, rfl, rfl, rfl, rfl, trivial⟩, ?_⟩
  refine xa_ret ?_
  refine ⟨_, _, ?_, ret_tup (rl_own rfl rfl (by simp) (by exact noRef_map fun _ => rfl) (rl_own rfl rfl (by simp) (by exact noRef_map fun _ => rfl) (rl_nil outs_nil))) rfl⟩
  exact ⟨xs, ms, rfl, rfl, hx21, hm22⟩

theorem keep_s_wrongAt : keepOf Try.f61 = [0, 1, 2, 3, 8, 10, 15, 25, 11, 32, 9] := by kernel_rfl
set_option maxHeartbeats 20000000 in
theorem s_wrongAt (xs ms : List Int) (hl : xs.length ≤ 10) (hml : ms.length = xs.length) (hm : allB 0 1 ms = true) (e u : Int) (hu : u = 0 ∨ u = 1) : CW cxT 61 [L xs, L ms, iV e, iV u] = some (iV (wE xs ms e u), []) := by
  refine fn_intro rfl Try.func61 rfl ⟨by kernel_rfl, rfl, of_decide_eq_true rfl, of_decide_eq_true rfl, by decide⟩ keep_s_wrongAt ?_
  refine xa_seq ?_
  refine xa_region ?_
  refine x_assign rfl rfl rfl ?_
  refine xr_nil ⟨nofun, [(.t 0, _), (.t 1, _), (.t 2, _), (.t 3, _)], ⟨rfl, rfl, rfl, rfl, rfl, rfl, rfl, rfl, trivial⟩, ?_⟩
  refine xa_seq ?_
  refine xa_region ?_
  refine x_assign rfl rfl rfl ?_
  refine xr_nil ⟨nofun, [(.t 0, _), (.t 1, _), (.t 2, _), (.t 3, _), (.t 9, _)], ⟨rfl, rfl, rfl, rfl, rfl, rfl, rfl, rfl, rfl, rfl, trivial⟩, ?_⟩
  refine xa_seq ?_
  refine xa_seq ?_
  refine xa_region ?_
  refine x_assign rfl rfl rfl ?_
  refine xr_nil ⟨nofun, [(.t 0, _), (.t 1, _), (.t 2, _), (.t 3, _), (.t 9, _), (.t 10, _)], ⟨rfl, rfl, rfl, rfl, rfl, rfl, rfl, rfl, rfl, rfl, rfl, rfl, trivial⟩, ?_⟩
  refine xa_block ?_
  refine xa_loopK (β := Nat × Int) [(.t 0, _), (.t 1, _), (.t 2, _), (.t 3, _)] (fun (z : Nat × Int) => match z with | (i, n) => [(.t 10, iV i), (.t 9, iV n)]) (fun (z : Nat × Int) => match z with | (i, n) => i ≤ xs.length ∧ n = wEU xs ms (e) u i) (fun (z : Nat × Int) => match z with | (i, n) => xs.length - i) (0, 0) ⟨rfl, rfl, rfl, rfl, rfl, rfl, trivial⟩ ⟨Nat.zero_le _, rfl⟩ ?_
  intro z hb
  obtain ⟨i, n⟩ := z
  try dsimp only at hb
  obtain ⟨hi1i, hn⟩ := hb
  have hwb := wEU_bd xs ms (e) u i
  have hmi := fun h : i < ms.length => allB_iff.1 hm i h
  refine xa_seq ?_
  refine xa_seq ?_
  refine xa_region ?_
  refine x_move rfl rfl ?_
  refine x_move rfl rfl ?_
  refine x_len_map rfl rfl ?_
  refine x_lss rfl rfl ?_
  refine xr_nil ⟨nofun, [(.t 0, _), (.t 1, _), (.t 2, _), (.t 3, _), (.t 9, _), (.t 10, _), (.t 15, _)], ⟨rfl, rfl, rfl, rfl, rfl, rfl, rfl, rfl, rfl, rfl, rfl, rfl, rfl, rfl, trivial⟩, ?_⟩
  refine xa_cond rfl (fun hc => ?_) (fun hc => ?_)
  · try simp only [decide_eq_true_eq, decide_eq_false_iff_not, Bool.not_eq_true', Bool.not_eq_false', bne_iff_ne, beq_iff_eq, ne_eq, Bool.not_true, Bool.not_false, beq_eq_false_iff_ne, bne_eq_false_iff_eq, Decidable.not_not, Int.not_lt, Int.not_le, Bool.and_eq_true, Bool.and_eq_false_iff, Bool.or_eq_true, Bool.or_eq_false_iff, List.length_map] at hc
    refine xa_skip ?_
    refine xa_seq ?_
    refine xa_block ?_
    refine xa_seq ?_
    refine xa_region ?_
    refine x_move rfl rfl ?_
    refine x_sub rfl rfl (inI64 (by omega)) ?_
    refine x_assign rfl rfl rfl ?_
    refine xr_nil ⟨nofun, [(.t 0, _), (.t 1, _), (.t 2, _), (.t 3, _), (.t 9, _), (.t 10, _), (.t 11, _)], ⟨rfl, rfl, rfl, rfl, rfl, rfl, rfl, rfl, rfl, rfl, rfl, rfl, rfl, rfl, trivial⟩, ?_⟩
    refine xa_seq ?_
    refine xa_seq ?_
    refine xa_region ?_
    refine x_move rfl rfl ?_
    refine x_move rfl rfl ?_
    refine x_index_listN rfl rfl rfl (fun _ => rfl) (by omega) ?_
    refine x_load_iptV rfl rfl rfl ?_
    refine x_move rfl rfl ?_
    refine x_geq rfl rfl ?_
    refine xr_nil ⟨nofun, [(.t 0, _), (.t 1, _), (.t 2, _), (.t 3, _), (.t 9, _), (.t 10, _), (.t 11, _), (.t 25, _)], ⟨rfl, rfl, rfl, rfl, rfl, rfl, rfl, rfl, rfl, rfl, rfl, rfl, rfl, rfl, rfl, rfl, trivial⟩, ?_⟩
    refine xa_cond rfl (fun hc => ?_) (fun hc => ?_)
    · try simp only [decide_eq_true_eq, decide_eq_false_iff_not, Bool.not_eq_true', Bool.not_eq_false', bne_iff_ne, beq_iff_eq, ne_eq, Bool.not_true, Bool.not_false, beq_eq_false_iff_ne, bne_eq_false_iff_eq, Decidable.not_not, Int.not_lt, Int.not_le, Bool.and_eq_true, Bool.and_eq_false_iff, Bool.or_eq_true, Bool.or_eq_false_iff, List.length_map] at hc
      refine xa_region ?_
      refine x_move rfl rfl ?_
      refine x_assign rfl rfl rfl ?_
      refine xr_nil ⟨nofun, [(.t 0, _), (.t 1, _), (.t 2, _), (.t 3, _), (.t 9, _), (.t 10, _), (.t 11, _)], ⟨rfl, rfl, rfl, rfl, rfl, rfl, rfl, rfl, rfl, rfl, rfl, rfl, rfl, rfl, trivial⟩, ?_⟩
      refine xa_seq ?_
      refine xa_region ?_
      refine x_move rfl rfl ?_
      refine x_move rfl rfl ?_
      refine x_move rfl rfl ?_
      refine x_index_listN rfl rfl rfl (fun _ => rfl) (by omega) ?_
      refine x_load_iptV rfl rfl rfl ?_
      refine x_neq rfl rfl ?_
      refine xr_nil ⟨nofun, [(.t 0, _), (.t 1, _), (.t 2, _), (.t 3, _), (.t 9, _), (.t 10, _), (.t 32, _)], ⟨rfl, rfl, rfl, rfl, rfl, rfl, rfl, rfl, rfl, rfl, rfl, rfl, rfl, rfl, trivial⟩, ?_⟩
      refine xa_cond rfl (fun hc => ?_) (fun hc => ?_)
      · try simp only [decide_eq_true_eq, decide_eq_false_iff_not, Bool.not_eq_true', Bool.not_eq_false', bne_iff_ne, beq_iff_eq, ne_eq, Bool.not_true, Bool.not_false, beq_eq_false_iff_ne, bne_eq_false_iff_eq, Decidable.not_not, Int.not_lt, Int.not_le, Bool.and_eq_true, Bool.and_eq_false_iff, Bool.or_eq_true, Bool.or_eq_false_iff, List.length_map] at hc
        refine xa_region ?_
        refine x_move rfl rfl ?_
        refine x_add rfl rfl (inI64 (by omega)) ?_
        refine x_assign rfl rfl rfl ?_
        refine xr_nil ⟨nofun, [(.t 0, _), (.t 1, _), (.t 2, _), (.t 3, _), (.t 9, _), (.t 10, _)], ⟨rfl, rfl, rfl, rfl, rfl, rfl, rfl, rfl, rfl, rfl, rfl, rfl, trivial⟩, ?_⟩
        refine xa_region ?_
        refine x_move rfl rfl ?_
        refine x_add rfl rfl (inI64 (by omega)) ?_
        refine x_assign rfl rfl rfl ?_
        refine xr_nil ⟨nofun, [(.t 0, _), (.t 1, _), (.t 2, _), (.t 3, _), (.t 9, _), (.t 10, _)], ⟨rfl, rfl, rfl, rfl, rfl, rfl, rfl, rfl, rfl, rfl, rfl, rfl, trivial⟩, ?_⟩
        refine ⟨(i + 1, n + 1), ?_, (by simp only; omega), ⟨rfl, rfl, rfl, rfl, rfl, rfl, trivial⟩⟩
        have hmi2 := hmi (by omega)
        exact ⟨by omega, by rw [wEU_ne (by omega), hn]⟩
      · try simp only [decide_eq_true_eq, decide_eq_false_iff_not, Bool.not_eq_true', Bool.not_eq_false', bne_iff_ne, beq_iff_eq, ne_eq, Bool.not_true, Bool.not_false, beq_eq_false_iff_ne, bne_eq_false_iff_eq, Decidable.not_not, Int.not_lt, Int.not_le, Bool.and_eq_true, Bool.and_eq_false_iff, Bool.or_eq_true, Bool.or_eq_false_iff, List.length_map] at hc
        refine xa_skip ?_
        refine xa_region ?_
        refine x_move rfl rfl ?_
        refine x_add rfl rfl (inI64 (by omega)) ?_
        refine x_assign rfl rfl rfl ?_
        refine xr_nil ⟨nofun, [(.t 0, _), (.t 1, _), (.t 2, _), (.t 3, _), (.t 9, _), (.t 10, _)], ⟨rfl, rfl, rfl, rfl, rfl, rfl, rfl, rfl, rfl, rfl, rfl, rfl, trivial⟩, ?_⟩
        refine ⟨(i + 1, n), ?_, (by simp only; omega), ⟨rfl, rfl, rfl, rfl, rfl, rfl, trivial⟩⟩
        have hmi2 := hmi (by omega)
        exact ⟨by omega, by rw [wEU_eq (by omega), hn]⟩
    · try simp only [decide_eq_true_eq, decide_eq_false_iff_not, Bool.not_eq_true', Bool.not_eq_false', bne_iff_ne, beq_iff_eq, ne_eq, Bool.not_true, Bool.not_false, beq_eq_false_iff_ne, bne_eq_false_iff_eq, Decidable.not_not, Int.not_lt, Int.not_le, Bool.and_eq_true, Bool.and_eq_false_iff, Bool.or_eq_true, Bool.or_eq_false_iff, List.length_map] at hc
      refine xa_skip ?_
      refine xa_seq ?_
      refine xa_region ?_
      refine x_move rfl rfl ?_
      refine x_move rfl rfl ?_
      refine x_move rfl rfl ?_
      refine x_index_listN rfl rfl rfl (fun _ => rfl) (by omega) ?_
      refine x_load_iptV rfl rfl rfl ?_
      refine x_neq rfl rfl ?_
      refine xr_nil ⟨nofun, [(.t 0, _), (.t 1, _), (.t 2, _), (.t 3, _), (.t 9, _), (.t 10, _), (.t 32, _)], ⟨rfl, rfl, rfl, rfl, rfl, rfl, rfl, rfl, rfl, rfl, rfl, rfl, rfl, rfl, trivial⟩, ?_⟩
      refine xa_cond rfl (fun hc => ?_) (fun hc => ?_)
      · try simp only [decide_eq_true_eq, decide_eq_false_iff_not, Bool.not_eq_true', Bool.not_eq_false', bne_iff_ne, beq_iff_eq, ne_eq, Bool.not_true, Bool.not_false, beq_eq_false_iff_ne, bne_eq_false_iff_eq, Decidable.not_not, Int.not_lt, Int.not_le, Bool.and_eq_true, Bool.and_eq_false_iff, Bool.or_eq_true, Bool.or_eq_false_iff, List.length_map] at hc
        refine xa_region ?_
        refine x_move rfl rfl ?_
        refine x_add rfl rfl (inI64 (by omega)) ?_
        refine x_assign rfl rfl rfl ?_
        refine xr_nil ⟨nofun, [(.t 0, _), (.t 1, _), (.t 2, _), (.t 3, _), (.t 9, _), (.t 10, _)], ⟨rfl, rfl, rfl, rfl, rfl, rfl, rfl, rfl, rfl, rfl, rfl, rfl, trivial⟩, ?_⟩
        refine xa_region ?_
        refine x_move rfl rfl ?_
        refine x_add rfl rfl (inI64 (by omega)) ?_
        refine x_assign rfl rfl rfl ?_
        refine xr_nil ⟨nofun, [(.t 0, _), (.t 1, _), (.t 2, _), (.t 3, _), (.t 9, _), (.t 10, _)], ⟨rfl, rfl, rfl, rfl, rfl, rfl, rfl, rfl, rfl, rfl, rfl, rfl, trivial⟩, ?_⟩
        refine ⟨(i + 1, n + 1), ?_, (by simp only; omega), ⟨rfl, rfl, rfl, rfl, rfl, rfl, trivial⟩⟩
        have hmi2 := hmi (by omega)
        exact ⟨by omega, by rw [wEU_ne (by omega), hn]⟩
      · try simp only [decide_eq_true_eq, decide_eq_false_iff_not, Bool.not_eq_true', Bool.not_eq_false', bne_iff_ne, beq_iff_eq, ne_eq, Bool.not_true, Bool.not_false, beq_eq_false_iff_ne, bne_eq_false_iff_eq, Decidable.not_not, Int.not_lt, Int.not_le, Bool.and_eq_true, Bool.and_eq_false_iff, Bool.or_eq_true, Bool.or_eq_false_iff, List.length_map] at hc
        refine xa_skip ?_
        refine xa_region ?_
        refine x_move rfl rfl ?_
        refine x_add rfl rfl (inI64 (by omega)) ?_
        refine x_assign rfl rfl rfl ?_
        refine xr_nil ⟨nofun, [(.t 0, _), (.t 1, _), (.t 2, _), (.t 3, _), (.t 9, _), (.t 10, _)], ⟨rfl, rfl, rfl, rfl, rfl, rfl, rfl, rfl, rfl, rfl, rfl, rfl, trivial⟩, ?_⟩
        refine ⟨(i + 1, n), ?_, (by simp only; omega), ⟨rfl, rfl, rfl, rfl, rfl, rfl, trivial⟩⟩
        have hmi2 := hmi (by omega)
        exact ⟨by omega, by rw [wEU_eq (by omega), hn]⟩
  · try simp only [decide_eq_true_eq, decide_eq_false_iff_not, Bool.not_eq_true', Bool.not_eq_false', bne_iff_ne, beq_iff_eq, ne_eq, Bool.not_true, Bool.not_false, beq_eq_false_iff_ne, bne_eq_false_iff_eq, Decidable.not_not, Int.not_lt, Int.not_le, Bool.and_eq_true, Bool.and_eq_false_iff, Bool.or_eq_true, Bool.or_eq_false_iff, List.length_map] at hc
    refine xa_exit ?_
    refine xa_seq ?_
    refine xa_region ?_
    refine x_move rfl rfl ?_
    refine x_assign rfl rfl rfl ?_
    refine xr_nil ⟨nofun, [(.t 8, _)], ⟨rfl, rfl, trivial⟩, ?_⟩
    refine xa_ret ?_
    refine ret_val' rfl rfl trivial ?_
    rw [hn, show i = xs.length by omega, wEU_all]

theorem keep_s_edgeI : keepOf Try.f30 = [0, 1, 4, 5, 6, 19, 31, 30, 32, 29, 35, 36, 40, 39, 41, 38, 12, 14, 11, 15, 54, 13, 9, 60, 8, 7] := by kernel_rfl
set_option maxHeartbeats 20000000 in
theorem s_edgeI (xs ms : List Int) (hl : xs.length ≤ 1048576) (hl2 : ms.length ≤ 1048576) : CW cxT 30 [L xs, L ms] = some (.tup [iV (egT xs ms).1, iV (egT xs ms).2.1, iV (egT xs ms).2.2], []) := by
  refine fn_intro rfl Try.func30 rfl ⟨by kernel_rfl, rfl, of_decide_eq_true rfl, of_decide_eq_true rfl, by decide⟩ keep_s_edgeI ?_
  refine xa_seq ?_
  refine xa_region ?_
  refine x_assign rfl rfl rfl ?_
  refine x_assign rfl rfl rfl ?_
  refine x_assign rfl rfl rfl ?_
  refine xr_nil ⟨nofun, [(.t 0, _), (.t 1, _)], ⟨rfl, rfl, rfl, rfl, trivial⟩, ?_⟩
  refine xa_seq ?_
  refine xa_seq ?_
  refine xa_region ?_
  refine x_move rfl rfl ?_
  refine x_move rfl rfl ?_
  apply x_call rfl
  · apply pa_cons
    · exact pa_plain rfl
    apply pa_cons
    · exact pa_plain rfl
    exact pa_nil
  · exact s_validCasesI xs ms hl hl2
  · exact ⟨rfl, rfl, rfl, of_decide_eq_true rfl, rfl⟩
  · exact .inl rfl
  · exact back_nil
  · exact inst_plain rfl
  · exact fun _ => rfl
  intro g18
  refine x_not rfl ?_
  refine xr_nil ⟨nofun, [(.t 0, _), (.t 1, _), (.t 19, _)], ⟨rfl, rfl, rfl, rfl, rfl, rfl, trivial⟩, ?_⟩
  refine xa_cond rfl (fun hc => ?_) (fun hc => ?_)
  · try simp only [decide_eq_true_eq, decide_eq_false_iff_not, Bool.not_eq_true', Bool.not_eq_false', bne_iff_ne, beq_iff_eq, ne_eq, Bool.not_true, Bool.not_false, beq_eq_false_iff_ne, bne_eq_false_iff_eq, Decidable.not_not, Int.not_lt, Int.not_le, Bool.and_eq_true, Bool.and_eq_false_iff, Bool.or_eq_true, Bool.or_eq_false_iff, List.length_map] at hc
    have hvc : ¬ vca xs ms = true := by simpa using hc
    refine xa_seq ?_
    refine xa_region ?_
    refine x_assign rfl rfl rfl ?_
    refine x_assign rfl rfl rfl ?_
    refine x_assign rfl rfl rfl ?_
    refine xr_nil ⟨nofun, [(.t 4, _), (.t 5, _), (.t 6, _)], ⟨rfl, rfl, rfl, rfl, rfl, rfl, trivial⟩, ?_⟩
    refine xa_ret ?_
    refine ret_tup (rl_val rfl rfl (rl_val rfl rfl (rl_val rfl rfl (rl_nil outs_nil)))) ?_
    rw [egT, if_neg hvc]
    rfl
  · try simp only [decide_eq_true_eq, decide_eq_false_iff_not, Bool.not_eq_true', Bool.not_eq_false', bne_iff_ne, beq_iff_eq, ne_eq, Bool.not_true, Bool.not_false, beq_eq_false_iff_ne, bne_eq_false_iff_eq, Decidable.not_not, Int.not_lt, Int.not_le, Bool.and_eq_true, Bool.and_eq_false_iff, Bool.or_eq_true, Bool.or_eq_false_iff, List.length_map] at hc
    have hvc : vca xs ms = true := by exact hc
    obtain ⟨h1, hl10, hxb, hml, hm⟩ := vca_iff.1 hvc
    obtain ⟨_, _, ⟨mx, rfl, rfl, hmx1, hmx2⟩, hCx⟩ := s_Max xs ⟨h1, by omega⟩
    have hmb := allB_mem hxb hmx1
    have hcl := compactI_length_le (sortI xs)
    rw [sortI_length] at hcl
    have hmxe := mxI_eq hmx1 hmx2
    subst hmxe
    refine xa_skip ?_
    refine xa_seq ?_
    refine xa_region ?_
    refine x_move rfl rfl ?_
    refine x_len_map rfl rfl ?_
    refine x_add rfl rfl (inI64 (by omega)) ?_
    refine x_assign rfl rfl rfl ?_
    refine x_assign rfl rfl rfl ?_
    refine x_assign rfl rfl rfl ?_
    refine xr_nil ⟨nofun, [(.t 0, _), (.t 1, _), (.t 7, _), (.t 8, _), (.t 9, _)], ⟨rfl, rfl, rfl, rfl, rfl, rfl, rfl, rfl, rfl, rfl, trivial⟩, ?_⟩
    refine xa_seq ?_
    refine xa_seq ?_
    refine xa_region ?_
    refine x_move rfl rfl ?_
    apply x_call rfl
    · apply pa_cons
      · exact pa_plain rfl
      exact pa_nil
    · exact s_valuesOf xs (by omega)
    · exact ⟨rfl, rfl, rfl, of_decide_eq_true rfl, rfl⟩
    · exact .inr ⟨by simp [hasList, hasListL], rfl⟩
    · exact back_nil
    · exact inst_own
    · exact fun _ => rfl
    intro g24
    simp only [List.length_map]
    refine x_move rfl rfl ?_
    apply x_call rfl
    · apply pa_cons
      · exact pa_plain rfl
      exact pa_nil
    · exact hCx
    · exact ⟨rfl, rfl, rfl, of_decide_eq_true rfl, rfl⟩
    · exact .inl rfl
    · exact back_nil
    · exact inst_plain rfl
    · exact fun _ => rfl
    intro g26
    refine x_add rfl rfl (inI64 (by omega)) ?_
    refine x_buildSlice (es := List.map iV [_]) rfl rfl (by decide) rfl rfl (fun _ => slot_obj (noRef_map fun _ => rfl)) (fun _ => rfl) ?_
    intro g28
    refine x_append_map rfl rfl rfl rfl (by simp) (by simp) (by decide) rfl rfl rfl rfl (by decide) (fun _ => ⟨rfl, rfl⟩) (by simp only [maxL]; (simp only [List.length_nil, List.length_cons, List.length_append, Nat.zero_add, List.length_map]; omega)) (fun _ => rfl) ?_
    intro g29
    rw [show compactI (sortI xs) ++ [mxI xs + 1] = edgesI xs (mxI xs) from rfl]
    refine x_len_sl rfl rfl ?_
    refine x_move rfl rfl ?_
    refine xr_nil ⟨nofun, [(.t 0, _), (.t 1, _), (.t 7, _), (.t 8, _), (.t 9, _), (.t 29, _), (.t 30, _), (.t 31, _), (.h 1000029, _)], ⟨rfl, rfl, rfl, rfl, rfl, rfl, rfl, rfl, rfl, rfl, rfl, rfl, rfl, rfl, rfl, rfl, rfl, rfl, trivial⟩, ?_⟩
    refine xa_block ?_
    have hel : (edgesI xs (mxI xs)).length ≤ 11 := by simp [edgesI]; omega
    refine xa_loopK (β := Nat × (Int × Int × Int)) [(.t 0, _), (.t 1, _), (.t 29, _), (.t 30, _), (.h 1000029, _)] (fun (z : Nat × (Int × Int × Int)) => match z with | (i, s) => [(.t 31, iV i), (.t 7, iV s.1), (.t 8, iV s.2.1), (.t 9, iV s.2.2)]) (fun (z : Nat × (Int × Int × Int)) => match z with | (i, s) => i ≤ (edgesI xs (mxI xs)).length ∧ s = ((edgesI xs (mxI xs)).take i).foldl (fE xs ms) (0, 0, (xs.length : Int) + 1)) (fun (z : Nat × (Int × Int × Int)) => match z with | (i, s) => (edgesI xs (mxI xs)).length - i) (0, (0, 0, (xs.length : Int) + 1)) ⟨rfl, rfl, rfl, rfl, rfl, rfl, rfl, rfl, rfl, trivial⟩ ⟨Nat.zero_le _, rfl⟩ ?_
    intro z hb
    obtain ⟨i, s⟩ := z
    try dsimp only at hb
    obtain ⟨hi1, hs⟩ := hb
    refine xa_seq ?_
    refine xa_region ?_
    refine x_lss rfl rfl ?_
    refine xr_nil ⟨nofun, [(.t 0, _), (.t 1, _), (.t 7, _), (.t 8, _), (.t 9, _), (.t 29, _), (.t 30, _), (.t 31, _), (.t 32, _), (.h 1000029, _)], ⟨rfl, rfl, rfl, rfl, rfl, rfl, rfl, rfl, rfl, rfl, rfl, rfl, rfl, rfl, rfl, rfl, rfl, rfl, rfl, rfl, trivial⟩, ?_⟩
    refine xa_seq ?_
    refine xa_cond rfl (fun hc => ?_) (fun hc => ?_)
    · try simp only [decide_eq_true_eq, decide_eq_false_iff_not, Bool.not_eq_true', Bool.not_eq_false', bne_iff_ne, beq_iff_eq, ne_eq, Bool.not_true, Bool.not_false, beq_eq_false_iff_ne, bne_eq_false_iff_eq, Decidable.not_not, Int.not_lt, Int.not_le, Bool.and_eq_true, Bool.and_eq_false_iff, Bool.or_eq_true, Bool.or_eq_false_iff, List.length_map] at hc
      refine xa_skip ?_
      refine xa_seq ?_
      refine xa_block ?_
      refine xa_seq ?_
      refine xa_region ?_
      refine x_index_slN rfl rfl rfl rfl (by omega) (by (simp; done)) rfl ?_
      refine x_load_mapV rfl rfl (by omega) (fun _ => rfl) (fun _ => rfl) rfl ?_
      refine x_assign rfl rfl rfl ?_
      refine xr_nil ⟨nofun, [(.t 0, _), (.t 1, _), (.t 7, _), (.t 8, _), (.t 9, _), (.t 11, _), (.t 29, _), (.t 30, _), (.t 31, _), (.h 1000029, _)], ⟨rfl, rfl, rfl, rfl, rfl, rfl, rfl, rfl, rfl, rfl, rfl, rfl, rfl, rfl, rfl, rfl, rfl, rfl, rfl, rfl, trivial⟩, ?_⟩
      refine xa_seq ?_
      refine xa_region ?_
      refine x_move rfl rfl ?_
      refine xr_nil ⟨nofun, [(.t 0, _), (.t 1, _), (.t 7, _), (.t 8, _), (.t 9, _), (.t 11, _), (.t 29, _), (.t 30, _), (.t 31, _), (.t 35, _), (.h 1000029, _)], ⟨rfl, rfl, rfl, rfl, rfl, rfl, rfl, rfl, rfl, rfl, rfl, rfl, rfl, rfl, rfl, rfl, rfl, rfl, rfl, rfl, rfl, rfl, trivial⟩, ?_⟩
      refine xa_block ?_
      refine xa_loopK (β := Nat × (Int × Int × Int)) [(.t 0, _), (.t 1, _), (.t 11, _), (.t 29, _), (.t 30, _), (.t 31, _), (.h 1000029, _)] (fun (z : Nat × (Int × Int × Int)) => match z with | (k, s2) => [(.t 35, iV k), (.t 7, iV s2.1), (.t 8, iV s2.2.1), (.t 9, iV s2.2.2)]) (fun (z : Nat × (Int × Int × Int)) => match z with | (k, s2) => k ≤ 2 ∧ s2 = stU xs ms s ((edgesI xs (mxI xs)).getD i default) k) (fun (z : Nat × (Int × Int × Int)) => match z with | (k, s2) => 2 - k) (0, s) ⟨rfl, rfl, rfl, rfl, rfl, rfl, rfl, rfl, rfl, rfl, rfl, trivial⟩ ⟨Nat.zero_le _, rfl⟩ ?_
      intro z hb
      obtain ⟨k, s2⟩ := z
      try dsimp only at hb
      obtain ⟨hk1, hs2⟩ := hb
      refine xa_seq ?_
      refine xa_region ?_
      refine x_lss rfl rfl ?_
      refine xr_nil ⟨nofun, [(.t 0, _), (.t 1, _), (.t 7, _), (.t 8, _), (.t 9, _), (.t 11, _), (.t 29, _), (.t 30, _), (.t 31, _), (.t 35, _), (.t 36, _), (.h 1000029, _)], ⟨rfl, rfl, rfl, rfl, rfl, rfl, rfl, rfl, rfl, rfl, rfl, rfl, rfl, rfl, rfl, rfl, rfl, rfl, rfl, rfl, rfl, rfl, rfl, rfl, trivial⟩, ?_⟩
      refine xa_seq ?_
      refine xa_cond rfl (fun hc => ?_) (fun hc => ?_)
      · try simp only [decide_eq_true_eq, decide_eq_false_iff_not, Bool.not_eq_true', Bool.not_eq_false', bne_iff_ne, beq_iff_eq, ne_eq, Bool.not_true, Bool.not_false, beq_eq_false_iff_ne, bne_eq_false_iff_eq, Decidable.not_not, Int.not_lt, Int.not_le, Bool.and_eq_true, Bool.and_eq_false_iff, Bool.or_eq_true, Bool.or_eq_false_iff, List.length_map] at hc
        refine xa_skip ?_
        refine xa_seq ?_
        refine xa_block ?_
        refine xa_seq ?_
        refine xa_region ?_
        refine x_move rfl rfl ?_
        refine x_assign rfl rfl rfl ?_
        refine xr_nil ⟨nofun, [(.t 0, _), (.t 1, _), (.t 7, _), (.t 8, _), (.t 9, _), (.t 11, _), (.t 12, _), (.t 29, _), (.t 30, _), (.t 31, _), (.t 35, _), (.h 1000029, _)], ⟨rfl, rfl, rfl, rfl, rfl, rfl, rfl, rfl, rfl, rfl, rfl, rfl, rfl, rfl, rfl, rfl, rfl, rfl, rfl, rfl, rfl, rfl, rfl, rfl, trivial⟩, ?_⟩
        refine xa_seq ?_
        refine xa_region ?_
        refine x_assign rfl rfl rfl ?_
        refine xr_nil ⟨nofun, [(.t 0, _), (.t 1, _), (.t 7, _), (.t 8, _), (.t 9, _), (.t 11, _), (.t 12, _), (.t 13, _), (.t 29, _), (.t 30, _), (.t 31, _), (.t 35, _), (.h 1000029, _)], ⟨rfl, rfl, rfl, rfl, rfl, rfl, rfl, rfl, rfl, rfl, rfl, rfl, rfl, rfl, rfl, rfl, rfl, rfl, rfl, rfl, rfl, rfl, rfl, rfl, rfl, rfl, trivial⟩, ?_⟩
        refine xa_seq ?_
        refine xa_seq ?_
        refine xa_region ?_
        refine x_move rfl rfl ?_
        refine x_len_map rfl rfl ?_
        refine x_move rfl rfl ?_
        refine xr_nil ⟨nofun, [(.t 0, _), (.t 1, _), (.t 7, _), (.t 8, _), (.t 9, _), (.t 11, _), (.t 12, _), (.t 13, _), (.t 29, _), (.t 30, _), (.t 31, _), (.t 35, _), (.t 38, _), (.t 39, _), (.t 40, _), (.h 1000029, _)], ⟨rfl, rfl, rfl, rfl, rfl, rfl, rfl, rfl, rfl, rfl, rfl, rfl, rfl, rfl, rfl, rfl, rfl, rfl, rfl, rfl, rfl, rfl, rfl, rfl, rfl, rfl, rfl, rfl, rfl, rfl, rfl, rfl, trivial⟩, ?_⟩
        refine xa_block ?_
        refine xa_loopK (β := Nat × Int) [(.t 0, _), (.t 1, _), (.t 7, _), (.t 8, _), (.t 9, _), (.t 11, _), (.t 12, _), (.t 29, _), (.t 30, _), (.t 31, _), (.t 35, _), (.t 38, _), (.t 39, _), (.h 1000029, _)] (fun (z : Nat × Int) => match z with | (q, n) => [(.t 40, iV q), (.t 13, iV n)]) (fun (z : Nat × Int) => match z with | (q, n) => q ≤ xs.length ∧ n = wEU xs ms ((edgesI xs (mxI xs)).getD i default) (k : Int) q) (fun (z : Nat × Int) => match z with | (q, n) => xs.length - q) (0, 0) ⟨rfl, rfl, rfl, rfl, rfl, rfl, rfl, rfl, rfl, rfl, rfl, rfl, rfl, rfl, rfl, rfl, trivial⟩ ⟨Nat.zero_le _, rfl⟩ ?_
        intro z hb
        obtain ⟨q, n⟩ := z
        try dsimp only at hb
        obtain ⟨hi1q, hn⟩ := hb
        have hwb := wEU_bd xs ms ((edgesI xs (mxI xs)).getD i default) (k : Int) q
        have hmi := fun h : q < ms.length => allB_iff.1 hm q h
        refine xa_seq ?_
        refine xa_region ?_
        refine x_lss rfl rfl ?_
        refine xr_nil ⟨nofun, [(.t 0, _), (.t 1, _), (.t 7, _), (.t 8, _), (.t 9, _), (.t 11, _), (.t 12, _), (.t 13, _), (.t 29, _), (.t 30, _), (.t 31, _), (.t 35, _), (.t 38, _), (.t 39, _), (.t 40, _), (.t 41, _), (.h 1000029, _)], ⟨rfl, rfl, rfl, rfl, rfl, rfl, rfl, rfl, rfl, rfl, rfl, rfl, rfl, rfl, rfl, rfl, rfl, rfl, rfl, rfl, rfl, rfl, rfl, rfl, rfl, rfl, rfl, rfl, rfl, rfl, rfl, rfl, rfl, rfl, trivial⟩, ?_⟩
        refine xa_seq ?_
        refine xa_cond rfl (fun hc => ?_) (fun hc => ?_)
        · try simp only [decide_eq_true_eq, decide_eq_false_iff_not, Bool.not_eq_true', Bool.not_eq_false', bne_iff_ne, beq_iff_eq, ne_eq, Bool.not_true, Bool.not_false, beq_eq_false_iff_ne, bne_eq_false_iff_eq, Decidable.not_not, Int.not_lt, Int.not_le, Bool.and_eq_true, Bool.and_eq_false_iff, Bool.or_eq_true, Bool.or_eq_false_iff, List.length_map] at hc
          refine xa_skip ?_
          refine xa_seq ?_
          refine xa_block ?_
          refine xa_seq ?_
          refine xa_region ?_
          refine x_move rfl rfl ?_
          refine x_index_listN rfl rfl rfl (fun _ => rfl) (by omega) ?_
          refine x_load_iptV rfl rfl rfl ?_
          refine x_assign rfl rfl rfl ?_
          refine x_assign rfl rfl rfl ?_
          refine xr_nil ⟨nofun, [(.t 0, _), (.t 1, _), (.t 7, _), (.t 8, _), (.t 9, _), (.t 11, _), (.t 12, _), (.t 13, _), (.t 14, _), (.t 15, _), (.t 29, _), (.t 30, _), (.t 31, _), (.t 35, _), (.t 38, _), (.t 39, _), (.t 40, _), (.h 1000029, _)], ⟨rfl, rfl, rfl, rfl, rfl, rfl, rfl, rfl, rfl, rfl, rfl, rfl, rfl, rfl, rfl, rfl, rfl, rfl, rfl, rfl, rfl, rfl, rfl, rfl, rfl, rfl, rfl, rfl, rfl, rfl, rfl, rfl, rfl, rfl, rfl, rfl, trivial⟩, ?_⟩
          refine xa_seq ?_
          refine xa_region ?_
          refine x_move rfl rfl ?_
          refine x_move rfl rfl ?_
          refine x_geq rfl rfl ?_
          refine x_move rfl rfl ?_
          refine x_move rfl rfl ?_
          refine x_index_listN rfl rfl rfl (fun _ => rfl) (by omega) ?_
          refine x_load_iptV rfl rfl rfl ?_
          refine x_move rfl rfl ?_
          refine x_eql rfl rfl ?_
          refine x_bne rfl rfl rfl ?_
          refine xr_nil ⟨nofun, [(.t 0, _), (.t 1, _), (.t 7, _), (.t 8, _), (.t 9, _), (.t 11, _), (.t 12, _), (.t 13, _), (.t 29, _), (.t 30, _), (.t 31, _), (.t 35, _), (.t 38, _), (.t 39, _), (.t 40, _), (.t 54, _), (.h 1000029, _)], ⟨rfl, rfl, rfl, rfl, rfl, rfl, rfl, rfl, rfl, rfl, rfl, rfl, rfl, rfl, rfl, rfl, rfl, rfl, rfl, rfl, rfl, rfl, rfl, rfl, rfl, rfl, rfl, rfl, rfl, rfl, rfl, rfl, rfl, rfl, trivial⟩, ?_⟩
          refine xa_cond rfl (fun hc => ?_) (fun hc => ?_)
          · try simp only [decide_eq_true_eq, decide_eq_false_iff_not, Bool.not_eq_true', Bool.not_eq_false', bne_iff_ne, beq_iff_eq, ne_eq, Bool.not_true, Bool.not_false, beq_eq_false_iff_ne, bne_eq_false_iff_eq, Decidable.not_not, Int.not_lt, Int.not_le, Bool.and_eq_true, Bool.and_eq_false_iff, Bool.or_eq_true, Bool.or_eq_false_iff, List.length_map] at hc
            try rw [Bool.eq_iff_iff] at hc
            try simp only [decide_eq_true_eq, beq_iff_eq] at hc
            refine xa_region ?_
            refine x_move rfl rfl ?_
            refine x_add rfl rfl (inI64 (by omega)) ?_
            refine x_assign rfl rfl rfl ?_
            refine xr_nil ⟨nofun, [(.t 0, _), (.t 1, _), (.t 7, _), (.t 8, _), (.t 9, _), (.t 11, _), (.t 12, _), (.t 13, _), (.t 29, _), (.t 30, _), (.t 31, _), (.t 35, _), (.t 38, _), (.t 39, _), (.t 40, _), (.h 1000029, _)], ⟨rfl, rfl, rfl, rfl, rfl, rfl, rfl, rfl, rfl, rfl, rfl, rfl, rfl, rfl, rfl, rfl, rfl, rfl, rfl, rfl, rfl, rfl, rfl, rfl, rfl, rfl, rfl, rfl, rfl, rfl, rfl, rfl, trivial⟩, ?_⟩
            refine xa_region ?_
            refine x_add rfl rfl (inI64 (by omega)) ?_
            refine x_move rfl rfl ?_
            refine xr_nil ⟨nofun, [(.t 0, _), (.t 1, _), (.t 7, _), (.t 8, _), (.t 9, _), (.t 11, _), (.t 12, _), (.t 13, _), (.t 29, _), (.t 30, _), (.t 31, _), (.t 35, _), (.t 38, _), (.t 39, _), (.t 40, _), (.h 1000029, _)], ⟨rfl, rfl, rfl, rfl, rfl, rfl, rfl, rfl, rfl, rfl, rfl, rfl, rfl, rfl, rfl, rfl, rfl, rfl, rfl, rfl, rfl, rfl, rfl, rfl, rfl, rfl, rfl, rfl, rfl, rfl, rfl, rfl, trivial⟩, ?_⟩
            refine ⟨(q + 1, n + 1), ?_, (by simp only; omega), ⟨rfl, rfl, rfl, rfl, rfl, rfl, rfl, rfl, rfl, rfl, rfl, rfl, rfl, rfl, rfl, rfl, trivial⟩⟩
            have hmi2 := hmi (by omega)
            exact ⟨by omega, by rw [wEU_ne (by exact hc), hn]⟩
          · try simp only [decide_eq_true_eq, decide_eq_false_iff_not, Bool.not_eq_true', Bool.not_eq_false', bne_iff_ne, beq_iff_eq, ne_eq, Bool.not_true, Bool.not_false, beq_eq_false_iff_ne, bne_eq_false_iff_eq, Decidable.not_not, Int.not_lt, Int.not_le, Bool.and_eq_true, Bool.and_eq_false_iff, Bool.or_eq_true, Bool.or_eq_false_iff, List.length_map] at hc
            try rw [Bool.eq_iff_iff] at hc
            try simp only [decide_eq_true_eq, beq_iff_eq] at hc
            refine xa_skip ?_
            refine xa_region ?_
            refine x_add rfl rfl (inI64 (by omega)) ?_
            refine x_move rfl rfl ?_
            refine xr_nil ⟨nofun, [(.t 0, _), (.t 1, _), (.t 7, _), (.t 8, _), (.t 9, _), (.t 11, _), (.t 12, _), (.t 13, _), (.t 29, _), (.t 30, _), (.t 31, _), (.t 35, _), (.t 38, _), (.t 39, _), (.t 40, _), (.h 1000029, _)], ⟨rfl, rfl, rfl, rfl, rfl, rfl, rfl, rfl, rfl, rfl, rfl, rfl, rfl, rfl, rfl, rfl, rfl, rfl, rfl, rfl, rfl, rfl, rfl, rfl, rfl, rfl, rfl, rfl, rfl, rfl, rfl, rfl, trivial⟩, ?_⟩
            refine ⟨(q + 1, n), ?_, (by simp only; omega), ⟨rfl, rfl, rfl, rfl, rfl, rfl, rfl, rfl, rfl, rfl, rfl, rfl, rfl, rfl, rfl, rfl, trivial⟩⟩
            have hmi2 := hmi (by omega)
            exact ⟨by omega, by rw [wEU_eq (by exact hc), hn]⟩
        · try simp only [decide_eq_true_eq, decide_eq_false_iff_not, Bool.not_eq_true', Bool.not_eq_false', bne_iff_ne, beq_iff_eq, ne_eq, Bool.not_true, Bool.not_false, beq_eq_false_iff_ne, bne_eq_false_iff_eq, Decidable.not_not, Int.not_lt, Int.not_le, Bool.and_eq_true, Bool.and_eq_false_iff, Bool.or_eq_true, Bool.or_eq_false_iff, List.length_map] at hc
          refine xa_exit ?_
          refine xa_seq ?_
          refine xa_region ?_
          refine x_move rfl rfl ?_
          refine x_move rfl rfl ?_
          refine x_lss rfl rfl ?_
          refine xr_nil ⟨nofun, [(.t 0, _), (.t 1, _), (.t 7, _), (.t 8, _), (.t 9, _), (.t 11, _), (.t 12, _), (.t 13, _), (.t 29, _), (.t 30, _), (.t 31, _), (.t 35, _), (.t 60, _), (.h 1000029, _)], ⟨rfl, rfl, rfl, rfl, rfl, rfl, rfl, rfl, rfl, rfl, rfl, rfl, rfl, rfl, rfl, rfl, rfl, rfl, rfl, rfl, rfl, rfl, rfl, rfl, rfl, rfl, rfl, rfl, trivial⟩, ?_⟩
          refine xa_cond rfl (fun hc => ?_) (fun hc => ?_)
          · try simp only [decide_eq_true_eq, decide_eq_false_iff_not, Bool.not_eq_true', Bool.not_eq_false', bne_iff_ne, beq_iff_eq, ne_eq, Bool.not_true, Bool.not_false, beq_eq_false_iff_ne, bne_eq_false_iff_eq, Decidable.not_not, Int.not_lt, Int.not_le, Bool.and_eq_true, Bool.and_eq_false_iff, Bool.or_eq_true, Bool.or_eq_false_iff, List.length_map] at hc
            refine xa_region ?_
            refine x_move rfl rfl ?_
            refine x_move rfl rfl ?_
            refine x_move rfl rfl ?_
            refine x_assign rfl rfl rfl ?_
            refine x_assign rfl rfl rfl ?_
            refine x_assign rfl rfl rfl ?_
            refine xr_nil ⟨nofun, [(.t 0, _), (.t 1, _), (.t 7, _), (.t 8, _), (.t 9, _), (.t 11, _), (.t 29, _), (.t 30, _), (.t 31, _), (.t 35, _), (.h 1000029, _)], ⟨rfl, rfl, rfl, rfl, rfl, rfl, rfl, rfl, rfl, rfl, rfl, rfl, rfl, rfl, rfl, rfl, rfl, rfl, rfl, rfl, rfl, rfl, trivial⟩, ?_⟩
            refine xa_region ?_
            refine x_add rfl rfl (inI64 (by omega)) ?_
            refine x_move rfl rfl ?_
            refine xr_nil ⟨nofun, [(.t 0, _), (.t 1, _), (.t 7, _), (.t 8, _), (.t 9, _), (.t 11, _), (.t 29, _), (.t 30, _), (.t 31, _), (.t 35, _), (.h 1000029, _)], ⟨rfl, rfl, rfl, rfl, rfl, rfl, rfl, rfl, rfl, rfl, rfl, rfl, rfl, rfl, rfl, rfl, rfl, rfl, rfl, rfl, rfl, rfl, trivial⟩, ?_⟩
            refine ⟨(k + 1, ((edgesI xs (mxI xs)).getD i default, (k : Int), n)), ?_, (by simp only; omega), ⟨rfl, rfl, rfl, rfl, rfl, rfl, rfl, rfl, rfl, rfl, rfl, trivial⟩⟩
            have hwn : n = wE xs ms ((edgesI xs (mxI xs)).getD i default) k := by rw [hn, show q = xs.length by omega, wEU_all]
            exact ⟨by omega, by rw [stU_lt (by rw [← hs2, ← hwn]; omega), hwn]⟩
          · try simp only [decide_eq_true_eq, decide_eq_false_iff_not, Bool.not_eq_true', Bool.not_eq_false', bne_iff_ne, beq_iff_eq, ne_eq, Bool.not_true, Bool.not_false, beq_eq_false_iff_ne, bne_eq_false_iff_eq, Decidable.not_not, Int.not_lt, Int.not_le, Bool.and_eq_true, Bool.and_eq_false_iff, Bool.or_eq_true, Bool.or_eq_false_iff, List.length_map] at hc
            refine xa_skip ?_
            refine xa_region ?_
            refine x_add rfl rfl (inI64 (by omega)) ?_
            refine x_move rfl rfl ?_
            refine xr_nil ⟨nofun, [(.t 0, _), (.t 1, _), (.t 7, _), (.t 8, _), (.t 9, _), (.t 11, _), (.t 29, _), (.t 30, _), (.t 31, _), (.t 35, _), (.h 1000029, _)], ⟨rfl, rfl, rfl, rfl, rfl, rfl, rfl, rfl, rfl, rfl, rfl, rfl, rfl, rfl, rfl, rfl, rfl, rfl, rfl, rfl, rfl, rfl, trivial⟩, ?_⟩
            refine ⟨(k + 1, s2), ?_, (by simp only; omega), ⟨rfl, rfl, rfl, rfl, rfl, rfl, rfl, rfl, rfl, rfl, rfl, trivial⟩⟩
            have hwn : n = wE xs ms ((edgesI xs (mxI xs)).getD i default) k := by rw [hn, show q = xs.length by omega, wEU_all]
            exact ⟨by omega, by rw [stU_ge (by rw [← hs2, ← hwn]; omega), hs2]⟩
      · try simp only [decide_eq_true_eq, decide_eq_false_iff_not, Bool.not_eq_true', Bool.not_eq_false', bne_iff_ne, beq_iff_eq, ne_eq, Bool.not_true, Bool.not_false, beq_eq_false_iff_ne, bne_eq_false_iff_eq, Decidable.not_not, Int.not_lt, Int.not_le, Bool.and_eq_true, Bool.and_eq_false_iff, Bool.or_eq_true, Bool.or_eq_false_iff, List.length_map] at hc
        refine xa_exit ?_
        refine xa_region ?_
        refine x_add rfl rfl (inI64 (by omega)) ?_
        refine x_move rfl rfl ?_
        refine xr_nil ⟨nofun, [(.t 0, _), (.t 1, _), (.t 7, _), (.t 8, _), (.t 9, _), (.t 29, _), (.t 30, _), (.t 31, _), (.h 1000029, _)], ⟨rfl, rfl, rfl, rfl, rfl, rfl, rfl, rfl, rfl, rfl, rfl, rfl, rfl, rfl, rfl, rfl, rfl, rfl, trivial⟩, ?_⟩
        refine ⟨(i + 1, s2), ?_, (by simp only; omega), ⟨rfl, rfl, rfl, rfl, rfl, rfl, rfl, rfl, rfl, trivial⟩⟩
        exact ⟨by omega, by rw [foldE_succ (by omega), ← hs, hs2, show k = 2 by omega]; rfl⟩
    · try simp only [decide_eq_true_eq, decide_eq_false_iff_not, Bool.not_eq_true', Bool.not_eq_false', bne_iff_ne, beq_iff_eq, ne_eq, Bool.not_true, Bool.not_false, beq_eq_false_iff_ne, bne_eq_false_iff_eq, Decidable.not_not, Int.not_lt, Int.not_le, Bool.and_eq_true, Bool.and_eq_false_iff, Bool.or_eq_true, Bool.or_eq_false_iff, List.length_map] at hc
      refine xa_exit ?_
      refine xa_seq ?_
      refine xa_region ?_
      refine x_move rfl rfl ?_
      refine x_move rfl rfl ?_
      refine x_move rfl rfl ?_
      refine x_assign rfl rfl rfl ?_
      refine x_assign rfl rfl rfl ?_
      refine x_assign rfl rfl rfl ?_
      refine xr_nil ⟨nofun, [(.t 4, _), (.t 5, _), (.t 6, _)], ⟨rfl, rfl, rfl, rfl, rfl, rfl, trivial⟩, ?_⟩
      refine xa_ret ?_
      refine ret_tup (rl_val rfl rfl (rl_val rfl rfl (rl_val rfl rfl (rl_nil outs_nil)))) ?_
      rw [egT, if_pos hvc, egR, hs, List.take_of_length_le (by omega)]
      rfl

theorem keep_s_edgeS : keepOf Try.f31 = [0, 1, 4, 5, 6, 17, 7, 11, 42, 12, 46, 10, 13, 59, 9, 8] := by kernel_rfl
set_option maxHeartbeats 20000000 in
theorem s_edgeS (xs ms : List Int) (hl : xs.length ≤ 1048576) (hl2 : ms.length ≤ 1048576) : CW cxT 31 [L xs, L ms] = some (.tup [iV (egT xs ms).1, iV (egT xs ms).2.1, iV (egT xs ms).2.2], []) := by
  refine fn_intro rfl Try.func31 rfl ⟨by kernel_rfl, rfl, of_decide_eq_true rfl, of_decide_eq_true rfl, by decide⟩ keep_s_edgeS ?_
  refine xa_seq ?_
  refine xa_region ?_
  refine x_assign rfl rfl rfl ?_
  refine x_assign rfl rfl rfl ?_
  refine x_assign rfl rfl rfl ?_
  refine xr_nil ⟨nofun, [(.t 0, _), (.t 1, _)], ⟨rfl, rfl, rfl, rfl, trivial⟩, ?_⟩
  refine xa_seq ?_
  refine xa_seq ?_
  refine xa_region ?_
  refine x_move rfl rfl ?_
  refine x_move rfl rfl ?_
  apply x_call rfl
  · apply pa_cons
    · exact pa_plain rfl
    apply pa_cons
    · exact pa_plain rfl
    exact pa_nil
  · exact s_validCases xs ms hl hl2
  · exact ⟨rfl, rfl, rfl, of_decide_eq_true rfl, rfl⟩
  · exact .inl rfl
  · exact back_nil
  · exact inst_plain rfl
  · exact fun _ => rfl
  intro g16
  refine x_not rfl ?_
  refine xr_nil ⟨nofun, [(.t 0, _), (.t 1, _), (.t 17, _)], ⟨rfl, rfl, rfl, rfl, rfl, rfl, trivial⟩, ?_⟩
  refine xa_cond rfl (fun hc => ?_) (fun hc => ?_)
  · try simp only [decide_eq_true_eq, decide_eq_false_iff_not, Bool.not_eq_true', Bool.not_eq_false', bne_iff_ne, beq_iff_eq, ne_eq, Bool.not_true, Bool.not_false, beq_eq_false_iff_ne, bne_eq_false_iff_eq, Decidable.not_not, Int.not_lt, Int.not_le, Bool.and_eq_true, Bool.and_eq_false_iff, Bool.or_eq_true, Bool.or_eq_false_iff, List.length_map] at hc
    have hvc : ¬ vca xs ms = true := by simpa using hc
    refine xa_seq ?_
    refine xa_region ?_
    refine x_assign rfl rfl rfl ?_
    refine x_assign rfl rfl rfl ?_
    refine x_assign rfl rfl rfl ?_
    refine xr_nil ⟨nofun, [(.t 4, _), (.t 5, _), (.t 6, _)], ⟨rfl, rfl, rfl, rfl, rfl, rfl, trivial⟩, ?_⟩
    refine xa_ret ?_
    refine ret_tup (rl_val rfl rfl (rl_val rfl rfl (rl_val rfl rfl (rl_nil outs_nil)))) ?_
    rw [egT, if_neg hvc]
    rfl
  · try simp only [decide_eq_true_eq, decide_eq_false_iff_not, Bool.not_eq_true', Bool.not_eq_false', bne_iff_ne, beq_iff_eq, ne_eq, Bool.not_true, Bool.not_false, beq_eq_false_iff_ne, bne_eq_false_iff_eq, Decidable.not_not, Int.not_lt, Int.not_le, Bool.and_eq_true, Bool.and_eq_false_iff, Bool.or_eq_true, Bool.or_eq_false_iff, List.length_map] at hc
    have hvc : vca xs ms = true := by exact hc
    obtain ⟨h1, hl10, hxb, hml, hm⟩ := vca_iff.1 hvc
    have hsl := sortI_length xs
    have hmxm := (mxI_spec h1).1
    have hmb := allB_mem hxb hmxm
    have hgl : (sortI xs).getD (xs.length - 1) default = mxI xs := rfl
    refine xa_skip ?_
    refine xa_seq ?_
    refine xa_region ?_
    refine x_move rfl rfl ?_
    apply x_call rfl
    · apply pa_cons
      · exact pa_plain rfl
      exact pa_nil
    · exact s_sortedS xs (by omega)
    · exact ⟨rfl, rfl, rfl, of_decide_eq_true rfl, rfl⟩
    · exact .inr ⟨by simp [hasList, hasListL], rfl⟩
    · exact back_nil
    · exact inst_own
    · exact fun _ => rfl
    intro g19
    simp only [List.length_map]
    (refine x_assign_own rfl rfl (by (simp; done)) rfl (fun _ => (slot_obj (by exact noRef_map fun _ => rfl))) (fun _ => rfl) ?_; intro g7)
    refine xr_nil ⟨nofun, [(.t 0, _), (.t 1, _), (.t 7, _), (.h 7, _)], ⟨rfl, rfl, rfl, rfl, rfl, rfl, rfl, rfl, trivial⟩, ?_⟩
    refine xa_seq ?_
    refine xa_region ?_
    refine x_move rfl rfl ?_
    refine x_move rfl rfl ?_
    refine x_move rfl rfl ?_
    refine x_len_sl rfl rfl ?_
    rw [hsl]
    refine x_sub rfl rfl (inI64 (by omega)) ?_
    rw [show ((xs.length : Int) - 1) = ((xs.length - 1 : Nat) : Int) by omega]
    refine x_index_slN rfl rfl rfl rfl (by omega) (by (simp; done)) rfl ?_
    refine x_load_mapV rfl rfl (by omega) (fun _ => rfl) (fun _ => rfl) rfl ?_
    rw [hgl]
    refine x_add rfl rfl (inI64 (by omega)) ?_
    refine x_buildSlice (es := List.map iV [_]) rfl rfl (by decide) rfl rfl (fun _ => slot_obj (noRef_map fun _ => rfl)) (fun _ => rfl) ?_
    intro g28
    refine x_append_map rfl rfl rfl rfl (by simp) (by simp) (by decide) rfl rfl rfl rfl (by decide) (fun _ => ⟨rfl, rfl⟩) (by simp only [maxL]; (simp only [List.length_nil, List.length_cons, List.length_append, Nat.zero_add, List.length_map]; omega)) (fun _ => rfl) ?_
    intro g29
    (refine x_assign_own rfl rfl (by (simp; done)) rfl (fun _ => (slot_obj (by exact noRef_map fun _ => rfl))) (fun _ => rfl) ?_; intro g7)
    refine xr_nil ⟨nofun, [(.t 0, _), (.t 1, _), (.t 7, _), (.h 7, _)], ⟨rfl, rfl, rfl, rfl, rfl, rfl, rfl, rfl, trivial⟩, ?_⟩
    refine xa_seq ?_
    refine xa_region ?_
    refine x_move rfl rfl ?_
    refine x_index_slN rfl rfl rfl rfl (by (simp; done)) (by (simp; done)) rfl ?_
    refine x_load_mapV rfl rfl (by (simp; done)) (fun _ => rfl) (fun _ => rfl) rfl ?_
    refine x_assign rfl rfl rfl ?_
    refine xr_nil ⟨nofun, [(.t 0, _), (.t 1, _), (.t 7, _), (.t 8, _), (.h 7, _)], ⟨rfl, rfl, rfl, rfl, rfl, rfl, rfl, rfl, rfl, rfl, trivial⟩, ?_⟩
    refine xa_seq ?_
    refine xa_region ?_
    refine x_assign rfl rfl rfl ?_
    refine xr_nil ⟨nofun, [(.t 0, _), (.t 1, _), (.t 7, _), (.t 8, _), (.t 9, _), (.h 7, _)], ⟨rfl, rfl, rfl, rfl, rfl, rfl, rfl, rfl, rfl, rfl, rfl, rfl, trivial⟩, ?_⟩
    refine xa_seq ?_
    refine xa_region ?_
    obtain ⟨a, ha⟩ : ∃ a, a = (sortI xs ++ [mxI xs + 1]).getD 0 default := ⟨_, rfl⟩
    rw [← ha]
    refine x_move rfl rfl ?_
    refine x_move rfl rfl ?_
    refine x_move rfl rfl ?_
    refine x_index_slN rfl rfl rfl rfl (by (simp; done)) (by (simp; done)) rfl ?_
    refine x_load_mapV rfl rfl (by (simp; done)) (fun _ => rfl) (fun _ => rfl) rfl ?_
    rw [← ha]
    apply x_call rfl
    · apply pa_cons
      · exact pa_plain rfl
      apply pa_cons
      · exact pa_plain rfl
      apply pa_cons
      · exact pa_plain rfl
      apply pa_cons
      · exact pa_plain rfl
      exact pa_nil
    · exact s_wrongAt xs ms hl10 hml hm _ 0 (.inl rfl)
    · exact ⟨rfl, rfl, rfl, of_decide_eq_true rfl, rfl⟩
    · exact .inl rfl
    · exact back_nil
    · exact inst_plain rfl
    · exact fun _ => rfl
    intro g38
    refine x_assign rfl rfl rfl ?_
    refine xr_nil ⟨nofun, [(.t 0, _), (.t 1, _), (.t 7, _), (.t 8, _), (.t 9, _), (.t 10, _), (.h 7, _)], ⟨rfl, rfl, rfl, rfl, rfl, rfl, rfl, rfl, rfl, rfl, rfl, rfl, rfl, rfl, trivial⟩, ?_⟩
    refine xa_seq ?_
    refine xa_seq ?_
    refine xa_region ?_
    refine x_assign rfl rfl rfl ?_
    refine xr_nil ⟨nofun, [(.t 0, _), (.t 1, _), (.t 7, _), (.t 8, _), (.t 9, _), (.t 10, _), (.t 11, _), (.h 7, _)], ⟨rfl, rfl, rfl, rfl, rfl, rfl, rfl, rfl, rfl, rfl, rfl, rfl, rfl, rfl, rfl, rfl, trivial⟩, ?_⟩
    refine xa_block ?_
    have hel : (sortI xs ++ [mxI xs + 1]).length ≤ 11 := by simp; omega
    refine xa_loopK (β := Nat × (Int × Int × Int)) [(.t 0, _), (.t 1, _), (.t 7, _), (.h 7, _)] (fun (z : Nat × (Int × Int × Int)) => match z with | (i, s) => [(.t 11, iV i), (.t 8, iV s.1), (.t 9, iV s.2.1), (.t 10, iV s.2.2)]) (fun (z : Nat × (Int × Int × Int)) => match z with | (i, s) => i ≤ (sortI xs ++ [mxI xs + 1]).length ∧ s = ((sortI xs ++ [mxI xs + 1]).take i).foldl (fE xs ms) (a, 0, wE xs ms a 0)) (fun (z : Nat × (Int × Int × Int)) => match z with | (i, s) => (sortI xs ++ [mxI xs + 1]).length - i) (0, (a, 0, wE xs ms a 0)) ⟨rfl, rfl, rfl, rfl, rfl, rfl, rfl, rfl, trivial⟩ ⟨Nat.zero_le _, rfl⟩ ?_
    intro z hb
    obtain ⟨i, s⟩ := z
    try dsimp only at hb
    obtain ⟨hi1, hs⟩ := hb
    refine xa_seq ?_
    refine xa_seq ?_
    refine xa_region ?_
    refine x_move rfl rfl ?_
    refine x_move rfl rfl ?_
    refine x_len_sl rfl rfl ?_
    refine x_lss rfl rfl ?_
    refine xr_nil ⟨nofun, [(.t 0, _), (.t 1, _), (.t 7, _), (.t 8, _), (.t 9, _), (.t 10, _), (.t 11, _), (.t 42, _), (.h 7, _)], ⟨rfl, rfl, rfl, rfl, rfl, rfl, rfl, rfl, rfl, rfl, rfl, rfl, rfl, rfl, rfl, rfl, rfl, rfl, trivial⟩, ?_⟩
    refine xa_cond rfl (fun hc => ?_) (fun hc => ?_)
    · try simp only [decide_eq_true_eq, decide_eq_false_iff_not, Bool.not_eq_true', Bool.not_eq_false', bne_iff_ne, beq_iff_eq, ne_eq, Bool.not_true, Bool.not_false, beq_eq_false_iff_ne, bne_eq_false_iff_eq, Decidable.not_not, Int.not_lt, Int.not_le, Bool.and_eq_true, Bool.and_eq_false_iff, Bool.or_eq_true, Bool.or_eq_false_iff, List.length_map] at hc
      refine xa_skip ?_
      refine xa_seq ?_
      refine xa_block ?_
      refine xa_seq ?_
      refine xa_region ?_
      refine x_assign rfl rfl rfl ?_
      refine xr_nil ⟨nofun, [(.t 0, _), (.t 1, _), (.t 7, _), (.t 8, _), (.t 9, _), (.t 10, _), (.t 11, _), (.t 12, _), (.h 7, _)], ⟨rfl, rfl, rfl, rfl, rfl, rfl, rfl, rfl, rfl, rfl, rfl, rfl, rfl, rfl, rfl, rfl, rfl, rfl, trivial⟩, ?_⟩
      refine xa_block ?_
      refine xa_loopK (β := Nat × (Int × Int × Int)) [(.t 0, _), (.t 1, _), (.t 7, _), (.t 11, _), (.h 7, _)] (fun (z : Nat × (Int × Int × Int)) => match z with | (k, s2) => [(.t 12, iV k), (.t 8, iV s2.1), (.t 9, iV s2.2.1), (.t 10, iV s2.2.2)]) (fun (z : Nat × (Int × Int × Int)) => match z with | (k, s2) => k ≤ 2 ∧ s2 = stU xs ms s ((sortI xs ++ [mxI xs + 1]).getD i default) k) (fun (z : Nat × (Int × Int × Int)) => match z with | (k, s2) => 2 - k) (0, s) ⟨rfl, rfl, rfl, rfl, rfl, rfl, rfl, rfl, rfl, trivial⟩ ⟨Nat.zero_le _, rfl⟩ ?_
      intro z hb
      obtain ⟨k, s2⟩ := z
      try dsimp only at hb
      obtain ⟨hk1, hs2⟩ := hb
      refine xa_seq ?_
      refine xa_seq ?_
      refine xa_region ?_
      refine x_move rfl rfl ?_
      refine x_lss rfl rfl ?_
      refine xr_nil ⟨nofun, [(.t 0, _), (.t 1, _), (.t 7, _), (.t 8, _), (.t 9, _), (.t 10, _), (.t 11, _), (.t 12, _), (.t 46, _), (.h 7, _)], ⟨rfl, rfl, rfl, rfl, rfl, rfl, rfl, rfl, rfl, rfl, rfl, rfl, rfl, rfl, rfl, rfl, rfl, rfl, rfl, rfl, trivial⟩, ?_⟩
      refine xa_cond rfl (fun hc => ?_) (fun hc => ?_)
      · try simp only [decide_eq_true_eq, decide_eq_false_iff_not, Bool.not_eq_true', Bool.not_eq_false', bne_iff_ne, beq_iff_eq, ne_eq, Bool.not_true, Bool.not_false, beq_eq_false_iff_ne, bne_eq_false_iff_eq, Decidable.not_not, Int.not_lt, Int.not_le, Bool.and_eq_true, Bool.and_eq_false_iff, Bool.or_eq_true, Bool.or_eq_false_iff, List.length_map] at hc
        refine xa_skip ?_
        refine xa_seq ?_
        refine xa_block ?_
        refine xa_seq ?_
        refine xa_region ?_
        refine x_move rfl rfl ?_
        refine x_move rfl rfl ?_
        refine x_move rfl rfl ?_
        refine x_move rfl rfl ?_
        refine x_index_slN rfl rfl rfl rfl (by omega) (by (simp; done)) rfl ?_
        refine x_load_mapV rfl rfl (by omega) (fun _ => rfl) (fun _ => rfl) rfl ?_
        refine x_move rfl rfl ?_
        apply x_call rfl
        · apply pa_cons
          · exact pa_plain rfl
          apply pa_cons
          · exact pa_plain rfl
          apply pa_cons
          · exact pa_plain rfl
          apply pa_cons
          · exact pa_plain rfl
          exact pa_nil
        · exact s_wrongAt xs ms hl10 hml hm _ (k : Int) (by omega)
        · exact ⟨rfl, rfl, rfl, of_decide_eq_true rfl, rfl⟩
        · exact .inl rfl
        · exact back_nil
        · exact inst_plain rfl
        · exact fun _ => rfl
        intro g56
        refine x_assign rfl rfl rfl ?_
        refine xr_nil ⟨nofun, [(.t 0, _), (.t 1, _), (.t 7, _), (.t 8, _), (.t 9, _), (.t 10, _), (.t 11, _), (.t 12, _), (.t 13, _), (.h 7, _)], ⟨rfl, rfl, rfl, rfl, rfl, rfl, rfl, rfl, rfl, rfl, rfl, rfl, rfl, rfl, rfl, rfl, rfl, rfl, rfl, rfl, trivial⟩, ?_⟩
        refine xa_seq ?_
        refine xa_region ?_
        refine x_move rfl rfl ?_
        refine x_move rfl rfl ?_
        refine x_lss rfl rfl ?_
        refine xr_nil ⟨nofun, [(.t 0, _), (.t 1, _), (.t 7, _), (.t 8, _), (.t 9, _), (.t 10, _), (.t 11, _), (.t 12, _), (.t 13, _), (.t 59, _), (.h 7, _)], ⟨rfl, rfl, rfl, rfl, rfl, rfl, rfl, rfl, rfl, rfl, rfl, rfl, rfl, rfl, rfl, rfl, rfl, rfl, rfl, rfl, rfl, rfl, trivial⟩, ?_⟩
        refine xa_cond rfl (fun hc => ?_) (fun hc => ?_)
        · try simp only [decide_eq_true_eq, decide_eq_false_iff_not, Bool.not_eq_true', Bool.not_eq_false', bne_iff_ne, beq_iff_eq, ne_eq, Bool.not_true, Bool.not_false, beq_eq_false_iff_ne, bne_eq_false_iff_eq, Decidable.not_not, Int.not_lt, Int.not_le, Bool.and_eq_true, Bool.and_eq_false_iff, Bool.or_eq_true, Bool.or_eq_false_iff, List.length_map] at hc
          refine xa_seq ?_
          refine xa_region ?_
          refine x_move rfl rfl ?_
          refine x_move rfl rfl ?_
          refine x_index_slN rfl rfl rfl rfl (by omega) (by (simp; done)) rfl ?_
          refine x_load_mapV rfl rfl (by omega) (fun _ => rfl) (fun _ => rfl) rfl ?_
          refine x_assign rfl rfl rfl ?_
          refine xr_nil ⟨nofun, [(.t 0, _), (.t 1, _), (.t 7, _), (.t 8, _), (.t 11, _), (.t 12, _), (.t 13, _), (.h 7, _)], ⟨rfl, rfl, rfl, rfl, rfl, rfl, rfl, rfl, rfl, rfl, rfl, rfl, rfl, rfl, rfl, rfl, trivial⟩, ?_⟩
          refine xa_seq ?_
          refine xa_region ?_
          refine x_move rfl rfl ?_
          refine x_assign rfl rfl rfl ?_
          refine xr_nil ⟨nofun, [(.t 0, _), (.t 1, _), (.t 7, _), (.t 8, _), (.t 9, _), (.t 11, _), (.t 12, _), (.t 13, _), (.h 7, _)], ⟨rfl, rfl, rfl, rfl, rfl, rfl, rfl, rfl, rfl, rfl, rfl, rfl, rfl, rfl, rfl, rfl, rfl, rfl, trivial⟩, ?_⟩
          refine xa_region ?_
          refine x_move rfl rfl ?_
          refine x_assign rfl rfl rfl ?_
          refine xr_nil ⟨nofun, [(.t 0, _), (.t 1, _), (.t 7, _), (.t 8, _), (.t 9, _), (.t 10, _), (.t 11, _), (.t 12, _), (.h 7, _)], ⟨rfl, rfl, rfl, rfl, rfl, rfl, rfl, rfl, rfl, rfl, rfl, rfl, rfl, rfl, rfl, rfl, rfl, rfl, trivial⟩, ?_⟩
          refine xa_region ?_
          refine x_move rfl rfl ?_
          refine x_add rfl rfl (inI64 (by omega)) ?_
          refine x_assign rfl rfl rfl ?_
          refine xr_nil ⟨nofun, [(.t 0, _), (.t 1, _), (.t 7, _), (.t 8, _), (.t 9, _), (.t 10, _), (.t 11, _), (.t 12, _), (.h 7, _)], ⟨rfl, rfl, rfl, rfl, rfl, rfl, rfl, rfl, rfl, rfl, rfl, rfl, rfl, rfl, rfl, rfl, rfl, rfl, trivial⟩, ?_⟩
          refine ⟨(k + 1, ((sortI xs ++ [mxI xs + 1]).getD i default, (k : Int), wE xs ms ((sortI xs ++ [mxI xs + 1]).getD i default) k)), ?_, (by simp only; omega), ⟨rfl, rfl, rfl, rfl, rfl, rfl, rfl, rfl, rfl, trivial⟩⟩
          exact ⟨by omega, by rw [stU_lt (by rw [← hs2]; omega)]⟩
        · try simp only [decide_eq_true_eq, decide_eq_false_iff_not, Bool.not_eq_true', Bool.not_eq_false', bne_iff_ne, beq_iff_eq, ne_eq, Bool.not_true, Bool.not_false, beq_eq_false_iff_ne, bne_eq_false_iff_eq, Decidable.not_not, Int.not_lt, Int.not_le, Bool.and_eq_true, Bool.and_eq_false_iff, Bool.or_eq_true, Bool.or_eq_false_iff, List.length_map] at hc
          refine xa_skip ?_
          refine xa_region ?_
          refine x_move rfl rfl ?_
          refine x_add rfl rfl (inI64 (by omega)) ?_
          refine x_assign rfl rfl rfl ?_
          refine xr_nil ⟨nofun, [(.t 0, _), (.t 1, _), (.t 7, _), (.t 8, _), (.t 9, _), (.t 10, _), (.t 11, _), (.t 12, _), (.h 7, _)], ⟨rfl, rfl, rfl, rfl, rfl, rfl, rfl, rfl, rfl, rfl, rfl, rfl, rfl, rfl, rfl, rfl, rfl, rfl, trivial⟩, ?_⟩
          refine ⟨(k + 1, s2), ?_, (by simp only; omega), ⟨rfl, rfl, rfl, rfl, rfl, rfl, rfl, rfl, rfl, trivial⟩⟩
          exact ⟨by omega, by rw [stU_ge (by rw [← hs2]; omega), hs2]⟩
      · try simp only [decide_eq_true_eq, decide_eq_false_iff_not, Bool.not_eq_true', Bool.not_eq_false', bne_iff_ne, beq_iff_eq, ne_eq, Bool.not_true, Bool.not_false, beq_eq_false_iff_ne, bne_eq_false_iff_eq, Decidable.not_not, Int.not_lt, Int.not_le, Bool.and_eq_true, Bool.and_eq_false_iff, Bool.or_eq_true, Bool.or_eq_false_iff, List.length_map] at hc
        refine xa_exit ?_
        refine xa_region ?_
        refine x_move rfl rfl ?_
        refine x_add rfl rfl (inI64 (by omega)) ?_
        refine x_assign rfl rfl rfl ?_
        refine xr_nil ⟨nofun, [(.t 0, _), (.t 1, _), (.t 7, _), (.t 8, _), (.t 9, _), (.t 10, _), (.t 11, _), (.h 7, _)], ⟨rfl, rfl, rfl, rfl, rfl, rfl, rfl, rfl, rfl, rfl, rfl, rfl, rfl, rfl, rfl, rfl, trivial⟩, ?_⟩
        refine ⟨(i + 1, s2), ?_, (by simp only; omega), ⟨rfl, rfl, rfl, rfl, rfl, rfl, rfl, rfl, trivial⟩⟩
        exact ⟨by omega, by rw [foldE_succ (by omega), ← hs, hs2, show k = 2 by omega]; rfl⟩
    · try simp only [decide_eq_true_eq, decide_eq_false_iff_not, Bool.not_eq_true', Bool.not_eq_false', bne_iff_ne, beq_iff_eq, ne_eq, Bool.not_true, Bool.not_false, beq_eq_false_iff_ne, bne_eq_false_iff_eq, Decidable.not_not, Int.not_lt, Int.not_le, Bool.and_eq_true, Bool.and_eq_false_iff, Bool.or_eq_true, Bool.or_eq_false_iff, List.length_map] at hc
      refine xa_exit ?_
      refine xa_seq ?_
      refine xa_region ?_
      refine x_move rfl rfl ?_
      refine x_move rfl rfl ?_
      refine x_move rfl rfl ?_
      refine x_assign rfl rfl rfl ?_
      refine x_assign rfl rfl rfl ?_
      refine x_assign rfl rfl rfl ?_
      refine xr_nil ⟨nofun, [(.t 4, _), (.t 5, _), (.t 6, _)], ⟨rfl, rfl, rfl, rfl, rfl, rfl, trivial⟩, ?_⟩
      refine xa_ret ?_
      refine ret_tup (rl_val rfl rfl (rl_val rfl rfl (rl_val rfl rfl (rl_nil outs_nil)))) ?_
      have hse : ∃ s, sortI xs = a :: s := by
        cases hxs : sortI xs with
        | nil => rw [hxs] at hsl; simp at hsl; omega
        | cons b t => exact ⟨t, by rw [ha, hxs]; rfl⟩
      obtain ⟨s3, hs3⟩ := hse
      rw [egT, if_pos hvc, egR, edgesI, edge_eq (mxI xs + 1) hs3, hs, List.take_of_length_le (by omega)]
      rfl

theorem keep_s_FnEdgeOf : keepOf Try.f8 = [0, 2, 16, 4, 3, 7, 10, 9, 6, 8, 5, 52, 12, 69, 79, 13, 86, 11] := by kernel_rfl
set_option maxHeartbeats 20000000 in
theorem s_FnEdgeOf (bs : List Int) (hbs : Bytes bs) : CW cxT 8 [.list (bs.map uV)] = some (bV true, []) := by
  refine fn_intro rfl Try.func8 rfl ⟨by kernel_rfl, rfl, of_decide_eq_true rfl, of_decide_eq_true rfl, by decide⟩ keep_s_FnEdgeOf ?_
  refine xa_seq ?_
  refine xa_region ?_
  refine x_assign rfl rfl rfl ?_
  refine xr_nil ⟨nofun, [(.t 0, _)], ⟨rfl, rfl, trivial⟩, ?_⟩
  refine xa_seq ?_
  refine xa_seq ?_
  refine xa_region ?_
  refine x_move rfl rfl ?_
  refine x_len_map rfl rfl ?_
  refine x_gtr rfl rfl ?_
  refine xr_nil ⟨nofun, [(.t 0, _), (.t 16, _)], ⟨rfl, rfl, rfl, rfl, trivial⟩, ?_⟩
  refine xa_cond rfl (fun hc => ?_) (fun hc => ?_)
  · try simp only [decide_eq_true_eq, decide_eq_false_iff_not, Bool.not_eq_true', Bool.not_eq_false', bne_iff_ne, beq_iff_eq, ne_eq, Bool.not_true, Bool.not_false, beq_eq_false_iff_ne, bne_eq_false_iff_eq, Decidable.not_not, Int.not_lt, Int.not_le, Bool.and_eq_true, Bool.and_eq_false_iff, Bool.or_eq_true, Bool.or_eq_false_iff, List.length_map] at hc
    refine xa_seq ?_
    refine xa_region ?_
    refine x_assign rfl rfl rfl ?_
    refine xr_nil ⟨nofun, [(.t 2, _)], ⟨rfl, rfl, trivial⟩, ?_⟩
    refine xa_ret ?_
    refine ret_val' rfl rfl trivial ?_
    rfl
  · try simp only [decide_eq_true_eq, decide_eq_false_iff_not, Bool.not_eq_true', Bool.not_eq_false', bne_iff_ne, beq_iff_eq, ne_eq, Bool.not_true, Bool.not_false, beq_eq_false_iff_ne, bne_eq_false_iff_eq, Decidable.not_not, Int.not_lt, Int.not_le, Bool.and_eq_true, Bool.and_eq_false_iff, Bool.or_eq_true, Bool.or_eq_false_iff, List.length_map] at hc
    refine xa_skip ?_
    refine xa_seq ?_
    refine xa_region ?_
    have hl2 : bs.length ≤ 1048576 := by omega
    refine x_move rfl rfl ?_
    obtain ⟨_, _, ⟨xs, ms, rfl, rfl, hx21, hm22⟩, hC1⟩ := s_drawEdgeOf bs hbs hl2
    have hl : xs.length ≤ 1048576 := by omega
    have hlm : ms.length ≤ 1048576 := by omega
    have hr0 := coR_len xs ms 0
    have hr1 := coR_len xs ms 1
    apply x_call rfl
    · apply pa_cons
      · exact pa_plain rfl
      exact pa_nil
    · exact hC1
    · exact ⟨rfl, rfl, rfl, of_decide_eq_true rfl, rfl⟩
    · exact .inl rfl
    · exact back_nil
    · exact inst_tupL (il_own fun _ => il_own fun _ => il_nil)
    · exact fun _ => rfl
    intro g19
    simp only [List.length_map]
    refine x_move rfl rfl ?_
    refine x_extract rfl rfl rfl ?_
    refine x_extract rfl rfl rfl ?_
    (refine x_assign_own rfl rfl (by (simp; done)) rfl (fun _ => (slot_obj (by exact noRef_map fun _ => rfl))) (fun _ => rfl) ?_; intro g3)
    (refine x_assign_own rfl rfl (by (simp; done)) rfl (fun _ => (slot_obj (by exact noRef_map fun _ => rfl))) (fun _ => rfl) ?_; intro g4)
    refine xr_nil ⟨nofun, [(.t 3, _), (.t 4, _), (.h 3, _), (.h 4, _)], ⟨rfl, rfl, rfl, rfl, rfl, rfl, rfl, rfl, trivial⟩, ?_⟩
    refine xa_seq ?_
    refine xa_region ?_
    refine x_move rfl rfl ?_
    refine x_move rfl rfl ?_
    apply x_call rfl
    · apply pa_cons
      · exact pa_lend_map rfl rfl rfl (by (simp; done)) (fun _ => rfl)
      apply pa_cons
      · exact pa_lend_map rfl rfl rfl (by (simp; done)) (fun _ => rfl)
      exact pa_nil
    · exact s_edgeI xs ms hl hlm
    · exact ⟨rfl, rfl, rfl, of_decide_eq_true rfl, rfl⟩
    · exact .inr ⟨rfl, rfl⟩
    · exact back_nil
    · exact inst_tup rfl
    · exact fun _ => rfl
    intro g25
    refine x_move rfl rfl ?_
    refine x_extract rfl rfl rfl ?_
    refine x_extract rfl rfl rfl ?_
    refine x_extract rfl rfl rfl ?_
    refine x_assign rfl rfl rfl ?_
    refine x_assign rfl rfl rfl ?_
    refine x_assign rfl rfl rfl ?_
    refine xr_nil ⟨nofun, [(.t 3, _), (.t 4, _), (.t 5, _), (.t 6, _), (.t 7, _), (.h 3, _), (.h 4, _)], ⟨rfl, rfl, rfl, rfl, rfl, rfl, rfl, rfl, rfl, rfl, rfl, rfl, rfl, rfl, trivial⟩, ?_⟩
    refine xa_seq ?_
    refine xa_region ?_
    refine x_move rfl rfl ?_
    refine x_move rfl rfl ?_
    apply x_call rfl
    · apply pa_cons
      · exact pa_lend_map rfl rfl rfl (by (simp; done)) (fun _ => rfl)
      apply pa_cons
      · exact pa_lend_map rfl rfl rfl (by (simp; done)) (fun _ => rfl)
      exact pa_nil
    · exact s_edgeS xs ms hl hlm
    · exact ⟨rfl, rfl, rfl, of_decide_eq_true rfl, rfl⟩
    · exact .inr ⟨rfl, rfl⟩
    · exact back_nil
    · exact inst_tup rfl
    · exact fun _ => rfl
    intro g32
    refine x_move rfl rfl ?_
    refine x_extract rfl rfl rfl ?_
    refine x_extract rfl rfl rfl ?_
    refine x_extract rfl rfl rfl ?_
    refine x_assign rfl rfl rfl ?_
    refine x_assign rfl rfl rfl ?_
    refine x_assign rfl rfl rfl ?_
    refine xr_nil ⟨nofun, [(.t 3, _), (.t 4, _), (.t 5, _), (.t 6, _), (.t 7, _), (.t 8, _), (.t 9, _), (.t 10, _), (.h 3, _), (.h 4, _)], ⟨rfl, rfl, rfl, rfl, rfl, rfl, rfl, rfl, rfl, rfl, rfl, rfl, rfl, rfl, rfl, rfl, rfl, rfl, rfl, rfl, trivial⟩, ?_⟩
    refine xa_seq ?_
    refine xa_seq ?_
    refine xa_region ?_
    refine x_move rfl rfl ?_
    refine x_move rfl rfl ?_
    refine x_neq rfl rfl ?_
    simp only [bne_self_eq_false]
    refine x_move rfl rfl ?_
    refine x_guard_t rfl rfl (by rfl) ?_
    refine x_move rfl rfl ?_
    refine x_guard_t rfl rfl (by rfl) ?_
    refine x_move rfl rfl ?_
    refine x_guard_t rfl rfl (by rfl) ?_
    refine x_neq rfl rfl ?_
    refine x_pick_f rfl (by rfl) rfl rfl ?_
    simp only [bne_self_eq_false]
    refine x_move rfl rfl ?_
    refine x_guard_t rfl rfl (by rfl) ?_
    refine x_move rfl rfl ?_
    refine x_guard_t rfl rfl (by rfl) ?_
    refine x_move rfl rfl ?_
    refine x_guard_t rfl rfl (by rfl) ?_
    refine x_neq rfl rfl ?_
    refine x_pick_f rfl (by rfl) rfl rfl ?_
    simp only [bne_self_eq_false]
    refine x_move rfl rfl ?_
    refine x_guard_t rfl rfl (by rfl) ?_
    refine x_move rfl rfl ?_
    refine x_guard_t rfl rfl (by rfl) ?_
    refine x_lss rfl rfl ?_
    refine x_pick_f rfl (by rfl) rfl rfl ?_
    refine xr_nil ⟨nofun, [(.t 3, _), (.t 4, _), (.t 5, _), (.t 6, _), (.t 7, _), (.t 8, _), (.t 9, _), (.t 10, _), (.t 52, _), (.h 3, _), (.h 4, _)], ⟨rfl, rfl, rfl, rfl, rfl, rfl, rfl, rfl, rfl, rfl, rfl, rfl, rfl, rfl, rfl, rfl, rfl, rfl, rfl, rfl, rfl, rfl, trivial⟩, ?_⟩
    refine xa_cond rfl (fun hc => ?_) (fun hc => ?_)
    · try simp only [decide_eq_true_eq, decide_eq_false_iff_not, Bool.not_eq_true', Bool.not_eq_false', bne_iff_ne, beq_iff_eq, ne_eq, Bool.not_true, Bool.not_false, beq_eq_false_iff_ne, bne_eq_false_iff_eq, Decidable.not_not, Int.not_lt, Int.not_le, Bool.and_eq_true, Bool.and_eq_false_iff, Bool.or_eq_true, Bool.or_eq_false_iff, List.length_map] at hc
      refine xa_seq ?_
      refine xa_region ?_
      refine x_move rfl rfl ?_
      refine x_move rfl rfl ?_
      refine x_eql rfl rfl ?_
      simp only [beq_self_eq_true]
      refine x_move rfl rfl ?_
      refine x_guard_t rfl rfl (by rfl) ?_
      refine x_move rfl rfl ?_
      refine x_guard_t rfl rfl (by rfl) ?_
      refine x_move rfl rfl ?_
      refine x_guard_t rfl rfl (by rfl) ?_
      refine x_eql rfl rfl ?_
      refine x_pick_t rfl (by rfl) rfl rfl ?_
      simp only [beq_self_eq_true]
      refine x_move rfl rfl ?_
      refine x_guard_t rfl rfl (by rfl) ?_
      refine x_move rfl rfl ?_
      refine x_guard_t rfl rfl (by rfl) ?_
      refine x_move rfl rfl ?_
      refine x_guard_t rfl rfl (by rfl) ?_
      refine x_eql rfl rfl ?_
      simp only [beq_self_eq_true]
      refine x_pick_t rfl (by rfl) rfl rfl ?_
      refine x_assign rfl rfl rfl ?_
      refine xr_nil ⟨nofun, [(.t 2, _)], ⟨rfl, rfl, trivial⟩, ?_⟩
      refine xa_ret ?_
      refine ret_val' rfl rfl trivial ?_
      rfl
    · try simp only [decide_eq_true_eq, decide_eq_false_iff_not, Bool.not_eq_true', Bool.not_eq_false', bne_iff_ne, beq_iff_eq, ne_eq, Bool.not_true, Bool.not_false, beq_eq_false_iff_ne, bne_eq_false_iff_eq, Decidable.not_not, Int.not_lt, Int.not_le, Bool.and_eq_true, Bool.and_eq_false_iff, Bool.or_eq_true, Bool.or_eq_false_iff, List.length_map] at hc
      have hvc : vca xs ms = true := egT_valid (by simp_all)
      obtain ⟨h1, hl10, hxb, hml, hm⟩ := vca_iff.1 hvc
      obtain ⟨hw1, hw2, hw3⟩ := egT_ok hvc
      obtain ⟨e, u, n, hen⟩ : ∃ e u n, egT xs ms = (e, u, n) := ⟨_, _, _, rfl⟩
      rw [hen] at hw1 hw2 hw3 ⊢
      dsimp only at hw1 hw2 hw3 ⊢
      refine xa_skip ?_
      refine xa_seq ?_
      refine xa_region ?_
      refine x_assign rfl rfl rfl ?_
      refine xr_nil ⟨nofun, [(.t 3, _), (.t 4, _), (.t 5, _), (.t 6, _), (.t 7, _), (.t 11, _), (.h 3, _), (.h 4, _)], ⟨rfl, rfl, rfl, rfl, rfl, rfl, rfl, rfl, rfl, rfl, rfl, rfl, rfl, rfl, rfl, rfl, trivial⟩, ?_⟩
      refine xa_seq ?_
      refine xa_seq ?_
      refine xa_region ?_
      refine x_assign rfl rfl rfl ?_
      refine xr_nil ⟨nofun, [(.t 3, _), (.t 4, _), (.t 5, _), (.t 6, _), (.t 7, _), (.t 11, _), (.t 12, _), (.h 3, _), (.h 4, _)], ⟨rfl, rfl, rfl, rfl, rfl, rfl, rfl, rfl, rfl, rfl, rfl, rfl, rfl, rfl, rfl, rfl, rfl, rfl, trivial⟩, ?_⟩
      refine xa_block ?_
      refine xa_loopK (β := Nat × Int) [(.t 3, _), (.t 4, _), (.t 5, _), (.t 6, _), (.t 7, _), (.h 3, _), (.h 4, _)] (fun (z : Nat × Int) => match z with | (q, n) => [(.t 12, iV q), (.t 11, iV n)]) (fun (z : Nat × Int) => match z with | (q, n) => q ≤ xs.length ∧ n = wEU xs ms (e) u q) (fun (z : Nat × Int) => match z with | (q, n) => xs.length - q) (0, 0) ⟨rfl, rfl, rfl, rfl, rfl, rfl, rfl, rfl, rfl, trivial⟩ ⟨Nat.zero_le _, rfl⟩ ?_
      intro z hb
      obtain ⟨q, n⟩ := z
      try dsimp only at hb
      obtain ⟨hi1q, hn⟩ := hb
      have hwb := wEU_bd xs ms (e) u q
      have hmi := fun h : q < ms.length => allB_iff.1 hm q h
      refine xa_seq ?_
      refine xa_seq ?_
      refine xa_region ?_
      refine x_move rfl rfl ?_
      refine x_move rfl rfl ?_
      refine x_len_sl rfl rfl ?_
      refine x_lss rfl rfl ?_
      refine xr_nil ⟨nofun, [(.t 3, _), (.t 4, _), (.t 5, _), (.t 6, _), (.t 7, _), (.t 11, _), (.t 12, _), (.t 69, _), (.h 3, _), (.h 4, _)], ⟨rfl, rfl, rfl, rfl, rfl, rfl, rfl, rfl, rfl, rfl, rfl, rfl, rfl, rfl, rfl, rfl, rfl, rfl, rfl, rfl, trivial⟩, ?_⟩
      refine xa_cond rfl (fun hc => ?_) (fun hc => ?_)
      · try simp only [decide_eq_true_eq, decide_eq_false_iff_not, Bool.not_eq_true', Bool.not_eq_false', bne_iff_ne, beq_iff_eq, ne_eq, Bool.not_true, Bool.not_false, beq_eq_false_iff_ne, bne_eq_false_iff_eq, Decidable.not_not, Int.not_lt, Int.not_le, Bool.and_eq_true, Bool.and_eq_false_iff, Bool.or_eq_true, Bool.or_eq_false_iff, List.length_map] at hc
        refine xa_skip ?_
        refine xa_seq ?_
        refine xa_block ?_
        refine xa_seq ?_
        refine xa_region ?_
        refine x_move rfl rfl ?_
        refine x_sub rfl rfl (inI64 (by omega)) ?_
        refine x_assign rfl rfl rfl ?_
        refine xr_nil ⟨nofun, [(.t 3, _), (.t 4, _), (.t 5, _), (.t 6, _), (.t 7, _), (.t 11, _), (.t 12, _), (.t 13, _), (.h 3, _), (.h 4, _)], ⟨rfl, rfl, rfl, rfl, rfl, rfl, rfl, rfl, rfl, rfl, rfl, rfl, rfl, rfl, rfl, rfl, rfl, rfl, rfl, rfl, trivial⟩, ?_⟩
        refine xa_seq ?_
        refine xa_seq ?_
        refine xa_region ?_
        refine x_move rfl rfl ?_
        refine x_move rfl rfl ?_
        refine x_index_slN rfl rfl rfl rfl (by omega) (by (simp; done)) rfl ?_
        refine x_load_mapV rfl rfl (by omega) (fun _ => rfl) (fun _ => rfl) rfl ?_
        refine x_move rfl rfl ?_
        refine x_geq rfl rfl ?_
        refine xr_nil ⟨nofun, [(.t 3, _), (.t 4, _), (.t 5, _), (.t 6, _), (.t 7, _), (.t 11, _), (.t 12, _), (.t 13, _), (.t 79, _), (.h 3, _), (.h 4, _)], ⟨rfl, rfl, rfl, rfl, rfl, rfl, rfl, rfl, rfl, rfl, rfl, rfl, rfl, rfl, rfl, rfl, rfl, rfl, rfl, rfl, rfl, rfl, trivial⟩, ?_⟩
        refine xa_cond rfl (fun hc => ?_) (fun hc => ?_)
        · try simp only [decide_eq_true_eq, decide_eq_false_iff_not, Bool.not_eq_true', Bool.not_eq_false', bne_iff_ne, beq_iff_eq, ne_eq, Bool.not_true, Bool.not_false, beq_eq_false_iff_ne, bne_eq_false_iff_eq, Decidable.not_not, Int.not_lt, Int.not_le, Bool.and_eq_true, Bool.and_eq_false_iff, Bool.or_eq_true, Bool.or_eq_false_iff, List.length_map] at hc
          refine xa_region ?_
          refine x_move rfl rfl ?_
          refine x_assign rfl rfl rfl ?_
          refine xr_nil ⟨nofun, [(.t 3, _), (.t 4, _), (.t 5, _), (.t 6, _), (.t 7, _), (.t 11, _), (.t 12, _), (.t 13, _), (.h 3, _), (.h 4, _)], ⟨rfl, rfl, rfl, rfl, rfl, rfl, rfl, rfl, rfl, rfl, rfl, rfl, rfl, rfl, rfl, rfl, rfl, rfl, rfl, rfl, trivial⟩, ?_⟩
          refine xa_seq ?_
          refine xa_region ?_
          refine x_move rfl rfl ?_
          refine x_move rfl rfl ?_
          refine x_move rfl rfl ?_
          refine x_index_slN rfl rfl rfl rfl (by omega) (by (simp; done)) rfl ?_
          refine x_load_mapV rfl rfl (by omega) (fun _ => rfl) (fun _ => rfl) rfl ?_
          refine x_neq rfl rfl ?_
          refine xr_nil ⟨nofun, [(.t 3, _), (.t 4, _), (.t 5, _), (.t 6, _), (.t 7, _), (.t 11, _), (.t 12, _), (.t 86, _), (.h 3, _), (.h 4, _)], ⟨rfl, rfl, rfl, rfl, rfl, rfl, rfl, rfl, rfl, rfl, rfl, rfl, rfl, rfl, rfl, rfl, rfl, rfl, rfl, rfl, trivial⟩, ?_⟩
          refine xa_cond rfl (fun hc => ?_) (fun hc => ?_)
          · try simp only [decide_eq_true_eq, decide_eq_false_iff_not, Bool.not_eq_true', Bool.not_eq_false', bne_iff_ne, beq_iff_eq, ne_eq, Bool.not_true, Bool.not_false, beq_eq_false_iff_ne, bne_eq_false_iff_eq, Decidable.not_not, Int.not_lt, Int.not_le, Bool.and_eq_true, Bool.and_eq_false_iff, Bool.or_eq_true, Bool.or_eq_false_iff, List.length_map] at hc
            refine xa_region ?_
            refine x_move rfl rfl ?_
            refine x_add rfl rfl (inI64 (by omega)) ?_
            refine x_assign rfl rfl rfl ?_
            refine xr_nil ⟨nofun, [(.t 3, _), (.t 4, _), (.t 5, _), (.t 6, _), (.t 7, _), (.t 11, _), (.t 12, _), (.h 3, _), (.h 4, _)], ⟨rfl, rfl, rfl, rfl, rfl, rfl, rfl, rfl, rfl, rfl, rfl, rfl, rfl, rfl, rfl, rfl, rfl, rfl, trivial⟩, ?_⟩
            refine xa_region ?_
            refine x_move rfl rfl ?_
            refine x_add rfl rfl (inI64 (by omega)) ?_
            refine x_assign rfl rfl rfl ?_
            refine xr_nil ⟨nofun, [(.t 3, _), (.t 4, _), (.t 5, _), (.t 6, _), (.t 7, _), (.t 11, _), (.t 12, _), (.h 3, _), (.h 4, _)], ⟨rfl, rfl, rfl, rfl, rfl, rfl, rfl, rfl, rfl, rfl, rfl, rfl, rfl, rfl, rfl, rfl, rfl, rfl, trivial⟩, ?_⟩
            refine ⟨(q + 1, n + 1), ?_, (by simp only; omega), ⟨rfl, rfl, rfl, rfl, rfl, rfl, rfl, rfl, rfl, trivial⟩⟩
            have hmi2 := hmi (by omega)
            exact ⟨by omega, by rw [wEU_ne (by omega), hn]⟩
          · try simp only [decide_eq_true_eq, decide_eq_false_iff_not, Bool.not_eq_true', Bool.not_eq_false', bne_iff_ne, beq_iff_eq, ne_eq, Bool.not_true, Bool.not_false, beq_eq_false_iff_ne, bne_eq_false_iff_eq, Decidable.not_not, Int.not_lt, Int.not_le, Bool.and_eq_true, Bool.and_eq_false_iff, Bool.or_eq_true, Bool.or_eq_false_iff, List.length_map] at hc
            refine xa_skip ?_
            refine xa_region ?_
            refine x_move rfl rfl ?_
            refine x_add rfl rfl (inI64 (by omega)) ?_
            refine x_assign rfl rfl rfl ?_
            refine xr_nil ⟨nofun, [(.t 3, _), (.t 4, _), (.t 5, _), (.t 6, _), (.t 7, _), (.t 11, _), (.t 12, _), (.h 3, _), (.h 4, _)], ⟨rfl, rfl, rfl, rfl, rfl, rfl, rfl, rfl, rfl, rfl, rfl, rfl, rfl, rfl, rfl, rfl, rfl, rfl, trivial⟩, ?_⟩
            refine ⟨(q + 1, n), ?_, (by simp only; omega), ⟨rfl, rfl, rfl, rfl, rfl, rfl, rfl, rfl, rfl, trivial⟩⟩
            have hmi2 := hmi (by omega)
            exact ⟨by omega, by rw [wEU_eq (by omega), hn]⟩
        · try simp only [decide_eq_true_eq, decide_eq_false_iff_not, Bool.not_eq_true', Bool.not_eq_false', bne_iff_ne, beq_iff_eq, ne_eq, Bool.not_true, Bool.not_false, beq_eq_false_iff_ne, bne_eq_false_iff_eq, Decidable.not_not, Int.not_lt, Int.not_le, Bool.and_eq_true, Bool.and_eq_false_iff, Bool.or_eq_true, Bool.or_eq_false_iff, List.length_map] at hc
          refine xa_skip ?_
          refine xa_seq ?_
          refine xa_region ?_
          refine x_move rfl rfl ?_
          refine x_move rfl rfl ?_
          refine x_move rfl rfl ?_
          refine x_index_slN rfl rfl rfl rfl (by omega) (by (simp; done)) rfl ?_
          refine x_load_mapV rfl rfl (by omega) (fun _ => rfl) (fun _ => rfl) rfl ?_
          refine x_neq rfl rfl ?_
          refine xr_nil ⟨nofun, [(.t 3, _), (.t 4, _), (.t 5, _), (.t 6, _), (.t 7, _), (.t 11, _), (.t 12, _), (.t 86, _), (.h 3, _), (.h 4, _)], ⟨rfl, rfl, rfl, rfl, rfl, rfl, rfl, rfl, rfl, rfl, rfl, rfl, rfl, rfl, rfl, rfl, rfl, rfl, rfl, rfl, trivial⟩, ?_⟩
          refine xa_cond rfl (fun hc => ?_) (fun hc => ?_)
          · try simp only [decide_eq_true_eq, decide_eq_false_iff_not, Bool.not_eq_true', Bool.not_eq_false', bne_iff_ne, beq_iff_eq, ne_eq, Bool.not_true, Bool.not_false, beq_eq_false_iff_ne, bne_eq_false_iff_eq, Decidable.not_not, Int.not_lt, Int.not_le, Bool.and_eq_true, Bool.and_eq_false_iff, Bool.or_eq_true, Bool.or_eq_false_iff, List.length_map] at hc
            refine xa_region ?_
            refine x_move rfl rfl ?_
            refine x_add rfl rfl (inI64 (by omega)) ?_
            refine x_assign rfl rfl rfl ?_
            refine xr_nil ⟨nofun, [(.t 3, _), (.t 4, _), (.t 5, _), (.t 6, _), (.t 7, _), (.t 11, _), (.t 12, _), (.h 3, _), (.h 4, _)], ⟨rfl, rfl, rfl, rfl, rfl, rfl, rfl, rfl, rfl, rfl, rfl, rfl, rfl, rfl, rfl, rfl, rfl, rfl, trivial⟩, ?_⟩
            refine xa_region ?_
            refine x_move rfl rfl ?_
            refine x_add rfl rfl (inI64 (by omega)) ?_
            refine x_assign rfl rfl rfl ?_
            refine xr_nil ⟨nofun, [(.t 3, _), (.t 4, _), (.t 5, _), (.t 6, _), (.t 7, _), (.t 11, _), (.t 12, _), (.h 3, _), (.h 4, _)], ⟨rfl, rfl, rfl, rfl, rfl, rfl, rfl, rfl, rfl, rfl, rfl, rfl, rfl, rfl, rfl, rfl, rfl, rfl, trivial⟩, ?_⟩
            refine ⟨(q + 1, n + 1), ?_, (by simp only; omega), ⟨rfl, rfl, rfl, rfl, rfl, rfl, rfl, rfl, rfl, trivial⟩⟩
            have hmi2 := hmi (by omega)
            exact ⟨by omega, by rw [wEU_ne (by omega), hn]⟩
          · try simp only [decide_eq_true_eq, decide_eq_false_iff_not, Bool.not_eq_true', Bool.not_eq_false', bne_iff_ne, beq_iff_eq, ne_eq, Bool.not_true, Bool.not_false, beq_eq_false_iff_ne, bne_eq_false_iff_eq, Decidable.not_not, Int.not_lt, Int.not_le, Bool.and_eq_true, Bool.and_eq_false_iff, Bool.or_eq_true, Bool.or_eq_false_iff, List.length_map] at hc
            refine xa_skip ?_
            refine xa_region ?_
            refine x_move rfl rfl ?_
            refine x_add rfl rfl (inI64 (by omega)) ?_
            refine x_assign rfl rfl rfl ?_
            refine xr_nil ⟨nofun, [(.t 3, _), (.t 4, _), (.t 5, _), (.t 6, _), (.t 7, _), (.t 11, _), (.t 12, _), (.h 3, _), (.h 4, _)], ⟨rfl, rfl, rfl, rfl, rfl, rfl, rfl, rfl, rfl, rfl, rfl, rfl, rfl, rfl, rfl, rfl, rfl, rfl, trivial⟩, ?_⟩
            refine ⟨(q + 1, n), ?_, (by simp only; omega), ⟨rfl, rfl, rfl, rfl, rfl, rfl, rfl, rfl, rfl, trivial⟩⟩
            have hmi2 := hmi (by omega)
            exact ⟨by omega, by rw [wEU_eq (by omega), hn]⟩
      · try simp only [decide_eq_true_eq, decide_eq_false_iff_not, Bool.not_eq_true', Bool.not_eq_false', bne_iff_ne, beq_iff_eq, ne_eq, Bool.not_true, Bool.not_false, beq_eq_false_iff_ne, bne_eq_false_iff_eq, Decidable.not_not, Int.not_lt, Int.not_le, Bool.and_eq_true, Bool.and_eq_false_iff, Bool.or_eq_true, Bool.or_eq_false_iff, List.length_map] at hc
        refine xa_exit ?_
        refine xa_seq ?_
        refine xa_region ?_
        refine x_move rfl rfl ?_
        refine x_move rfl rfl ?_
        refine x_eql rfl rfl ?_
        rw [hw1, hn, show q = xs.length by omega, wEU_all]
        simp only [beq_self_eq_true]
        refine x_move rfl rfl ?_
        refine x_guard_t rfl rfl (by rfl) ?_
        refine x_move rfl rfl ?_
        refine x_guard_t rfl rfl (by rfl) ?_
        refine x_move rfl rfl ?_
        refine x_guard_t rfl rfl (by rfl) ?_
        apply x_call rfl
        · apply pa_cons
          · exact pa_lend_map rfl rfl rfl (by (simp; done)) (fun _ => rfl)
          apply pa_cons
          · exact pa_lend_map rfl rfl rfl (by (simp; done)) (fun _ => rfl)
          exact pa_nil
        · exact s_wrongI xs ms hl hlm
        · exact ⟨rfl, rfl, rfl, of_decide_eq_true rfl, rfl⟩
        · exact .inr ⟨rfl, rfl⟩
        · exact back_nil
        · exact inst_plain rfl
        · exact fun _ => rfl
        intro g95
        rw [← hw3]
        refine x_guard_t rfl rfl (by rfl) ?_
        refine x_move rfl rfl ?_
        refine x_guard_t rfl rfl (by rfl) ?_
        refine x_eql rfl rfl ?_
        simp only [beq_self_eq_true]
        refine x_pick_t rfl (by rfl) rfl rfl ?_
        refine x_assign rfl rfl rfl ?_
        refine xr_nil ⟨nofun, [(.t 2, _)], ⟨rfl, rfl, trivial⟩, ?_⟩
        refine xa_ret ?_
        refine ret_val' rfl rfl trivial ?_
        (simp_all; done)
end Go.Proofs.Ythmimfbjoeeggaa

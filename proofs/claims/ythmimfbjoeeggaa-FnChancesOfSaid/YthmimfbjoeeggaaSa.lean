/- What each function of the program gives on the abstract machine, part 1 of 2. Conditions: those in front of each theorem. -/
import Derived.Test.YthmimfbjoeeggaaMe
import Derived.Test.YthmimfbjoeeggaaChecked
import Derived.KernelRfl

set_option linter.unusedVariables false
set_option linter.unusedSimpArgs false
namespace Go.Proofs.Ythmimfbjoeeggaa
open Go Go.Mv Go.Proofs
set_option maxRecDepth 100000

def mdT : List (Nat × List Nat) := [(17, [1]), (35, [1]), (53, [3, 3, 3, 3]), (54, [3, 3, 3, 3]), (74, [3]), (75, [2]), (76, [3, 3, 3, 3]), (77, [3, 3, 3, 3]), (78, [3, 3, 3, 3]), (82, [2]), (93, [1])]
noncomputable def extT : List (Nat × (List AV → Option (AV × List (List AV)))) := [(74, extBwd 90), (82, extCompact), (92, extClone), (93, extSort)]
noncomputable def cxT : Cx := { P := Try.prog, md := mdOf mdT, ext := extOf extT, it := fun k => if k = 90 then some itBwd else none }
noncomputable def cxE : Cx := { P := Try.prog, md := mdOf mdT, ext := fun _ => none }
theorem s_Backward (es : List AV) : CW cxT 74 [.list es] = some (.clo 90 [.ipt (.list es) 0], []) := CW_ext cxT rfl rfl
theorem s_Compact (xs : List Int) (hl : xs.length ≤ maxL) : CW cxT 82 [.own 1 (xs.map iV)] = some (.own 1 ((compactI xs).map iV), []) := CW_ext cxT rfl (by simp [extCompact, unI_map, hl])
theorem s_Clone (xs : List Int) (hl : xs.length ≤ maxL) : CW cxT 92 [.list (xs.map iV)] = some (.own 1 (xs.map iV), []) := CW_ext cxT rfl (by simp [extClone, unI_map, hl])
theorem s_Sort (xs : List Int) (hl : xs.length ≤ maxL) : CW cxT 93 [.own 1 (xs.map iV)] = some (.tup [], [(sortI xs).map iV]) := CW_ext cxT rfl (by simp [extSort, unI_map, hl])

theorem keep_s_inRange : keepOf Try.f70 = [0, 1, 2, 6] := by kernel_rfl
set_option maxHeartbeats 20000000 in
theorem s_inRange (n lo hi : Int) : CW cxT 70 [iV n, iV lo, iV hi] = some (bV (decide (lo ≤ n) && decide (n ≤ hi)), []) := by
  refine fn_intro rfl Try.func70 rfl ⟨by kernel_rfl, rfl, of_decide_eq_true rfl, of_decide_eq_true rfl, by decide⟩ keep_s_inRange ?_
  refine xa_seq ?_
  refine xa_region ?_
  refine x_assign rfl rfl rfl ?_
  refine xr_nil ⟨nofun, [(.t 0, _), (.t 1, _), (.t 2, _)], ⟨rfl, rfl, rfl, rfl, rfl, rfl, trivial⟩, ?_⟩
  refine xa_seq ?_
  refine xa_region ?_
  refine x_move rfl rfl ?_
  refine x_move rfl rfl ?_
  refine x_leq rfl rfl ?_
  refine x_move rfl rfl ?_
  refine x_guard_split rfl rfl (fun hg0 => ?_) (fun hg0 => ?_)
  · have hg := hg0; try simp only [decide_eq_true_eq, decide_eq_false_iff_not, Bool.not_eq_true', Bool.not_eq_false', bne_iff_ne, beq_iff_eq, ne_eq, Bool.not_true, Bool.not_false, beq_eq_false_iff_ne, bne_eq_false_iff_eq, Decidable.not_not, Int.not_lt, Int.not_le, Bool.and_eq_true, Bool.and_eq_false_iff, Bool.or_eq_true, Bool.or_eq_false_iff] at hg
    refine x_move rfl rfl ?_
    refine x_guard_t rfl rfl (by assumption) ?_
    refine x_move rfl rfl ?_
    refine x_guard_t rfl rfl (by assumption) ?_
    refine x_leq rfl rfl ?_
    refine x_pick_t rfl (by assumption) rfl rfl ?_
    refine x_assign rfl rfl rfl ?_
    refine xr_nil ⟨nofun, [(.t 6, _)], ⟨rfl, rfl, trivial⟩, ?_⟩
    refine xa_ret ?_
    refine ret_val' rfl rfl trivial ?_
    simp_all [ofConst]; try omega
  · have hg := hg0; try simp only [decide_eq_true_eq, decide_eq_false_iff_not, Bool.not_eq_true', Bool.not_eq_false', bne_iff_ne, beq_iff_eq, ne_eq, Bool.not_true, Bool.not_false, beq_eq_false_iff_ne, bne_eq_false_iff_eq, Decidable.not_not, Int.not_lt, Int.not_le, Bool.and_eq_true, Bool.and_eq_false_iff, Bool.or_eq_true, Bool.or_eq_false_iff] at hg
    refine x_guard_f rfl rfl (by assumption) ?_
    refine x_guard_f rfl rfl (by assumption) ?_
    refine x_pick_f rfl (by assumption) rfl rfl ?_
    refine x_assign rfl rfl rfl ?_
    refine xr_nil ⟨nofun, [(.t 6, _)], ⟨rfl, rfl, trivial⟩, ?_⟩
    refine xa_ret ?_
    refine ret_val' rfl rfl trivial ?_
    simp_all [ofConst]; try omega

theorem keep_s_in : keepOf Try.f89 = [0, 1, 2, 6] := by kernel_rfl
set_option maxHeartbeats 20000000 in
theorem s_in (n lo hi : Int) : CW cxT 89 [iV n, iV lo, iV hi] = some (bV (decide (lo ≤ n) && decide (n ≤ hi)), []) := by
  refine fn_intro rfl Try.func89 rfl ⟨by kernel_rfl, rfl, of_decide_eq_true rfl, of_decide_eq_true rfl, by decide⟩ keep_s_in ?_
  refine xa_seq ?_
  refine xa_region ?_
  refine x_assign rfl rfl rfl ?_
  refine xr_nil ⟨nofun, [(.t 0, _), (.t 1, _), (.t 2, _)], ⟨rfl, rfl, rfl, rfl, rfl, rfl, trivial⟩, ?_⟩
  refine xa_seq ?_
  refine xa_region ?_
  refine x_move rfl rfl ?_
  refine x_move rfl rfl ?_
  refine x_geq rfl rfl ?_
  refine x_move rfl rfl ?_
  refine x_guard_split rfl rfl (fun hg0 => ?_) (fun hg0 => ?_)
  · have hg := hg0; try simp only [decide_eq_true_eq, decide_eq_false_iff_not, Bool.not_eq_true', Bool.not_eq_false', bne_iff_ne, beq_iff_eq, ne_eq, Bool.not_true, Bool.not_false, beq_eq_false_iff_ne, bne_eq_false_iff_eq, Decidable.not_not, Int.not_lt, Int.not_le, Bool.and_eq_true, Bool.and_eq_false_iff, Bool.or_eq_true, Bool.or_eq_false_iff] at hg
    refine x_move rfl rfl ?_
    refine x_guard_t rfl rfl (by assumption) ?_
    refine x_move rfl rfl ?_
    refine x_guard_t rfl rfl (by assumption) ?_
    refine x_leq rfl rfl ?_
    refine x_pick_t rfl (by assumption) rfl rfl ?_
    refine x_assign rfl rfl rfl ?_
    refine xr_nil ⟨nofun, [(.t 6, _)], ⟨rfl, rfl, trivial⟩, ?_⟩
    refine xa_ret ?_
    refine ret_val' rfl rfl trivial ?_
    simp_all [ofConst]; try omega
  · have hg := hg0; try simp only [decide_eq_true_eq, decide_eq_false_iff_not, Bool.not_eq_true', Bool.not_eq_false', bne_iff_ne, beq_iff_eq, ne_eq, Bool.not_true, Bool.not_false, beq_eq_false_iff_ne, bne_eq_false_iff_eq, Decidable.not_not, Int.not_lt, Int.not_le, Bool.and_eq_true, Bool.and_eq_false_iff, Bool.or_eq_true, Bool.or_eq_false_iff] at hg
    refine x_guard_f rfl rfl (by assumption) ?_
    refine x_guard_f rfl rfl (by assumption) ?_
    refine x_pick_f rfl (by assumption) rfl rfl ?_
    refine x_assign rfl rfl rfl ?_
    refine xr_nil ⟨nofun, [(.t 6, _)], ⟨rfl, rfl, trivial⟩, ?_⟩
    refine xa_ret ?_
    refine ret_val' rfl rfl trivial ?_
    simp_all [ofConst]; try omega

theorem keep_s_pick : keepOf Try.f78 = [0, 1, 4, 24, 5, 36, 6] := by kernel_rfl
set_option maxHeartbeats 20000000 in
theorem s_pick (bs : List Int) (p : Int) (hbs : Bytes bs) (hl : bs.length ≤ 1048576) (hp : 0 ≤ p ∧ p ≤ 1000000000) (n : Int) (hn : n ≤ 1000000000) : ∃ res outs, (fun res outs => ∃ k, res = iV k ∧ outs = [[rdr bs (p + 1)]] ∧ (1 ≤ n → 0 ≤ k ∧ k < n) ∧ (n < 1 → k = 0)) res outs ∧ CW cxT 78 [.ownp [rdr bs p] 0 0, iV n] = some (res, outs) := by
  refine fn_introP rfl Try.func78 rfl ⟨by kernel_rfl, rfl, of_decide_eq_true rfl, of_decide_eq_true rfl, by decide⟩ keep_s_pick ?_
  refine xa_seq ?_
  refine xa_region ?_
  refine x_assign rfl rfl rfl ?_
  refine xr_nil ⟨nofun, [(.t 0, _), (.t 1, _), (.h 0, _)], ⟨rfl, rfl, rfl, rfl, rfl, rfl, trivial⟩, ?_⟩
  refine xa_seq ?_
  refine xa_region ?_
  refine x_move rfl rfl ?_
  refine x_move rfl rfl ?_
  refine x_nilCheck rfl rfl rfl ?_
  refine x_fieldAddr rfl rfl (by decide) rfl rfl ?_
  refine x_load_ptrN rfl rfl rfl rfl rfl rfl ?_
  refine x_add rfl rfl (inI64 (by omega)) ?_
  refine x_nilCheck rfl rfl rfl ?_
  refine x_fieldAddr rfl rfl (by decide) rfl rfl ?_
  refine x_store rfl rfl rfl rfl rfl ⟨by decide, rfl, of_decide_eq_true rfl, of_decide_eq_true rfl, rfl⟩ (by exact slot_box4 rfl) ?_
  refine xr_nil ⟨nofun, [(.t 0, _), (.t 1, _), (.h 0, _)], ⟨rfl, rfl, rfl, rfl, rfl, rfl, trivial⟩, ?_⟩
  refine xa_seq ?_
  refine xa_seq ?_
  refine xa_region ?_
  refine x_move rfl rfl ?_
  refine x_lss rfl rfl ?_
  refine x_move rfl rfl ?_
  refine x_guard_split rfl rfl (fun hg0 => ?_) (fun hg0 => ?_)
  · have hg := hg0; try simp only [decide_eq_true_eq, decide_eq_false_iff_not, Bool.not_eq_true', Bool.not_eq_false', bne_iff_ne, beq_iff_eq, ne_eq, Bool.not_true, Bool.not_false, beq_eq_false_iff_ne, bne_eq_false_iff_eq, Decidable.not_not, Int.not_lt, Int.not_le, Bool.and_eq_true, Bool.and_eq_false_iff, Bool.or_eq_true, Bool.or_eq_false_iff] at hg
    refine x_move rfl rfl ?_
    refine x_guard_t rfl rfl (by assumption) ?_
    refine x_nilCheck rfl rfl rfl ?_
    refine x_guard_t rfl rfl (by assumption) ?_
    refine x_fieldAddr rfl rfl (by decide) rfl rfl ?_
    refine x_guard_t rfl rfl (by assumption) ?_
    refine x_load_ptrN rfl rfl rfl rfl rfl rfl ?_
    refine x_guard_t rfl rfl (by assumption) ?_
    refine x_len_map rfl rfl ?_
    refine x_guard_t rfl rfl (by assumption) ?_
    refine x_eql rfl rfl ?_
    refine x_pick_f rfl (by assumption) rfl rfl ?_
    refine xr_nil ⟨nofun, [(.t 0, _), (.t 1, _), (.t 24, _), (.h 0, _)], ⟨rfl, rfl, rfl, rfl, rfl, rfl, rfl, rfl, trivial⟩, ?_⟩
    refine xa_cond rfl (fun hc => ?_) (fun hc => ?_)
    · try simp only [decide_eq_true_eq, decide_eq_false_iff_not, Bool.not_eq_true', Bool.not_eq_false', bne_iff_ne, beq_iff_eq, ne_eq, Bool.not_true, Bool.not_false, beq_eq_false_iff_ne, bne_eq_false_iff_eq, Decidable.not_not, Int.not_lt, Int.not_le, Bool.and_eq_true, Bool.and_eq_false_iff, Bool.or_eq_true, Bool.or_eq_false_iff, List.length_map] at hc
      refine xa_seq ?_
      refine xa_region ?_
      refine x_assign rfl rfl rfl ?_
      refine xr_nil ⟨nofun, [(.t 4, _), (.h 0, _)], ⟨rfl, rfl, rfl, rfl, trivial⟩, ?_⟩
      refine xa_ret ?_
      refine ⟨_, _, ?_, ret_val rfl rfl (outs_one rfl rfl)⟩
      refine ⟨_, rfl, rfl, fun h => ?_, fun h => ?_⟩
      · omega
      · omega
    · try simp only [decide_eq_true_eq, decide_eq_false_iff_not, Bool.not_eq_true', Bool.not_eq_false', bne_iff_ne, beq_iff_eq, ne_eq, Bool.not_true, Bool.not_false, beq_eq_false_iff_ne, bne_eq_false_iff_eq, Decidable.not_not, Int.not_lt, Int.not_le, Bool.and_eq_true, Bool.and_eq_false_iff, Bool.or_eq_true, Bool.or_eq_false_iff, List.length_map] at hc
      refine xa_skip ?_
      refine xa_seq ?_
      refine xa_region ?_
      refine x_move rfl rfl ?_
      refine x_nilCheck rfl rfl rfl ?_
      refine x_fieldAddr rfl rfl (by decide) rfl rfl ?_
      refine x_load_ptrN rfl rfl rfl rfl rfl rfl ?_
      refine x_sub rfl rfl (inI64 (by omega)) ?_
      refine x_assign rfl rfl rfl ?_
      refine xr_nil ⟨nofun, [(.t 0, _), (.t 1, _), (.t 5, _), (.h 0, _)], ⟨rfl, rfl, rfl, rfl, rfl, rfl, rfl, rfl, trivial⟩, ?_⟩
      refine xa_seq ?_
      refine xa_seq ?_
      refine xa_region ?_
      refine x_move rfl rfl ?_
      refine x_move rfl rfl ?_
      refine x_nilCheck rfl rfl rfl ?_
      refine x_fieldAddr rfl rfl (by decide) rfl rfl ?_
      refine x_load_ptrN rfl rfl rfl rfl rfl rfl ?_
      refine x_len_map rfl rfl ?_
      refine x_lss rfl rfl ?_
      refine xr_nil ⟨nofun, [(.t 0, _), (.t 1, _), (.t 5, _), (.t 36, _), (.h 0, _)], ⟨rfl, rfl, rfl, rfl, rfl, rfl, rfl, rfl, rfl, rfl, trivial⟩, ?_⟩
      refine xa_cond rfl (fun hc => ?_) (fun hc => ?_)
      · try simp only [decide_eq_true_eq, decide_eq_false_iff_not, Bool.not_eq_true', Bool.not_eq_false', bne_iff_ne, beq_iff_eq, ne_eq, Bool.not_true, Bool.not_false, beq_eq_false_iff_ne, bne_eq_false_iff_eq, Decidable.not_not, Int.not_lt, Int.not_le, Bool.and_eq_true, Bool.and_eq_false_iff, Bool.or_eq_true, Bool.or_eq_false_iff, List.length_map] at hc
        refine xa_seq ?_
        refine xa_region ?_
        refine x_move rfl rfl ?_
        refine x_nilCheck rfl rfl rfl ?_
        refine x_fieldAddr rfl rfl (by decide) rfl rfl ?_
        refine x_load_ptrN rfl rfl rfl rfl rfl rfl ?_
        refine x_move rfl rfl ?_
        refine x_index_list rfl rfl rfl (fun _ => rfl) (by omega) ?_
        refine x_load_iptV rfl rfl rfl ?_
        refine x_conv rfl rfl rfl (inI64 (by have := hbs.getD (p + 1 - 1).toNat; omega)) ?_
        refine x_move rfl rfl ?_
        have hk := hbs.getD (p + 1 - 1).toNat
        refine x_rem rfl rfl (by omega) ?_
        refine x_assign rfl rfl rfl ?_
        refine xr_nil ⟨nofun, [(.t 4, _), (.h 0, _)], ⟨rfl, rfl, rfl, rfl, trivial⟩, ?_⟩
        refine xa_ret ?_
        refine ⟨_, _, ?_, ret_val rfl rfl (outs_one rfl rfl)⟩
        refine ⟨_, rfl, rfl, fun h => ?_, fun h => ?_⟩
        · exact tmod_in (by omega) (by omega)
        · omega
      · try simp only [decide_eq_true_eq, decide_eq_false_iff_not, Bool.not_eq_true', Bool.not_eq_false', bne_iff_ne, beq_iff_eq, ne_eq, Bool.not_true, Bool.not_false, beq_eq_false_iff_ne, bne_eq_false_iff_eq, Decidable.not_not, Int.not_lt, Int.not_le, Bool.and_eq_true, Bool.and_eq_false_iff, Bool.or_eq_true, Bool.or_eq_false_iff, List.length_map] at hc
        refine xa_skip ?_
        refine xa_seq ?_
        refine xa_region ?_
        refine x_move rfl rfl ?_
        refine x_nilCheck rfl rfl rfl ?_
        refine x_fieldAddr rfl rfl (by decide) rfl rfl ?_
        refine x_load_ptrN rfl rfl rfl rfl rfl rfl ?_
        refine x_move rfl rfl ?_
        refine x_move rfl rfl ?_
        refine x_nilCheck rfl rfl rfl ?_
        refine x_fieldAddr rfl rfl (by decide) rfl rfl ?_
        refine x_load_ptrN rfl rfl rfl rfl rfl rfl ?_
        refine x_len_map rfl rfl ?_
        have hlen : 0 < (bs.length : Int) := by omega
        refine x_rem rfl rfl (by omega) ?_
        have hm1 := tmod_in (a := p + 1 - 1) (by omega) hlen
        refine x_index_list rfl rfl rfl (fun _ => rfl) (by omega) ?_
        refine x_load_iptV rfl rfl rfl ?_
        refine x_conv rfl rfl rfl (inI64 (by have := hbs.getD ((p + 1 - 1).tmod bs.length).toNat; omega)) ?_
        have hk := hbs.getD ((p + 1 - 1).tmod bs.length).toNat
        refine x_mul rfl rfl (inI64 (by omega)) ?_
        refine x_move rfl rfl ?_
        refine x_nilCheck rfl rfl rfl ?_
        refine x_fieldAddr rfl rfl (by decide) rfl rfl ?_
        refine x_load_ptrN rfl rfl rfl rfl rfl rfl ?_
        refine x_move rfl rfl ?_
        refine x_mul rfl rfl (inI64 (by omega)) ?_
        refine x_add rfl rfl (inI64 (by omega)) ?_
        refine x_move rfl rfl ?_
        refine x_nilCheck rfl rfl rfl ?_
        refine x_fieldAddr rfl rfl (by decide) rfl rfl ?_
        refine x_load_ptrN rfl rfl rfl rfl rfl rfl ?_
        refine x_len_map rfl rfl ?_
        refine x_rem rfl rfl (by omega) ?_
        have hm2 := tmod_in (a := (p + 1 - 1) * 7 + 3) (by omega) hlen
        refine x_index_list rfl rfl rfl (fun _ => rfl) (by omega) ?_
        refine x_load_iptV rfl rfl rfl ?_
        refine x_conv rfl rfl rfl (inI64 (by have := hbs.getD (((p + 1 - 1) * 7 + 3).tmod bs.length).toNat; omega)) ?_
        have hk2 := hbs.getD (((p + 1 - 1) * 7 + 3).tmod bs.length).toNat
        refine x_mul rfl rfl (inI64 (by omega)) ?_
        refine x_add rfl rfl (inI64 (by omega)) ?_
        refine x_move rfl rfl ?_
        refine x_mul rfl rfl (inI64 (by omega)) ?_
        refine x_add rfl rfl (inI64 (by omega)) ?_
        refine x_move rfl rfl ?_
        refine x_move rfl rfl ?_
        refine x_nilCheck rfl rfl rfl ?_
        refine x_fieldAddr rfl rfl (by decide) rfl rfl ?_
        refine x_load_ptrN rfl rfl rfl rfl rfl rfl ?_
        refine x_len_map rfl rfl ?_
        have hd := tdiv_in (a := p + 1 - 1) (b := bs.length) (by omega) (by omega)
        refine x_quo rfl rfl ⟨by omega, inI64 (by omega)⟩ ?_
        refine x_mul rfl rfl (inI64 (by omega)) ?_
        refine x_add rfl rfl (inI64 (by omega)) ?_
        refine x_assign rfl rfl rfl ?_
        refine xr_nil ⟨fun _ => ⟨by decide +kernel, by decide +kernel⟩, [(.t 1, _), (.t 6, _), (.h 0, _)], ⟨rfl, rfl, rfl, rfl, rfl, rfl, trivial⟩, ?_⟩
        refine xa_seq ?_
        refine xa_region ?_
        refine x_move rfl rfl ?_
        refine x_move rfl rfl ?_
        have hd2 := tdiv_in (a := (bs.getD ((p + 1 - 1).tmod bs.length).toNat default * 131 + bs.getD (((p + 1 - 1) * 7 + 3).tmod bs.length).toNat default * 1117 + (p + 1 - 1) * 29 + (p + 1 - 1).tdiv bs.length * 53)) (b := 64) (by omega) (by decide)
        refine x_quo rfl rfl ⟨by omega, inI64 (by omega)⟩ ?_
        have hx := xor_in (x := (bs.getD ((p + 1 - 1).tmod bs.length).toNat default * 131 + bs.getD (((p + 1 - 1) * 7 + 3).tmod bs.length).toNat default * 1117 + (p + 1 - 1) * 29 + (p + 1 - 1).tdiv bs.length * 53)) (by omega) (y := (bs.getD ((p + 1 - 1).tmod bs.length).toNat default * 131 + bs.getD (((p + 1 - 1) * 7 + 3).tmod bs.length).toNat default * 1117 + (p + 1 - 1) * 29 + (p + 1 - 1).tdiv bs.length * 53).tdiv 64) (by omega)
        refine x_xor rfl rfl ?_
        refine x_assign rfl rfl rfl ?_
        refine xr_nil ⟨nofun, [(.t 1, _), (.t 6, _), (.h 0, _)], ⟨rfl, rfl, rfl, rfl, rfl, rfl, trivial⟩, ?_⟩
        refine xa_seq ?_
        refine xa_region ?_
        refine x_move rfl rfl ?_
        refine x_move rfl rfl ?_
        refine x_rem rfl rfl (by omega) ?_
        refine x_assign rfl rfl rfl ?_
        refine xr_nil ⟨nofun, [(.t 4, _), (.h 0, _)], ⟨rfl, rfl, rfl, rfl, trivial⟩, ?_⟩
        refine xa_ret ?_
        refine ⟨_, _, ?_, ret_val rfl rfl (outs_one rfl rfl)⟩
        refine ⟨_, rfl, rfl, fun h => ?_, fun h => ?_⟩
        · exact tmod_in (by omega) (by omega)
        · omega
  · have hg := hg0; try simp only [decide_eq_true_eq, decide_eq_false_iff_not, Bool.not_eq_true', Bool.not_eq_false', bne_iff_ne, beq_iff_eq, ne_eq, Bool.not_true, Bool.not_false, beq_eq_false_iff_ne, bne_eq_false_iff_eq, Decidable.not_not, Int.not_lt, Int.not_le, Bool.and_eq_true, Bool.and_eq_false_iff, Bool.or_eq_true, Bool.or_eq_false_iff] at hg
    refine x_guard_f rfl rfl (by assumption) ?_
    refine x_guard_f rfl rfl (by assumption) ?_
    refine x_guard_f rfl rfl (by assumption) ?_
    refine x_guard_f rfl rfl (by assumption) ?_
    refine x_guard_f rfl rfl (by assumption) ?_
    refine x_pick_t rfl (by assumption) rfl rfl ?_
    refine xr_nil ⟨nofun, [(.t 0, _), (.t 1, _), (.t 24, _), (.h 0, _)], ⟨rfl, rfl, rfl, rfl, rfl, rfl, rfl, rfl, trivial⟩, ?_⟩
    refine xa_cond rfl (fun hc => ?_) (fun hc => absurd hc (by decide))
    refine xa_seq ?_
    refine xa_region ?_
    refine x_assign rfl rfl rfl ?_
    refine xr_nil ⟨nofun, [(.t 4, _), (.h 0, _)], ⟨rfl, rfl, rfl, rfl, trivial⟩, ?_⟩
    refine xa_ret ?_
    refine ⟨_, _, ?_, ret_val rfl rfl (outs_one rfl rfl)⟩
    refine ⟨_, rfl, rfl, fun h => ?_, fun h => ?_⟩
    · omega
    · omega

theorem keep_s_one : keepOf Try.f77 = [0, 1, 4] := by kernel_rfl
set_option maxHeartbeats 20000000 in
theorem s_one (bs : List Int) (p : Int) (hbs : Bytes bs) (hl : bs.length ≤ 1048576) (hp : 0 ≤ p ∧ p ≤ 1000000000) (xs : List Int) (hx : 1 ≤ xs.length ∧ xs.length ≤ 1000) : ∃ res outs, (fun res outs => ∃ k, res = iV k ∧ outs = [[rdr bs (p + 1)]] ∧ k ∈ xs) res outs ∧ CW cxT 77 [.ownp [rdr bs p] 0 0, L xs] = some (res, outs) := by
  refine fn_introP rfl Try.func77 rfl ⟨by kernel_rfl, rfl, of_decide_eq_true rfl, of_decide_eq_true rfl, by decide⟩ keep_s_one ?_
  refine xa_seq ?_
  refine xa_region ?_
  refine x_assign rfl rfl rfl ?_
  refine xr_nil ⟨nofun, [(.t 0, _), (.t 1, _), (.h 0, _)], ⟨rfl, rfl, rfl, rfl, rfl, rfl, trivial⟩, ?_⟩
  refine xa_seq ?_
  refine xa_region ?_
  refine x_move rfl rfl ?_
  refine x_move rfl rfl ?_
  refine x_move rfl rfl ?_
  refine x_len_map rfl rfl ?_
  obtain ⟨_, _, ⟨k, rfl, rfl, hk1, hk2⟩, hC⟩ := s_pick bs p hbs hl hp xs.length (by omega)
  have hk1 := hk1 (by omega)
  apply x_call rfl
  · apply pa_cons
    · exact pa_box rfl (by decide) rfl
    apply pa_cons
    · exact pa_plain rfl
    exact pa_nil
  · exact hC
  · exact ⟨rfl, rfl, rfl, of_decide_eq_true rfl, rfl⟩
  · exact .inl rfl
  · exact back_cons rfl rfl rfl back_nil
  · exact inst_plain rfl
  · exact fun _ => rfl
  intro g9
  refine x_index_list rfl rfl rfl (fun _ => rfl) (by omega) ?_
  refine x_load_iptV rfl rfl rfl ?_
  refine x_assign rfl rfl rfl ?_
  refine xr_nil ⟨nofun, [(.t 4, _), (.h 0, _)], ⟨rfl, rfl, rfl, rfl, trivial⟩, ?_⟩
  refine xa_ret ?_
  refine ⟨_, _, ?_, ret_val rfl rfl (outs_one rfl rfl)⟩
  refine ⟨_, rfl, rfl, getD_mem (by omega)⟩

theorem keep_s_newReader : keepOf Try.f54 = [0, 2, 5] := by kernel_rfl
set_option maxHeartbeats 20000000 in
theorem s_newReader (bs : List Int) (hl : bs.length ≤ 1048576) : ∃ res outs, (fun res outs => res = .ownp [rdr (bs.take 2000) 0] 0 0 ∧ outs = []) res outs ∧ CW cxT 54 [.list (bs.map uV)] = some (res, outs) := by
  refine fn_introP rfl Try.func54 rfl ⟨by kernel_rfl, rfl, of_decide_eq_true rfl, of_decide_eq_true rfl, by decide⟩ keep_s_newReader ?_
  refine xa_seq ?_
  refine xa_region ?_
  refine x_assign rfl rfl rfl ?_
  refine xr_nil ⟨nofun, [(.t 0, _)], ⟨rfl, rfl, trivial⟩, ?_⟩
  refine xa_seq ?_
  refine xa_seq ?_
  refine xa_region ?_
  refine x_move rfl rfl ?_
  refine x_len_map rfl rfl ?_
  refine x_gtr rfl rfl ?_
  refine xr_nil ⟨nofun, [(.t 0, _), (.t 5, _)], ⟨rfl, rfl, rfl, rfl, trivial⟩, ?_⟩
  refine xa_cond rfl (fun hc => ?_) (fun hc => ?_)
  · try simp only [decide_eq_true_eq, decide_eq_false_iff_not, Bool.not_eq_true', Bool.not_eq_false', bne_iff_ne, beq_iff_eq, ne_eq, Bool.not_true, Bool.not_false, beq_eq_false_iff_ne, bne_eq_false_iff_eq, Decidable.not_not, Int.not_lt, Int.not_le, Bool.and_eq_true, Bool.and_eq_false_iff, Bool.or_eq_true, Bool.or_eq_false_iff, List.length_map] at hc
    refine xa_region ?_
    refine x_move rfl rfl ?_
    refine x_slice_list rfl rfl rfl (Mv.sized_map fun _ => rfl) (optNat_someN rfl) optNat_none (by (simp; omega)) ?_
    refine x_assign rfl rfl rfl ?_
    refine xr_nil ⟨nofun, [(.t 0, _)], ⟨rfl, rfl, trivial⟩, ?_⟩
    refine xa_seq ?_
    refine xa_region ?_
    refine x_move rfl rfl ?_
    refine x_build (fs := [_, _]) rfl rfl rfl rfl rfl ?_
    refine x_box rfl rfl rfl (fun _ => slot_box rfl) (fun _ => rfl) ?_
    intro g10
    (refine x_assign_box rfl rfl rfl rfl (fun _ => slot_box rfl) (fun _ => rfl) ?_; intro g2)
    refine xr_nil ⟨nofun, [(.t 2, _), (.h 2, _)], ⟨rfl, rfl, rfl, rfl, trivial⟩, ?_⟩
    refine xa_ret ?_
    refine ⟨_, _, ?_, ret_box rfl rfl rfl outs_nil⟩
    have e : rdr (bs.take 2000) 0 = .agg [.list ((bs.map uV).take 2000), iV 0] := by unfold rdr; rw [List.map_take]
    rw [e]
    exact ⟨rfl, rfl⟩
  · try simp only [decide_eq_true_eq, decide_eq_false_iff_not, Bool.not_eq_true', Bool.not_eq_false', bne_iff_ne, beq_iff_eq, ne_eq, Bool.not_true, Bool.not_false, beq_eq_false_iff_ne, bne_eq_false_iff_eq, Decidable.not_not, Int.not_lt, Int.not_le, Bool.and_eq_true, Bool.and_eq_false_iff, Bool.or_eq_true, Bool.or_eq_false_iff, List.length_map] at hc
    refine xa_skip ?_
    refine xa_seq ?_
    refine xa_region ?_
    refine x_move rfl rfl ?_
    refine x_build (fs := [_, _]) rfl rfl rfl rfl rfl ?_
    refine x_box rfl rfl rfl (fun _ => slot_box rfl) (fun _ => rfl) ?_
    intro g10
    (refine x_assign_box rfl rfl rfl rfl (fun _ => slot_box rfl) (fun _ => rfl) ?_; intro g2)
    refine xr_nil ⟨nofun, [(.t 2, _), (.h 2, _)], ⟨rfl, rfl, rfl, rfl, trivial⟩, ?_⟩
    refine xa_ret ?_
    refine ⟨_, _, ?_, ret_box rfl rfl rfl outs_nil⟩
    have e : bs.take 2000 = bs := List.take_of_length_le (by omega)
    rw [e]
    exact ⟨rfl, rfl⟩

theorem keep_s_sorted : keepOf Try.f83 = [0, 2, 3] := by kernel_rfl
set_option maxHeartbeats 20000000 in
theorem s_sorted (xs : List Int) (hl : xs.length ≤ maxL) : CW cxT 83 [L xs] = some (.own 1 ((sortI xs).map iV), []) := by
  refine fn_intro rfl Try.func83 rfl ⟨by kernel_rfl, rfl, of_decide_eq_true rfl, of_decide_eq_true rfl, by decide⟩ keep_s_sorted ?_
  refine xa_seq ?_
  refine xa_region ?_
  (refine x_assign_nil rfl rfl (fun _ => rfl) ?_; intro g2)
  refine xr_nil ⟨nofun, [(.t 0, _)], ⟨rfl, rfl, trivial⟩, ?_⟩
  refine xa_seq ?_
  refine xa_region ?_
  refine x_move rfl rfl ?_
  apply x_call rfl
  · apply pa_cons
    · exact pa_plain rfl
    exact pa_nil
  · exact s_Clone xs hl
  · exact ⟨rfl, rfl, rfl, of_decide_eq_true rfl, rfl⟩
  · exact .inl rfl
  · exact back_nil
  · exact inst_own
  · exact fun _ => rfl
  intro g5
  (refine x_assign_own rfl rfl (by (simp; done)) rfl (fun _ => (slot_obj (by exact noRef_map fun _ => rfl))) (fun _ => rfl) ?_; intro g3)
  refine xr_nil ⟨nofun, [(.t 3, _), (.h 3, _)], ⟨rfl, rfl, rfl, rfl, trivial⟩, ?_⟩
  refine xa_seq ?_
  refine xa_region ?_
  refine x_move rfl rfl ?_
  apply x_call rfl
  · apply pa_cons
    · exact pa_write rfl rfl (by decide) (by (simp; done)) (imm_map fun _ => rfl)
    exact pa_nil
  · exact s_Sort _ hl
  · exact ⟨rfl, rfl, rfl, of_decide_eq_true rfl, rfl⟩
  · exact .inl rfl
  · exact back_cons rfl (by simp) (nilFit_int _ _) back_nil
  · exact inst_tup rfl
  · (intro _; exact tRefs_cons (slot_obj (noRef_map fun _ => rfl)) rfl)
  intro g7
  refine xr_nil ⟨nofun, [(.t 3, _), (.h 3, _)], ⟨rfl, rfl, rfl, rfl, trivial⟩, ?_⟩
  refine xa_seq ?_
  refine xa_region ?_
  refine x_move rfl rfl ?_
  (refine x_assign_own rfl rfl (by (simp; done)) rfl (fun _ => (slot_obj (by exact noRef_map fun _ => rfl))) (fun _ => rfl) ?_; intro g2)
  refine xr_nil ⟨nofun, [(.t 2, _), (.h 2, _)], ⟨rfl, rfl, rfl, rfl, trivial⟩, ?_⟩
  refine xa_ret ?_
  refine ret_own' rfl rfl (by (simp; done)) (by exact noRef_map fun _ => rfl) trivial ?_
  rfl

theorem keep_s_IndexFunc2 : keepOf Try.f94 = [0, 1, 4, 8, 7, 9, 5, 16] := by kernel_rfl
set_option maxHeartbeats 20000000 in
theorem s_IndexFunc2 (xs : List Int) (hl : xs.length ≤ 1000) (k : Nat) (a b : AV) (q : Int → Bool) (hq : ∀ x, CW cxT k [iV x, .ipt a 0, .ipt b 0] = some (bV (q x), [])) : ∃ res outs, (fun res outs => ∃ r : Int, res = iV r ∧ outs = [] ∧ decide (0 ≤ r) = xs.any q) res outs ∧ CW cxT 94 [L xs, .clo k [.ipt a 0, .ipt b 0]] = some (res, outs) := by
  refine fn_introP rfl Try.func94 rfl ⟨by kernel_rfl, rfl, of_decide_eq_true rfl, of_decide_eq_true rfl, by decide⟩ keep_s_IndexFunc2 ?_
  refine xa_seq ?_
  refine xa_region ?_
  refine x_assign rfl rfl rfl ?_
  refine xr_nil ⟨nofun, [(.t 0, _), (.t 1, _)], ⟨rfl, rfl, rfl, rfl, trivial⟩, ?_⟩
  refine xa_seq ?_
  refine xa_seq ?_
  refine xa_region ?_
  refine x_move rfl rfl ?_
  refine x_len_map rfl rfl ?_
  refine x_move rfl rfl ?_
  refine xr_nil ⟨nofun, [(.t 0, _), (.t 1, _), (.t 7, _), (.t 8, _)], ⟨rfl, rfl, rfl, rfl, rfl, rfl, rfl, rfl, trivial⟩, ?_⟩
  refine xa_block ?_
  refine xa_loopK (β := Nat) [(.t 0, _), (.t 1, _), (.t 7, _)] (fun (i : Nat) => [(.t 8, iV i)]) (fun (i : Nat) => i ≤ xs.length ∧ ∀ j, j < i → q (xs.getD j default) = false) (fun (i : Nat) => xs.length - i) 0 ⟨rfl, rfl, rfl, rfl, trivial⟩ ⟨Nat.zero_le _, fun j h => by omega⟩ ?_
  intro i hb
  obtain ⟨hi1, hi2⟩ := hb
  refine xa_seq ?_
  refine xa_region ?_
  refine x_lss rfl rfl ?_
  refine xr_nil ⟨nofun, [(.t 0, _), (.t 1, _), (.t 7, _), (.t 8, _), (.t 9, _)], ⟨rfl, rfl, rfl, rfl, rfl, rfl, rfl, rfl, rfl, rfl, trivial⟩, ?_⟩
  refine xa_seq ?_
  refine xa_cond rfl (fun hc => ?_) (fun hc => ?_)
  · try simp only [decide_eq_true_eq, decide_eq_false_iff_not, Bool.not_eq_true', Bool.not_eq_false', bne_iff_ne, beq_iff_eq, ne_eq, Bool.not_true, Bool.not_false, beq_eq_false_iff_ne, bne_eq_false_iff_eq, Decidable.not_not, Int.not_lt, Int.not_le, Bool.and_eq_true, Bool.and_eq_false_iff, Bool.or_eq_true, Bool.or_eq_false_iff, List.length_map] at hc
    refine xa_skip ?_
    refine xa_seq ?_
    refine xa_block ?_
    refine xa_seq ?_
    refine xa_region ?_
    refine x_move rfl rfl ?_
    refine x_assign rfl rfl rfl ?_
    refine xr_nil ⟨nofun, [(.t 0, _), (.t 1, _), (.t 5, _), (.t 7, _), (.t 8, _)], ⟨rfl, rfl, rfl, rfl, rfl, rfl, rfl, rfl, rfl, rfl, trivial⟩, ?_⟩
    refine xa_seq ?_
    refine xa_region ?_
    refine x_move rfl rfl ?_
    refine x_move rfl rfl ?_
    refine x_move rfl rfl ?_
    refine x_index_listN rfl rfl rfl (fun _ => rfl) (by omega) ?_
    refine x_load_iptV rfl rfl rfl ?_
    apply x_callV rfl rfl
    · apply pa_cons
      · exact pa_plain rfl
      apply pa_cons
      · exact pa_plain rfl
      apply pa_cons
      · exact pa_plain rfl
      exact pa_nil
    · exact hq (xs.getD i default)
    · exact ⟨rfl, rfl, rfl, of_decide_eq_true rfl, rfl⟩
    · exact .inl rfl
    · exact back_nil
    · exact inst_plain rfl
    · exact fun _ => rfl
    intro g16
    refine xr_nil ⟨nofun, [(.t 0, _), (.t 1, _), (.t 5, _), (.t 7, _), (.t 8, _), (.t 16, _)], ⟨rfl, rfl, rfl, rfl, rfl, rfl, rfl, rfl, rfl, rfl, rfl, rfl, trivial⟩, ?_⟩
    refine xa_cond rfl (fun hc => ?_) (fun hc => ?_)
    · try simp only [decide_eq_true_eq, decide_eq_false_iff_not, Bool.not_eq_true', Bool.not_eq_false', bne_iff_ne, beq_iff_eq, ne_eq, Bool.not_true, Bool.not_false, beq_eq_false_iff_ne, bne_eq_false_iff_eq, Decidable.not_not, Int.not_lt, Int.not_le, Bool.and_eq_true, Bool.and_eq_false_iff, Bool.or_eq_true, Bool.or_eq_false_iff, List.length_map] at hc
      refine xa_seq ?_
      refine xa_region ?_
      refine x_move rfl rfl ?_
      refine x_assign rfl rfl rfl ?_
      refine xr_nil ⟨nofun, [(.t 4, _)], ⟨rfl, rfl, trivial⟩, ?_⟩
      refine xa_ret ?_
      refine ⟨_, _, ?_, ret_val rfl rfl outs_nil⟩
      exact ⟨_, rfl, rfl, any_hit (by omega) hc⟩
    · try simp only [decide_eq_true_eq, decide_eq_false_iff_not, Bool.not_eq_true', Bool.not_eq_false', bne_iff_ne, beq_iff_eq, ne_eq, Bool.not_true, Bool.not_false, beq_eq_false_iff_ne, bne_eq_false_iff_eq, Decidable.not_not, Int.not_lt, Int.not_le, Bool.and_eq_true, Bool.and_eq_false_iff, Bool.or_eq_true, Bool.or_eq_false_iff, List.length_map] at hc
      refine xa_skip ?_
      refine xa_region ?_
      refine x_add rfl rfl (inI64 (by omega)) ?_
      refine x_move rfl rfl ?_
      refine xr_nil ⟨nofun, [(.t 0, _), (.t 1, _), (.t 7, _), (.t 8, _)], ⟨rfl, rfl, rfl, rfl, rfl, rfl, rfl, rfl, trivial⟩, ?_⟩
      refine ⟨i + 1, ⟨by omega, fun a ha => by rcases Nat.lt_succ_iff_lt_or_eq.1 ha with h | h; exact hi2 a h; subst h; exact hc⟩, (by omega), ⟨rfl, rfl, rfl, rfl, trivial⟩⟩
  · try simp only [decide_eq_true_eq, decide_eq_false_iff_not, Bool.not_eq_true', Bool.not_eq_false', bne_iff_ne, beq_iff_eq, ne_eq, Bool.not_true, Bool.not_false, beq_eq_false_iff_ne, bne_eq_false_iff_eq, Decidable.not_not, Int.not_lt, Int.not_le, Bool.and_eq_true, Bool.and_eq_false_iff, Bool.or_eq_true, Bool.or_eq_false_iff, List.length_map] at hc
    refine xa_exit ?_
    refine xa_seq ?_
    refine xa_region ?_
    refine x_assign rfl rfl rfl ?_
    refine xr_nil ⟨nofun, [(.t 4, _)], ⟨rfl, rfl, trivial⟩, ?_⟩
    refine xa_ret ?_
    refine ⟨_, _, ?_, ret_val rfl rfl outs_nil⟩
    exact ⟨-1, rfl, rfl, any_miss fun j hj => hi2 j (by omega)⟩

theorem keep_s_ContainsFunc2 : keepOf Try.f87 = [0, 1, 4] := by kernel_rfl
set_option maxHeartbeats 20000000 in
theorem s_ContainsFunc2 (xs : List Int) (hl : xs.length ≤ 1000) (k : Nat) (a b : AV) (q : Int → Bool) (hq : ∀ x, CW cxT k [iV x, .ipt a 0, .ipt b 0] = some (bV (q x), [])) : CW cxT 87 [L xs, .clo k [.ipt a 0, .ipt b 0]] = some (bV (xs.any q), []) := by
  obtain ⟨_, _, ⟨r, rfl, rfl, hr⟩, hC⟩ := s_IndexFunc2 xs hl k a b q hq
  refine fn_intro rfl Try.func87 rfl ⟨by kernel_rfl, rfl, of_decide_eq_true rfl, of_decide_eq_true rfl, by decide⟩ keep_s_ContainsFunc2 ?_
  refine xa_seq ?_
  refine xa_region ?_
  refine x_assign rfl rfl rfl ?_
  refine xr_nil ⟨nofun, [(.t 0, _), (.t 1, _)], ⟨rfl, rfl, rfl, rfl, trivial⟩, ?_⟩
  refine xa_seq ?_
  refine xa_region ?_
  refine x_move rfl rfl ?_
  refine x_move rfl rfl ?_
  apply x_call rfl
  · apply pa_cons
    · exact pa_plain rfl
    apply pa_cons
    · exact pa_clo rfl (pc_ipt (pc_ipt pc_nil))
    exact pa_nil
  · exact hC
  · exact ⟨rfl, rfl, rfl, of_decide_eq_true rfl, rfl⟩
  · exact .inl rfl
  · exact back_nil
  · exact inst_plain rfl
  · exact fun _ => rfl
  intro g7
  refine x_geq rfl rfl ?_
  refine x_assign rfl rfl rfl ?_
  refine xr_nil ⟨nofun, [(.t 4, _)], ⟨rfl, rfl, trivial⟩, ?_⟩
  refine xa_ret ?_
  refine ret_val' rfl rfl trivial ?_
  rw [← hr]

theorem keep_s_allIn1 : keepOf Try.f88 = [0, 1, 2, 4] := by kernel_rfl
set_option maxHeartbeats 20000000 in
theorem s_allIn1 (x lo hi : Int) : CW cxT 88 [iV x, .ipt (iV lo) 0, .ipt (iV hi) 0] = some (bV (!(decide (lo ≤ x) && decide (x ≤ hi))), []) := by
  refine fn_intro rfl Try.func88 rfl ⟨by kernel_rfl, rfl, of_decide_eq_true rfl, of_decide_eq_true rfl, by decide⟩ keep_s_allIn1 ?_
  refine xa_seq ?_
  refine xa_region ?_
  refine x_assign rfl rfl rfl ?_
  refine xr_nil ⟨nofun, [(.t 0, _), (.t 1, _), (.t 2, _)], ⟨rfl, rfl, rfl, rfl, rfl, rfl, trivial⟩, ?_⟩
  refine xa_seq ?_
  refine xa_region ?_
  refine x_move rfl rfl ?_
  refine x_load_iptV rfl rfl rfl ?_
  refine x_load_iptV rfl rfl rfl ?_
  apply x_call rfl
  · apply pa_cons
    · exact pa_plain rfl
    apply pa_cons
    · exact pa_plain rfl
    apply pa_cons
    · exact pa_plain rfl
    exact pa_nil
  · exact s_in _ _ _
  · exact ⟨rfl, rfl, rfl, of_decide_eq_true rfl, rfl⟩
  · exact .inl rfl
  · exact back_nil
  · exact inst_plain rfl
  · exact fun _ => rfl
  intro g8
  refine x_not rfl ?_
  refine x_assign rfl rfl rfl ?_
  refine xr_nil ⟨nofun, [(.t 4, _)], ⟨rfl, rfl, trivial⟩, ?_⟩
  refine xa_ret ?_
  refine ret_val' rfl rfl trivial ?_
  rfl

theorem keep_s_allIn : keepOf Try.f73 = [0, 1, 2, 6, 4, 5] := by kernel_rfl
set_option maxHeartbeats 20000000 in
theorem s_allIn (xs : List Int) (hl : xs.length ≤ 1000) (lo hi : Int) : CW cxT 73 [L xs, iV lo, iV hi] = some (bV (allB lo hi xs), []) := by
  refine fn_intro rfl Try.func73 rfl ⟨by kernel_rfl, rfl, of_decide_eq_true rfl, of_decide_eq_true rfl, by decide⟩ keep_s_allIn ?_
  refine xa_seq ?_
  refine xa_region ?_
  refine x_box rfl rfl rfl (fun _ => slot_box rfl) (fun _ => rfl) ?_
  intro g4
  refine x_box rfl rfl rfl (fun _ => slot_box rfl) (fun _ => rfl) ?_
  intro g5
  refine x_assign rfl rfl rfl ?_
  refine xr_nil ⟨nofun, [(.t 0, _), (.t 4, _), (.t 5, _), (.h 4, _), (.h 5, _)], ⟨rfl, rfl, rfl, rfl, rfl, rfl, rfl, rfl, rfl, rfl, trivial⟩, ?_⟩
  refine xa_seq ?_
  refine xa_region ?_
  refine x_move rfl rfl ?_
  refine x_makeFunc rfl rfl ?_
  apply x_call rfl
  · apply pa_cons
    · exact pa_plain rfl
    apply pa_cons
    · exact pa_clo rfl (pc_box rfl rfl (pc_box rfl rfl pc_nil))
    exact pa_nil
  · exact s_ContainsFunc2 xs hl 88 (iV lo) (iV hi) _ (fun x => s_allIn1 x lo hi)
  · exact ⟨rfl, rfl, rfl, of_decide_eq_true rfl, rfl⟩
  · exact .inr ⟨rfl, rfl⟩
  · exact back_nil
  · exact inst_plain rfl
  · exact fun _ => rfl
  intro g9
  refine x_not rfl ?_
  refine x_assign rfl rfl rfl ?_
  refine xr_nil ⟨nofun, [(.t 6, _)], ⟨rfl, rfl, trivial⟩, ?_⟩
  refine xa_ret ?_
  refine ret_val' rfl rfl trivial ?_
  exact congrArg bV (allB_any lo hi xs)

theorem keep_s_validData : keepOf Try.f71 = [0, 2, 3, 7, 15] := by kernel_rfl
set_option maxHeartbeats 20000000 in
theorem s_validData (xs : List Int) (hl : xs.length ≤ 1048576) : CW cxT 71 [L xs] = some (bV (vd xs), []) := by
  refine fn_intro rfl Try.func71 rfl ⟨by kernel_rfl, rfl, of_decide_eq_true rfl, of_decide_eq_true rfl, by decide⟩ keep_s_validData ?_
  refine xa_seq ?_
  refine xa_region ?_
  refine x_assign rfl rfl rfl ?_
  refine xr_nil ⟨nofun, [(.t 0, _)], ⟨rfl, rfl, trivial⟩, ?_⟩
  refine xa_seq ?_
  refine xa_seq ?_
  refine xa_region ?_
  refine x_assign rfl rfl rfl ?_
  refine xr_nil ⟨nofun, [(.t 0, _), (.t 3, _)], ⟨rfl, rfl, rfl, rfl, trivial⟩, ?_⟩
  refine xa_block ?_
  refine xa_loopK (β := Nat) [(.t 0, _)] (fun (i : Nat) => [(.t 3, iV i)]) (fun (i : Nat) => i ≤ xs.length ∧ ∀ j, j < i → -200 ≤ xs.getD j default ∧ xs.getD j default ≤ 200) (fun (i : Nat) => xs.length - i) 0 ⟨rfl, rfl, trivial⟩ ⟨Nat.zero_le _, fun j h => by omega⟩ ?_
  intro i hb
  obtain ⟨hi1, hi2⟩ := hb
  refine xa_seq ?_
  refine xa_seq ?_
  refine xa_region ?_
  refine x_move rfl rfl ?_
  refine x_move rfl rfl ?_
  refine x_len_map rfl rfl ?_
  refine x_lss rfl rfl ?_
  refine xr_nil ⟨nofun, [(.t 0, _), (.t 3, _), (.t 7, _)], ⟨rfl, rfl, rfl, rfl, rfl, rfl, trivial⟩, ?_⟩
  refine xa_cond rfl (fun hc => ?_) (fun hc => ?_)
  · try simp only [decide_eq_true_eq, decide_eq_false_iff_not, Bool.not_eq_true', Bool.not_eq_false', bne_iff_ne, beq_iff_eq, ne_eq, Bool.not_true, Bool.not_false, beq_eq_false_iff_ne, bne_eq_false_iff_eq, Decidable.not_not, Int.not_lt, Int.not_le, Bool.and_eq_true, Bool.and_eq_false_iff, Bool.or_eq_true, Bool.or_eq_false_iff, List.length_map] at hc
    refine xa_skip ?_
    refine xa_seq ?_
    refine xa_block ?_
    refine xa_seq ?_
    refine xa_region ?_
    refine x_move rfl rfl ?_
    refine x_move rfl rfl ?_
    refine x_index_listN rfl rfl rfl (fun _ => rfl) (by omega) ?_
    refine x_load_iptV rfl rfl rfl ?_
    apply x_call rfl
    · apply pa_cons
      · exact pa_plain rfl
      apply pa_cons
      · exact pa_plain rfl
      apply pa_cons
      · exact pa_plain rfl
      exact pa_nil
    · exact s_inRange _ _ _
    · exact ⟨rfl, rfl, rfl, of_decide_eq_true rfl, rfl⟩
    · exact .inl rfl
    · exact back_nil
    · exact inst_plain rfl
    · exact fun _ => rfl
    intro g14
    refine x_not rfl ?_
    refine xr_nil ⟨nofun, [(.t 0, _), (.t 3, _), (.t 15, _)], ⟨rfl, rfl, rfl, rfl, rfl, rfl, trivial⟩, ?_⟩
    refine xa_cond rfl (fun hc => ?_) (fun hc => ?_)
    · try simp only [decide_eq_true_eq, decide_eq_false_iff_not, Bool.not_eq_true', Bool.not_eq_false', bne_iff_ne, beq_iff_eq, ne_eq, Bool.not_true, Bool.not_false, beq_eq_false_iff_ne, bne_eq_false_iff_eq, Decidable.not_not, Int.not_lt, Int.not_le, Bool.and_eq_true, Bool.and_eq_false_iff, Bool.or_eq_true, Bool.or_eq_false_iff, List.length_map] at hc
      refine xa_seq ?_
      refine xa_region ?_
      refine x_assign rfl rfl rfl ?_
      refine xr_nil ⟨nofun, [(.t 2, _)], ⟨rfl, rfl, trivial⟩, ?_⟩
      refine xa_ret ?_
      refine ret_val' rfl rfl trivial ?_
      rw [vd, allB_not (show i < xs.length by omega) (by (simp_all; omega)), Bool.and_false]
      rfl
    · try simp only [decide_eq_true_eq, decide_eq_false_iff_not, Bool.not_eq_true', Bool.not_eq_false', bne_iff_ne, beq_iff_eq, ne_eq, Bool.not_true, Bool.not_false, beq_eq_false_iff_ne, bne_eq_false_iff_eq, Decidable.not_not, Int.not_lt, Int.not_le, Bool.and_eq_true, Bool.and_eq_false_iff, Bool.or_eq_true, Bool.or_eq_false_iff, List.length_map] at hc
      refine xa_skip ?_
      refine xa_region ?_
      refine x_move rfl rfl ?_
      refine x_add rfl rfl (inI64 (by omega)) ?_
      refine x_assign rfl rfl rfl ?_
      refine xr_nil ⟨nofun, [(.t 0, _), (.t 3, _)], ⟨rfl, rfl, rfl, rfl, trivial⟩, ?_⟩
      refine ⟨i + 1, ⟨by omega, fun j hj => by rcases Nat.lt_succ_iff_lt_or_eq.1 hj with h | h; (· exact hi2 j h); (· subst h; assumption)⟩, (by omega), ⟨rfl, rfl, trivial⟩⟩
  · try simp only [decide_eq_true_eq, decide_eq_false_iff_not, Bool.not_eq_true', Bool.not_eq_false', bne_iff_ne, beq_iff_eq, ne_eq, Bool.not_true, Bool.not_false, beq_eq_false_iff_ne, bne_eq_false_iff_eq, Decidable.not_not, Int.not_lt, Int.not_le, Bool.and_eq_true, Bool.and_eq_false_iff, Bool.or_eq_true, Bool.or_eq_false_iff, List.length_map] at hc
    refine xa_exit ?_
    refine xa_seq ?_
    refine xa_region ?_
    refine x_move rfl rfl ?_
    refine x_len_map rfl rfl ?_
    refine x_leq rfl rfl ?_
    refine x_assign rfl rfl rfl ?_
    refine xr_nil ⟨nofun, [(.t 2, _)], ⟨rfl, rfl, trivial⟩, ?_⟩
    refine xa_ret ?_
    refine ret_val' rfl rfl trivial ?_
    rw [vd, allB_of fun j hj => hi2 j (by omega), Bool.and_true]
    exact congrArg bV (decide_eq_decide.2 (by omega))

theorem keep_s_validDataI : keepOf Try.f72 = [0, 2] := by kernel_rfl
set_option maxHeartbeats 20000000 in
theorem s_validDataI (xs : List Int) (hl : xs.length ≤ 1048576) : CW cxT 72 [L xs] = some (bV (vd xs), []) := by
  refine fn_intro rfl Try.func72 rfl ⟨by kernel_rfl, rfl, of_decide_eq_true rfl, of_decide_eq_true rfl, by decide⟩ keep_s_validDataI ?_
  refine xa_seq ?_
  refine xa_region ?_
  refine x_assign rfl rfl rfl ?_
  refine xr_nil ⟨nofun, [(.t 0, _)], ⟨rfl, rfl, trivial⟩, ?_⟩
  refine xa_seq ?_
  refine xa_region ?_
  refine x_move rfl rfl ?_
  refine x_len_map rfl rfl ?_
  refine x_leq rfl rfl ?_
  refine x_move rfl rfl ?_
  refine x_guard_split rfl rfl (fun hg0 => ?_) (fun hg0 => ?_)
  · have hg := hg0; try simp only [decide_eq_true_eq, decide_eq_false_iff_not, Bool.not_eq_true', Bool.not_eq_false', bne_iff_ne, beq_iff_eq, ne_eq, Bool.not_true, Bool.not_false, beq_eq_false_iff_ne, bne_eq_false_iff_eq, Decidable.not_not, Int.not_lt, Int.not_le, Bool.and_eq_true, Bool.and_eq_false_iff, Bool.or_eq_true, Bool.or_eq_false_iff] at hg
    refine x_move rfl rfl ?_
    refine x_guard_t rfl rfl (by assumption) ?_
    apply x_call rfl
    · apply pa_cons
      · exact pa_plain rfl
      apply pa_cons
      · exact pa_plain rfl
      apply pa_cons
      · exact pa_plain rfl
      exact pa_nil
    · exact s_allIn xs (by omega) (-200) 200
    · exact ⟨rfl, rfl, rfl, of_decide_eq_true rfl, rfl⟩
    · exact .inl rfl
    · exact back_nil
    · exact inst_plain rfl
    · exact fun _ => rfl
    intro g8
    refine x_pick_t rfl (by assumption) rfl rfl ?_
    refine x_assign rfl rfl rfl ?_
    refine xr_nil ⟨nofun, [(.t 2, _)], ⟨rfl, rfl, trivial⟩, ?_⟩
    refine xa_ret ?_
    refine ret_val' rfl rfl trivial ?_
    cases hb : allB (-200) 200 xs <;> simp_all [vd, ofConst] <;> omega
  · have hg := hg0; try simp only [decide_eq_true_eq, decide_eq_false_iff_not, Bool.not_eq_true', Bool.not_eq_false', bne_iff_ne, beq_iff_eq, ne_eq, Bool.not_true, Bool.not_false, beq_eq_false_iff_ne, bne_eq_false_iff_eq, Decidable.not_not, Int.not_lt, Int.not_le, Bool.and_eq_true, Bool.and_eq_false_iff, Bool.or_eq_true, Bool.or_eq_false_iff] at hg
    refine x_guard_f rfl rfl (by assumption) ?_
    refine x_pick_f rfl (by assumption) rfl rfl ?_
    refine x_assign rfl rfl rfl ?_
    refine xr_nil ⟨nofun, [(.t 2, _)], ⟨rfl, rfl, trivial⟩, ?_⟩
    refine xa_ret ?_
    refine ret_val' rfl rfl trivial ?_
    cases hb : allB (-200) 200 xs <;> simp_all [vd, ofConst] <;> omega

theorem keep_s_validCases : keepOf Try.f48 = [0, 1, 4, 5, 9, 17] := by kernel_rfl
set_option maxHeartbeats 20000000 in
theorem s_validCases (xs ms : List Int) (hl : xs.length ≤ 1048576) (hl2 : ms.length ≤ 1048576) : CW cxT 48 [L xs, L ms] = some (bV (vca xs ms), []) := by
  refine fn_intro rfl Try.func48 rfl ⟨by kernel_rfl, rfl, of_decide_eq_true rfl, of_decide_eq_true rfl, by decide⟩ keep_s_validCases ?_
  refine xa_seq ?_
  refine xa_region ?_
  refine x_assign rfl rfl rfl ?_
  refine xr_nil ⟨nofun, [(.t 0, _), (.t 1, _)], ⟨rfl, rfl, rfl, rfl, trivial⟩, ?_⟩
  refine xa_seq ?_
  refine xa_seq ?_
  refine xa_region ?_
  refine x_assign rfl rfl rfl ?_
  refine xr_nil ⟨nofun, [(.t 0, _), (.t 1, _), (.t 5, _)], ⟨rfl, rfl, rfl, rfl, rfl, rfl, trivial⟩, ?_⟩
  refine xa_block ?_
  refine xa_loopK (β := Nat) [(.t 0, _), (.t 1, _)] (fun (i : Nat) => [(.t 5, iV i)]) (fun (i : Nat) => i ≤ ms.length ∧ ∀ j, j < i → 0 ≤ ms.getD j default ∧ ms.getD j default ≤ 1) (fun (i : Nat) => ms.length - i) 0 ⟨rfl, rfl, rfl, trivial⟩ ⟨Nat.zero_le _, fun j h => by omega⟩ ?_
  intro i hb
  obtain ⟨hi1, hi2⟩ := hb
  refine xa_seq ?_
  refine xa_seq ?_
  refine xa_region ?_
  refine x_move rfl rfl ?_
  refine x_move rfl rfl ?_
  refine x_len_map rfl rfl ?_
  refine x_lss rfl rfl ?_
  refine xr_nil ⟨nofun, [(.t 0, _), (.t 1, _), (.t 5, _), (.t 9, _)], ⟨rfl, rfl, rfl, rfl, rfl, rfl, rfl, rfl, trivial⟩, ?_⟩
  refine xa_cond rfl (fun hc => ?_) (fun hc => ?_)
  · try simp only [decide_eq_true_eq, decide_eq_false_iff_not, Bool.not_eq_true', Bool.not_eq_false', bne_iff_ne, beq_iff_eq, ne_eq, Bool.not_true, Bool.not_false, beq_eq_false_iff_ne, bne_eq_false_iff_eq, Decidable.not_not, Int.not_lt, Int.not_le, Bool.and_eq_true, Bool.and_eq_false_iff, Bool.or_eq_true, Bool.or_eq_false_iff, List.length_map] at hc
    refine xa_skip ?_
    refine xa_seq ?_
    refine xa_block ?_
    refine xa_seq ?_
    refine xa_region ?_
    refine x_move rfl rfl ?_
    refine x_move rfl rfl ?_
    refine x_index_listN rfl rfl rfl (fun _ => rfl) (by omega) ?_
    refine x_load_iptV rfl rfl rfl ?_
    apply x_call rfl
    · apply pa_cons
      · exact pa_plain rfl
      apply pa_cons
      · exact pa_plain rfl
      apply pa_cons
      · exact pa_plain rfl
      exact pa_nil
    · exact s_inRange _ _ _
    · exact ⟨rfl, rfl, rfl, of_decide_eq_true rfl, rfl⟩
    · exact .inl rfl
    · exact back_nil
    · exact inst_plain rfl
    · exact fun _ => rfl
    intro g16
    refine x_not rfl ?_
    refine xr_nil ⟨nofun, [(.t 0, _), (.t 1, _), (.t 5, _), (.t 17, _)], ⟨rfl, rfl, rfl, rfl, rfl, rfl, rfl, rfl, trivial⟩, ?_⟩
    refine xa_cond rfl (fun hc => ?_) (fun hc => ?_)
    · try simp only [decide_eq_true_eq, decide_eq_false_iff_not, Bool.not_eq_true', Bool.not_eq_false', bne_iff_ne, beq_iff_eq, ne_eq, Bool.not_true, Bool.not_false, beq_eq_false_iff_ne, bne_eq_false_iff_eq, Decidable.not_not, Int.not_lt, Int.not_le, Bool.and_eq_true, Bool.and_eq_false_iff, Bool.or_eq_true, Bool.or_eq_false_iff, List.length_map] at hc
      refine xa_seq ?_
      refine xa_region ?_
      refine x_assign rfl rfl rfl ?_
      refine xr_nil ⟨nofun, [(.t 4, _)], ⟨rfl, rfl, trivial⟩, ?_⟩
      refine xa_ret ?_
      refine ret_val' rfl rfl trivial ?_
      rw [vca, allB_not (show i < ms.length by omega) (by (simp_all; omega)), Bool.and_false]
      rfl
    · try simp only [decide_eq_true_eq, decide_eq_false_iff_not, Bool.not_eq_true', Bool.not_eq_false', bne_iff_ne, beq_iff_eq, ne_eq, Bool.not_true, Bool.not_false, beq_eq_false_iff_ne, bne_eq_false_iff_eq, Decidable.not_not, Int.not_lt, Int.not_le, Bool.and_eq_true, Bool.and_eq_false_iff, Bool.or_eq_true, Bool.or_eq_false_iff, List.length_map] at hc
      refine xa_skip ?_
      refine xa_region ?_
      refine x_move rfl rfl ?_
      refine x_add rfl rfl (inI64 (by omega)) ?_
      refine x_assign rfl rfl rfl ?_
      refine xr_nil ⟨nofun, [(.t 0, _), (.t 1, _), (.t 5, _)], ⟨rfl, rfl, rfl, rfl, rfl, rfl, trivial⟩, ?_⟩
      refine ⟨i + 1, ⟨by omega, fun j hj => by rcases Nat.lt_succ_iff_lt_or_eq.1 hj with h | h; (· exact hi2 j h); (· subst h; assumption)⟩, (by omega), ⟨rfl, rfl, rfl, trivial⟩⟩
  · try simp only [decide_eq_true_eq, decide_eq_false_iff_not, Bool.not_eq_true', Bool.not_eq_false', bne_iff_ne, beq_iff_eq, ne_eq, Bool.not_true, Bool.not_false, beq_eq_false_iff_ne, bne_eq_false_iff_eq, Decidable.not_not, Int.not_lt, Int.not_le, Bool.and_eq_true, Bool.and_eq_false_iff, Bool.or_eq_true, Bool.or_eq_false_iff, List.length_map] at hc
    refine xa_exit ?_
    refine xa_seq ?_
    refine xa_region ?_
    refine x_move rfl rfl ?_
    apply x_call rfl
    · apply pa_cons
      · exact pa_plain rfl
      exact pa_nil
    · exact s_validData xs hl
    · exact ⟨rfl, rfl, rfl, of_decide_eq_true rfl, rfl⟩
    · exact .inl rfl
    · exact back_nil
    · exact inst_plain rfl
    · exact fun _ => rfl
    intro g19
    refine x_move rfl rfl ?_
    refine x_guard_split rfl rfl (fun hg0 => ?_) (fun hg0 => ?_)
    · have hg := hg0; try simp only [decide_eq_true_eq, decide_eq_false_iff_not, Bool.not_eq_true', Bool.not_eq_false', bne_iff_ne, beq_iff_eq, ne_eq, Bool.not_true, Bool.not_false, beq_eq_false_iff_ne, bne_eq_false_iff_eq, Decidable.not_not, Int.not_lt, Int.not_le, Bool.and_eq_true, Bool.and_eq_false_iff, Bool.or_eq_true, Bool.or_eq_false_iff] at hg
      refine x_move rfl rfl ?_
      refine x_guard_t rfl rfl (by assumption) ?_
      refine x_len_map rfl rfl ?_
      refine x_guard_t rfl rfl (by assumption) ?_
      refine x_move rfl rfl ?_
      refine x_guard_t rfl rfl (by assumption) ?_
      refine x_len_map rfl rfl ?_
      refine x_guard_t rfl rfl (by assumption) ?_
      refine x_eql rfl rfl ?_
      refine x_pick_t rfl (by assumption) rfl rfl ?_
      refine x_move rfl rfl ?_
      refine x_guard_split rfl rfl (fun hg0 => ?_) (fun hg0 => ?_)
      · have hg := hg0; try simp only [decide_eq_true_eq, decide_eq_false_iff_not, Bool.not_eq_true', Bool.not_eq_false', bne_iff_ne, beq_iff_eq, ne_eq, Bool.not_true, Bool.not_false, beq_eq_false_iff_ne, bne_eq_false_iff_eq, Decidable.not_not, Int.not_lt, Int.not_le, Bool.and_eq_true, Bool.and_eq_false_iff, Bool.or_eq_true, Bool.or_eq_false_iff] at hg
        refine x_move rfl rfl ?_
        refine x_guard_t rfl rfl (by assumption) ?_
        refine x_len_map rfl rfl ?_
        refine x_guard_t rfl rfl (by assumption) ?_
        refine x_gtr rfl rfl ?_
        refine x_pick_t rfl (by assumption) rfl rfl ?_
        refine x_assign rfl rfl rfl ?_
        refine xr_nil ⟨nofun, [(.t 4, _)], ⟨rfl, rfl, trivial⟩, ?_⟩
        refine xa_ret ?_
        refine ret_val' rfl rfl trivial ?_
        rw [vca, allB_of fun j hj => hi2 j (by omega), Bool.and_true]
        cases hvd : vd xs <;> simp_all [ofConst] <;> (rw [Bool.eq_iff_iff]; simp; omega)
      · have hg := hg0; try simp only [decide_eq_true_eq, decide_eq_false_iff_not, Bool.not_eq_true', Bool.not_eq_false', bne_iff_ne, beq_iff_eq, ne_eq, Bool.not_true, Bool.not_false, beq_eq_false_iff_ne, bne_eq_false_iff_eq, Decidable.not_not, Int.not_lt, Int.not_le, Bool.and_eq_true, Bool.and_eq_false_iff, Bool.or_eq_true, Bool.or_eq_false_iff] at hg
        refine x_guard_f rfl rfl (by assumption) ?_
        refine x_guard_f rfl rfl (by assumption) ?_
        refine x_pick_f rfl (by assumption) rfl rfl ?_
        refine x_assign rfl rfl rfl ?_
        refine xr_nil ⟨nofun, [(.t 4, _)], ⟨rfl, rfl, trivial⟩, ?_⟩
        refine xa_ret ?_
        refine ret_val' rfl rfl trivial ?_
        rw [vca, allB_of fun j hj => hi2 j (by omega), Bool.and_true]
        cases hvd : vd xs <;> simp_all [ofConst] <;> omega
    · have hg := hg0; try simp only [decide_eq_true_eq, decide_eq_false_iff_not, Bool.not_eq_true', Bool.not_eq_false', bne_iff_ne, beq_iff_eq, ne_eq, Bool.not_true, Bool.not_false, beq_eq_false_iff_ne, bne_eq_false_iff_eq, Decidable.not_not, Int.not_lt, Int.not_le, Bool.and_eq_true, Bool.and_eq_false_iff, Bool.or_eq_true, Bool.or_eq_false_iff] at hg
      refine x_guard_f rfl rfl (by assumption) ?_
      refine x_guard_f rfl rfl (by assumption) ?_
      refine x_guard_f rfl rfl (by assumption) ?_
      refine x_guard_f rfl rfl (by assumption) ?_
      refine x_pick_f rfl (by assumption) rfl rfl ?_
      refine x_move rfl rfl ?_
      refine x_guard_f rfl rfl (by rfl) ?_
      refine x_guard_f rfl rfl (by rfl) ?_
      refine x_guard_f rfl rfl (by rfl) ?_
      refine x_pick_f rfl (by rfl) rfl rfl ?_
      refine x_assign rfl rfl rfl ?_
      refine xr_nil ⟨nofun, [(.t 4, _)], ⟨rfl, rfl, trivial⟩, ?_⟩
      refine xa_ret ?_
      refine ret_val' rfl rfl trivial ?_
      rw [vca, allB_of fun j hj => hi2 j (by omega), Bool.and_true]
      cases hvd : vd xs <;> simp_all [ofConst] <;> first | omega | (rw [Bool.eq_iff_iff]; simp; omega)

theorem keep_s_validCasesI : keepOf Try.f50 = [0, 1, 4] := by kernel_rfl
set_option maxHeartbeats 20000000 in
theorem s_validCasesI (xs ms : List Int) (hl : xs.length ≤ 1048576) (hl2 : ms.length ≤ 1048576) : CW cxT 50 [L xs, L ms] = some (bV (vca xs ms), []) := by
  refine fn_intro rfl Try.func50 rfl ⟨by kernel_rfl, rfl, of_decide_eq_true rfl, of_decide_eq_true rfl, by decide⟩ keep_s_validCasesI ?_
  refine xa_seq ?_
  refine xa_region ?_
  refine x_assign rfl rfl rfl ?_
  refine xr_nil ⟨nofun, [(.t 0, _), (.t 1, _)], ⟨rfl, rfl, rfl, rfl, trivial⟩, ?_⟩
  refine xa_seq ?_
  refine xa_region ?_
  refine x_move rfl rfl ?_
  refine x_len_map rfl rfl ?_
  refine x_gtr rfl rfl ?_
  refine x_move rfl rfl ?_
  refine x_guard_split rfl rfl (fun hg0 => ?_) (fun hg0 => ?_)
  · have hg := hg0; try simp only [decide_eq_true_eq, decide_eq_false_iff_not, Bool.not_eq_true', Bool.not_eq_false', bne_iff_ne, beq_iff_eq, ne_eq, Bool.not_true, Bool.not_false, beq_eq_false_iff_ne, bne_eq_false_iff_eq, Decidable.not_not, Int.not_lt, Int.not_le, Bool.and_eq_true, Bool.and_eq_false_iff, Bool.or_eq_true, Bool.or_eq_false_iff] at hg
    refine x_move rfl rfl ?_
    refine x_guard_t rfl rfl (by assumption) ?_
    apply x_call rfl
    · apply pa_cons
      · exact pa_plain rfl
      exact pa_nil
    · exact s_validDataI xs hl
    · exact ⟨rfl, rfl, rfl, of_decide_eq_true rfl, rfl⟩
    · exact .inl rfl
    · exact back_nil
    · exact inst_plain rfl
    · exact fun _ => rfl
    intro g10
    refine x_pick_t rfl (by assumption) rfl rfl ?_
    refine x_move rfl rfl ?_
    refine x_guard_split rfl rfl (fun hg0 => ?_) (fun hg0 => ?_)
    · have hg := hg0; try simp only [decide_eq_true_eq, decide_eq_false_iff_not, Bool.not_eq_true', Bool.not_eq_false', bne_iff_ne, beq_iff_eq, ne_eq, Bool.not_true, Bool.not_false, beq_eq_false_iff_ne, bne_eq_false_iff_eq, Decidable.not_not, Int.not_lt, Int.not_le, Bool.and_eq_true, Bool.and_eq_false_iff, Bool.or_eq_true, Bool.or_eq_false_iff] at hg
      refine x_move rfl rfl ?_
      refine x_guard_t rfl rfl (by assumption) ?_
      refine x_len_map rfl rfl ?_
      refine x_guard_t rfl rfl (by assumption) ?_
      refine x_move rfl rfl ?_
      refine x_guard_t rfl rfl (by assumption) ?_
      refine x_len_map rfl rfl ?_
      refine x_guard_t rfl rfl (by assumption) ?_
      refine x_eql rfl rfl ?_
      refine x_pick_t rfl (by assumption) rfl rfl ?_
      refine x_move rfl rfl ?_
      refine x_guard_split rfl rfl (fun hg0 => ?_) (fun hg0 => ?_)
      · have hg := hg0; try simp only [decide_eq_true_eq, decide_eq_false_iff_not, Bool.not_eq_true', Bool.not_eq_false', bne_iff_ne, beq_iff_eq, ne_eq, Bool.not_true, Bool.not_false, beq_eq_false_iff_ne, bne_eq_false_iff_eq, Decidable.not_not, Int.not_lt, Int.not_le, Bool.and_eq_true, Bool.and_eq_false_iff, Bool.or_eq_true, Bool.or_eq_false_iff] at hg
        refine x_move rfl rfl ?_
        refine x_guard_t rfl rfl (by assumption) ?_
        have hvl := vd_len (show vd xs = true by assumption)
        apply x_call rfl
        · apply pa_cons
          · exact pa_plain rfl
          apply pa_cons
          · exact pa_plain rfl
          apply pa_cons
          · exact pa_plain rfl
          exact pa_nil
        · exact s_allIn ms (by omega) 0 1
        · exact ⟨rfl, rfl, rfl, of_decide_eq_true rfl, rfl⟩
        · exact .inl rfl
        · exact back_nil
        · exact inst_plain rfl
        · exact fun _ => rfl
        intro g21
        refine x_pick_t rfl (by assumption) rfl rfl ?_
        refine x_assign rfl rfl rfl ?_
        refine xr_nil ⟨nofun, [(.t 4, _)], ⟨rfl, rfl, trivial⟩, ?_⟩
        refine xa_ret ?_
        refine ret_val' rfl rfl trivial ?_
        cases hvd : vd xs <;> cases hb : allB 0 1 ms <;> simp_all [vca, ofConst] <;> omega
      · have hg := hg0; try simp only [decide_eq_true_eq, decide_eq_false_iff_not, Bool.not_eq_true', Bool.not_eq_false', bne_iff_ne, beq_iff_eq, ne_eq, Bool.not_true, Bool.not_false, beq_eq_false_iff_ne, bne_eq_false_iff_eq, Decidable.not_not, Int.not_lt, Int.not_le, Bool.and_eq_true, Bool.and_eq_false_iff, Bool.or_eq_true, Bool.or_eq_false_iff] at hg
        refine x_guard_f rfl rfl (by assumption) ?_
        refine x_pick_f rfl (by assumption) rfl rfl ?_
        refine x_assign rfl rfl rfl ?_
        refine xr_nil ⟨nofun, [(.t 4, _)], ⟨rfl, rfl, trivial⟩, ?_⟩
        refine xa_ret ?_
        refine ret_val' rfl rfl trivial ?_
        cases hvd : vd xs <;> cases hb : allB 0 1 ms <;> simp_all [vca, ofConst] <;> omega
    · have hg := hg0; try simp only [decide_eq_true_eq, decide_eq_false_iff_not, Bool.not_eq_true', Bool.not_eq_false', bne_iff_ne, beq_iff_eq, ne_eq, Bool.not_true, Bool.not_false, beq_eq_false_iff_ne, bne_eq_false_iff_eq, Decidable.not_not, Int.not_lt, Int.not_le, Bool.and_eq_true, Bool.and_eq_false_iff, Bool.or_eq_true, Bool.or_eq_false_iff] at hg
      refine x_guard_f rfl rfl (by assumption) ?_
      refine x_guard_f rfl rfl (by assumption) ?_
      refine x_guard_f rfl rfl (by assumption) ?_
      refine x_guard_f rfl rfl (by assumption) ?_
      refine x_pick_f rfl (by assumption) rfl rfl ?_
      refine x_move rfl rfl ?_
      refine x_guard_f rfl rfl (by rfl) ?_
      refine x_guard_f rfl rfl (by rfl) ?_
      refine x_pick_f rfl (by rfl) rfl rfl ?_
      refine x_assign rfl rfl rfl ?_
      refine xr_nil ⟨nofun, [(.t 4, _)], ⟨rfl, rfl, trivial⟩, ?_⟩
      refine xa_ret ?_
      refine ret_val' rfl rfl trivial ?_
      cases hvd : vd xs <;> cases hb : allB 0 1 ms <;> simp_all [vca, ofConst] <;> omega
  · have hg := hg0; try simp only [decide_eq_true_eq, decide_eq_false_iff_not, Bool.not_eq_true', Bool.not_eq_false', bne_iff_ne, beq_iff_eq, ne_eq, Bool.not_true, Bool.not_false, beq_eq_false_iff_ne, bne_eq_false_iff_eq, Decidable.not_not, Int.not_lt, Int.not_le, Bool.and_eq_true, Bool.and_eq_false_iff, Bool.or_eq_true, Bool.or_eq_false_iff] at hg
    refine x_guard_f rfl rfl (by assumption) ?_
    refine x_pick_f rfl (by assumption) rfl rfl ?_
    refine x_move rfl rfl ?_
    refine x_guard_f rfl rfl (by rfl) ?_
    refine x_guard_f rfl rfl (by rfl) ?_
    refine x_guard_f rfl rfl (by rfl) ?_
    refine x_guard_f rfl rfl (by rfl) ?_
    refine x_guard_f rfl rfl (by rfl) ?_
    refine x_pick_f rfl (by rfl) rfl rfl ?_
    refine x_move rfl rfl ?_
    refine x_guard_f rfl rfl (by rfl) ?_
    refine x_guard_f rfl rfl (by rfl) ?_
    refine x_pick_f rfl (by rfl) rfl rfl ?_
    refine x_assign rfl rfl rfl ?_
    refine xr_nil ⟨nofun, [(.t 4, _)], ⟨rfl, rfl, trivial⟩, ?_⟩
    refine xa_ret ?_
    refine ret_val' rfl rfl trivial ?_
    cases hvd : vd xs <;> cases hb : allB 0 1 ms <;> simp_all [vca, ofConst] <;> omega

theorem keep_s_valuesOf : keepOf Try.f58 = [0, 2] := by kernel_rfl
set_option maxHeartbeats 20000000 in
theorem s_valuesOf (xs : List Int) (hl : xs.length ≤ 1000) : CW cxT 58 [L xs] = some (.own 1 ((compactI (sortI xs)).map iV), []) := by
  refine fn_intro rfl Try.func58 rfl ⟨by kernel_rfl, rfl, of_decide_eq_true rfl, of_decide_eq_true rfl, by decide⟩ keep_s_valuesOf ?_
  refine xa_seq ?_
  refine xa_region ?_
  (refine x_assign_nil rfl rfl (fun _ => rfl) ?_; intro g2)
  refine xr_nil ⟨nofun, [(.t 0, _)], ⟨rfl, rfl, trivial⟩, ?_⟩
  refine xa_seq ?_
  refine xa_region ?_
  refine x_move rfl rfl ?_
  apply x_call rfl
  · apply pa_cons
    · exact pa_plain rfl
    exact pa_nil
  · exact s_sorted xs (by simp only [maxL]; omega)
  · exact ⟨rfl, rfl, rfl, of_decide_eq_true rfl, rfl⟩
  · exact .inl rfl
  · exact back_nil
  · exact inst_own
  · exact fun _ => rfl
  intro g4
  simp only [List.length_map]
  apply x_call rfl
  · apply pa_cons
    · exact pa_give rfl rfl (by (simp; done)) (noRef_map fun _ => rfl)
    exact pa_nil
  · exact s_Compact (sortI xs) (by rw [sortI_length]; simp only [maxL]; omega)
  · exact ⟨rfl, rfl, rfl, of_decide_eq_true rfl, rfl⟩
  · exact .inl rfl
  · exact back_nil
  · exact inst_own
  · exact fun _ => rfl
  intro g5
  simp only [List.length_map]
  (refine x_assign_own rfl rfl (by (simp; done)) rfl (fun _ => (slot_obj (by exact noRef_map fun _ => rfl))) (fun _ => rfl) ?_; intro g2)
  refine xr_nil ⟨nofun, [(.t 2, _), (.h 2, _)], ⟨rfl, rfl, rfl, rfl, trivial⟩, ?_⟩
  refine xa_ret ?_
  refine ret_own' rfl rfl (by simp) (by exact noRef_map fun _ => rfl) trivial ?_
  rfl

theorem keep_s_total : keepOf Try.f23 = [0, 2, 4, 8, 3] := by kernel_rfl
set_option maxHeartbeats 20000000 in
theorem s_total (ms : List Int) (hl : ms.length ≤ 1000) (hsb : ∀ i, i ≤ ms.length → -1000000 ≤ (ms.take i).sum ∧ (ms.take i).sum ≤ 1000000) : CW cxT 23 [L ms] = some (iV ms.sum, []) := by
  refine fn_intro rfl Try.func23 rfl ⟨by kernel_rfl, rfl, of_decide_eq_true rfl, of_decide_eq_true rfl, by decide⟩ keep_s_total ?_
  refine xa_seq ?_
  refine xa_region ?_
  refine x_assign rfl rfl rfl ?_
  refine xr_nil ⟨nofun, [(.t 0, _)], ⟨rfl, rfl, trivial⟩, ?_⟩
  refine xa_seq ?_
  refine xa_region ?_
  refine x_assign rfl rfl rfl ?_
  refine xr_nil ⟨nofun, [(.t 0, _), (.t 3, _)], ⟨rfl, rfl, rfl, rfl, trivial⟩, ?_⟩
  refine xa_seq ?_
  refine xa_seq ?_
  refine xa_region ?_
  refine x_assign rfl rfl rfl ?_
  refine xr_nil ⟨nofun, [(.t 0, _), (.t 3, _), (.t 4, _)], ⟨rfl, rfl, rfl, rfl, rfl, rfl, trivial⟩, ?_⟩
  refine xa_block ?_
  refine xa_loopK (β := Nat × Int) [(.t 0, _)] (fun (z : Nat × Int) => match z with | (i, a) => [(.t 4, iV i), (.t 3, iV a)]) (fun (z : Nat × Int) => match z with | (i, a) => i ≤ ms.length ∧ a = (ms.take i).sum) (fun (z : Nat × Int) => match z with | (i, a) => ms.length - i) (0, 0) ⟨rfl, rfl, rfl, trivial⟩ ⟨Nat.zero_le _, rfl⟩ ?_
  intro z hb
  obtain ⟨i, a⟩ := z
  try dsimp only at hb
  obtain ⟨hi1, ha⟩ := hb
  have hb1 := hsb i hi1
  have hb2 := fun h : i < ms.length => hsb (i + 1) h
  have hb3 := fun h : i < ms.length => sum_take_succ h
  refine xa_seq ?_
  refine xa_seq ?_
  refine xa_region ?_
  refine x_move rfl rfl ?_
  refine x_move rfl rfl ?_
  refine x_len_map rfl rfl ?_
  refine x_lss rfl rfl ?_
  refine xr_nil ⟨nofun, [(.t 0, _), (.t 3, _), (.t 4, _), (.t 8, _)], ⟨rfl, rfl, rfl, rfl, rfl, rfl, rfl, rfl, trivial⟩, ?_⟩
  refine xa_cond rfl (fun hc => ?_) (fun hc => ?_)
  · try simp only [decide_eq_true_eq, decide_eq_false_iff_not, Bool.not_eq_true', Bool.not_eq_false', bne_iff_ne, beq_iff_eq, ne_eq, Bool.not_true, Bool.not_false, beq_eq_false_iff_ne, bne_eq_false_iff_eq, Decidable.not_not, Int.not_lt, Int.not_le, Bool.and_eq_true, Bool.and_eq_false_iff, Bool.or_eq_true, Bool.or_eq_false_iff, List.length_map] at hc
    refine xa_skip ?_
    refine xa_seq ?_
    refine xa_block ?_
    refine xa_region ?_
    refine x_move rfl rfl ?_
    refine x_move rfl rfl ?_
    refine x_move rfl rfl ?_
    refine x_index_listN rfl rfl rfl (fun _ => rfl) (by omega) ?_
    refine x_load_iptV rfl rfl rfl ?_
    have hs3 := hb3 (by omega)
    have hs2 := hb2 (by omega)
    refine x_add rfl rfl (inI64 (by omega)) ?_
    refine x_assign rfl rfl rfl ?_
    refine xr_nil ⟨nofun, [(.t 0, _), (.t 3, _), (.t 4, _)], ⟨rfl, rfl, rfl, rfl, rfl, rfl, trivial⟩, ?_⟩
    refine xa_region ?_
    refine x_move rfl rfl ?_
    refine x_add rfl rfl (inI64 (by omega)) ?_
    refine x_assign rfl rfl rfl ?_
    refine xr_nil ⟨nofun, [(.t 0, _), (.t 3, _), (.t 4, _)], ⟨rfl, rfl, rfl, rfl, rfl, rfl, trivial⟩, ?_⟩
    refine ⟨(i + 1, a + ms.getD i default), ⟨by omega, by rw [sum_take_succ (by omega), ha]⟩, (by simp only; omega), ⟨rfl, rfl, rfl, trivial⟩⟩
  · try simp only [decide_eq_true_eq, decide_eq_false_iff_not, Bool.not_eq_true', Bool.not_eq_false', bne_iff_ne, beq_iff_eq, ne_eq, Bool.not_true, Bool.not_false, beq_eq_false_iff_ne, bne_eq_false_iff_eq, Decidable.not_not, Int.not_lt, Int.not_le, Bool.and_eq_true, Bool.and_eq_false_iff, Bool.or_eq_true, Bool.or_eq_false_iff, List.length_map] at hc
    refine xa_exit ?_
    refine xa_seq ?_
    refine xa_region ?_
    refine x_move rfl rfl ?_
    refine x_assign rfl rfl rfl ?_
    refine xr_nil ⟨nofun, [(.t 2, _)], ⟨rfl, rfl, trivial⟩, ?_⟩
    refine xa_ret ?_
    refine ret_val' rfl rfl trivial ?_
    rw [ha, List.take_of_length_le (by omega)]

theorem keep_s_dataOf : keepOf Try.f76 = [0, 1, 4, 5, 14, 6, 27, 28, 36] := by kernel_rfl
set_option maxHeartbeats 20000000 in
theorem s_dataOf (bs : List Int) (p : Int) (hbs : Bytes bs) (hl : bs.length ≤ 1048576) (hp : 0 ≤ p ∧ p ≤ 1000) (n : Int) (hn : 0 ≤ n ∧ n ≤ 10) : ∃ res outs, (fun res outs => ∃ (xs : List Int) (p' : Int), res = .own 1 (xs.map iV) ∧ outs = [[rdr bs p']] ∧ xs.length ≤ 21 ∧ p ≤ p' ∧ p' ≤ p + 13) res outs ∧ CW cxT 76 [.ownp [rdr bs p] 0 0, iV n] = some (res, outs) := by
  refine fn_introP rfl Try.func76 rfl ⟨by kernel_rfl, rfl, of_decide_eq_true rfl, of_decide_eq_true rfl, by decide⟩ keep_s_dataOf ?_
  refine xa_seq ?_
  refine xa_region ?_
  (refine x_assign_nil rfl rfl (fun _ => rfl) ?_; intro g4)
  refine xr_nil ⟨nofun, [(.t 0, _), (.t 1, _), (.h 0, _)], ⟨rfl, rfl, rfl, rfl, rfl, rfl, trivial⟩, ?_⟩
  refine xa_seq ?_
  refine xa_region ?_
  refine x_buildSlice (es := List.map iV []) rfl rfl (by decide) rfl rfl (fun _ => slot_obj (noRef_map fun _ => rfl)) (fun _ => rfl) ?_
  intro g7
  (refine x_assign_own rfl rfl (by (simp; done)) rfl (fun _ => (slot_obj (by exact noRef_map fun _ => rfl))) (fun _ => rfl) ?_; intro g5)
  refine xr_nil ⟨nofun, [(.t 0, _), (.t 1, _), (.t 5, _), (.h 0, _), (.h 5, _)], ⟨rfl, rfl, rfl, rfl, rfl, rfl, rfl, rfl, rfl, rfl, trivial⟩, ?_⟩
  refine xa_seq ?_
  refine xa_region ?_
  refine x_move rfl rfl ?_
  refine x_buildSlice (es := List.map iV [_, _, _, _]) rfl rfl (by decide) rfl rfl (fun _ => slot_obj (noRef_map fun _ => rfl)) (fun _ => rfl) ?_
  intro g9
  obtain ⟨_, _, ⟨k0, rfl, rfl, k0m⟩, hC0⟩ := s_one bs (p) hbs hl (by omega) [3, 10, 40, 200] (by decide)
  have k0b : 3 ≤ k0 ∧ k0 ≤ 200 := by simp at k0m; omega
  apply x_call rfl
  · apply pa_cons
    · exact pa_box rfl (by decide) rfl
    apply pa_cons
    · exact pa_keep_map rfl rfl (by (simp; done)) (fun _ => rfl)
    exact pa_nil
  · exact hC0
  · exact ⟨rfl, rfl, rfl, of_decide_eq_true rfl, rfl⟩
  · exact .inl rfl
  · exact back_cons rfl rfl rfl back_nil
  · exact inst_plain rfl
  · exact fun _ => rfl
  intro g10
  refine x_assign rfl rfl rfl ?_
  refine xr_nil ⟨nofun, [(.t 0, _), (.t 1, _), (.t 5, _), (.t 6, _), (.h 0, _), (.h 5, _)], ⟨rfl, rfl, rfl, rfl, rfl, rfl, rfl, rfl, rfl, rfl, rfl, rfl, trivial⟩, ?_⟩
  refine xa_seq ?_
  refine xa_block ?_
  refine xa_loopK (β := List Int × Nat × Int) [(.t 0, _), (.t 1, _), (.t 6, _)] (fun (z : List Int × Nat × Int) => match z with | (xs, g, q) => [(.h 0, .obj 1 4 0 [rdr bs q]), (.t 5, .sl 5 g none 0 xs.length), (.h 5, .obj g 0 1 (xs.map iV))]) (fun (z : List Int × Nat × Int) => match z with | (xs, g, q) => (xs.length : Int) ≤ n ∧ q = p + 1 + xs.length) (fun (z : List Int × Nat × Int) => match z with | (xs, g, q) => 10 - xs.length) ([], _, p + 1) ⟨rfl, rfl, rfl, rfl, rfl, rfl, trivial⟩ ⟨by simp; omega, by simp⟩ ?_
  intro z hb
  obtain ⟨xs, g, q⟩ := z
  try dsimp only at hb
  obtain ⟨hx1, hq1⟩ := hb
  refine xa_seq ?_
  refine xa_seq ?_
  refine xa_region ?_
  refine x_move rfl rfl ?_
  refine x_len_sl rfl rfl ?_
  refine x_move rfl rfl ?_
  refine x_lss rfl rfl ?_
  refine xr_nil ⟨nofun, [(.t 0, _), (.t 1, _), (.t 5, _), (.t 6, _), (.t 14, _), (.h 0, _), (.h 5, _)], ⟨rfl, rfl, rfl, rfl, rfl, rfl, rfl, rfl, rfl, rfl, rfl, rfl, rfl, rfl, trivial⟩, ?_⟩
  refine xa_cond rfl (fun hc => ?_) (fun hc => ?_)
  · try simp only [decide_eq_true_eq, decide_eq_false_iff_not, Bool.not_eq_true', Bool.not_eq_false', bne_iff_ne, beq_iff_eq, ne_eq, Bool.not_true, Bool.not_false, beq_eq_false_iff_ne, bne_eq_false_iff_eq, Decidable.not_not, Int.not_lt, Int.not_le, Bool.and_eq_true, Bool.and_eq_false_iff, Bool.or_eq_true, Bool.or_eq_false_iff, List.length_map] at hc
    refine xa_skip ?_
    refine xa_block ?_
    refine xa_region ?_
    refine x_move rfl rfl ?_
    refine x_move rfl rfl ?_
    refine x_move rfl rfl ?_
    refine x_mul rfl rfl (inI64 (by omega)) ?_
    refine x_add rfl rfl (inI64 (by omega)) ?_
    obtain ⟨_, _, ⟨k1, rfl, rfl, k1b, -⟩, hC1⟩ := s_pick bs (q) hbs hl (by omega) (2 * k0 + 1) (by omega)
    have k1b := k1b (by omega)
    apply x_call rfl
    · apply pa_cons
      · exact pa_box rfl (by decide) rfl
      apply pa_cons
      · exact pa_plain rfl
      exact pa_nil
    · exact hC1
    · exact ⟨rfl, rfl, rfl, of_decide_eq_true rfl, rfl⟩
    · exact .inl rfl
    · exact back_cons rfl rfl rfl back_nil
    · exact inst_plain rfl
    · exact fun _ => rfl
    intro g20
    refine x_rem rfl rfl (by omega) ?_
    refine x_move rfl rfl ?_
    have hm1 := tmod_in (a := k1) (b := 401) (by omega) (by decide)
    refine x_sub rfl rfl (inI64 (by omega)) ?_
    refine x_buildSlice (es := List.map iV [k1.tmod 401 - k0]) rfl rfl (by decide) rfl rfl (fun _ => slot_obj (noRef_map fun _ => rfl)) (fun _ => rfl) ?_
    intro g24
    refine x_append_map rfl rfl rfl rfl (by simp) (by simp) (by decide) rfl rfl rfl rfl (by decide) (fun _ => ⟨rfl, rfl⟩) (by simp only [maxL]; (simp only [List.length_nil, List.length_cons, List.length_append, Nat.zero_add, List.length_map]; omega)) (fun _ => rfl) ?_
    intro g25
    (refine x_assign_own rfl rfl (by (simp; done)) rfl (fun _ => (slot_obj (by exact noRef_map fun _ => rfl))) (fun _ => rfl) ?_; intro g5)
    refine xr_nil ⟨nofun, [(.t 0, _), (.t 1, _), (.t 5, _), (.t 6, _), (.h 0, _), (.h 5, _)], ⟨rfl, rfl, rfl, rfl, rfl, rfl, rfl, rfl, rfl, rfl, rfl, rfl, trivial⟩, ?_⟩
    refine ⟨(xs ++ [k1.tmod 401 - k0], _, q + 1), ?_, (by simp only [List.length_append, List.length_singleton]; omega), ⟨rfl, rfl, rfl, rfl, rfl, rfl, trivial⟩⟩
    refine ⟨?_, ?_⟩ <;> (try simp only [List.length_append, List.length_singleton]) <;> omega
  · try simp only [decide_eq_true_eq, decide_eq_false_iff_not, Bool.not_eq_true', Bool.not_eq_false', bne_iff_ne, beq_iff_eq, ne_eq, Bool.not_true, Bool.not_false, beq_eq_false_iff_ne, bne_eq_false_iff_eq, Decidable.not_not, Int.not_lt, Int.not_le, Bool.and_eq_true, Bool.and_eq_false_iff, Bool.or_eq_true, Bool.or_eq_false_iff, List.length_map] at hc
    refine xa_exit ?_
    refine xa_seq ?_
    refine xa_seq ?_
    refine xa_region ?_
    refine x_move rfl rfl ?_
    obtain ⟨_, _, ⟨k2, rfl, rfl, k2b, -⟩, hC2⟩ := s_pick bs (q) hbs hl (by omega) (40) (by omega)
    have k2b := k2b (by omega)
    obtain ⟨_, _, ⟨k3, rfl, rfl, k3m⟩, hC3⟩ := s_one bs (q + 1) hbs hl (by omega) [201, -201] (by decide)
    have k3b : -201 ≤ k3 ∧ k3 ≤ 201 := by simp at k3m; omega
    apply x_call rfl
    · apply pa_cons
      · exact pa_box rfl (by decide) rfl
      apply pa_cons
      · exact pa_plain rfl
      exact pa_nil
    · exact hC2
    · exact ⟨rfl, rfl, rfl, of_decide_eq_true rfl, rfl⟩
    · exact .inl rfl
    · exact back_cons rfl rfl rfl back_nil
    · exact inst_plain rfl
    · exact fun _ => rfl
    intro g27
    refine xr_nil ⟨nofun, [(.t 0, _), (.t 5, _), (.t 27, _), (.h 0, _), (.h 5, _)], ⟨rfl, rfl, rfl, rfl, rfl, rfl, rfl, rfl, rfl, rfl, trivial⟩, ?_⟩
    refine xa_block ?_
    refine xa_seq ?_
    refine xa_region ?_
    refine x_eql rfl rfl ?_
    refine x_assign rfl rfl rfl ?_
    refine xr_nil ⟨nofun, [(.t 0, _), (.t 5, _), (.t 27, _), (.t 28, _), (.h 0, _), (.h 5, _)], ⟨rfl, rfl, rfl, rfl, rfl, rfl, rfl, rfl, rfl, rfl, rfl, rfl, trivial⟩, ?_⟩
    refine xa_cond rfl (fun hc => ?_) (fun hc => ?_)
    · try simp only [decide_eq_true_eq, decide_eq_false_iff_not, Bool.not_eq_true', Bool.not_eq_false', bne_iff_ne, beq_iff_eq, ne_eq, Bool.not_true, Bool.not_false, beq_eq_false_iff_ne, bne_eq_false_iff_eq, Decidable.not_not, Int.not_lt, Int.not_le, Bool.and_eq_true, Bool.and_eq_false_iff, Bool.or_eq_true, Bool.or_eq_false_iff, List.length_map] at hc
      refine xa_seq ?_
      refine xa_region ?_
      refine x_move rfl rfl ?_
      refine x_move rfl rfl ?_
      refine x_buildSlice (es := List.map iV [_, _]) rfl rfl (by decide) rfl rfl (fun _ => slot_obj (noRef_map fun _ => rfl)) (fun _ => rfl) ?_
      intro g32
      apply x_call rfl
      · apply pa_cons
        · exact pa_box rfl (by decide) rfl
        apply pa_cons
        · exact pa_keep_map rfl rfl (by (simp; done)) (fun _ => rfl)
        exact pa_nil
      · exact hC3
      · exact ⟨rfl, rfl, rfl, of_decide_eq_true rfl, rfl⟩
      · exact .inl rfl
      · exact back_cons rfl rfl rfl back_nil
      · exact inst_plain rfl
      · exact fun _ => rfl
      intro g33
      refine x_buildSlice (es := List.map iV [_]) rfl rfl (by decide) rfl rfl (fun _ => slot_obj (noRef_map fun _ => rfl)) (fun _ => rfl) ?_
      intro g34
      refine x_append_map rfl rfl rfl rfl (by simp) (by simp) (by decide) rfl rfl rfl rfl (by decide) (fun _ => ⟨rfl, rfl⟩) (by simp only [maxL]; (simp only [List.length_nil, List.length_cons, List.length_append, Nat.zero_add, List.length_map]; omega)) (fun _ => rfl) ?_
      intro g35
      (refine x_assign_own rfl rfl (by (simp; done)) rfl (fun _ => (slot_obj (by exact noRef_map fun _ => rfl))) (fun _ => rfl) ?_; intro g4)
      refine xr_nil ⟨nofun, [(.t 4, _), (.h 0, _), (.h 4, _)], ⟨rfl, rfl, rfl, rfl, rfl, rfl, trivial⟩, ?_⟩
      refine xa_ret ?_
      refine ⟨_, _, ?_, ret_own rfl rfl (by (simp; done)) (by exact noRef_map fun _ => rfl) (outs_one rfl rfl)⟩
      exact ⟨_, _, rfl, rfl, by (simp; omega), by omega, by omega⟩
    · try simp only [decide_eq_true_eq, decide_eq_false_iff_not, Bool.not_eq_true', Bool.not_eq_false', bne_iff_ne, beq_iff_eq, ne_eq, Bool.not_true, Bool.not_false, beq_eq_false_iff_ne, bne_eq_false_iff_eq, Decidable.not_not, Int.not_lt, Int.not_le, Bool.and_eq_true, Bool.and_eq_false_iff, Bool.or_eq_true, Bool.or_eq_false_iff, List.length_map] at hc
      refine xa_seq ?_
      refine xa_region ?_
      refine x_eql rfl rfl ?_
      refine x_assign rfl rfl rfl ?_
      refine xr_nil ⟨nofun, [(.t 5, _), (.t 36, _), (.h 0, _), (.h 5, _)], ⟨rfl, rfl, rfl, rfl, rfl, rfl, rfl, rfl, trivial⟩, ?_⟩
      refine xa_cond rfl (fun hc => ?_) (fun hc => ?_)
      · try simp only [decide_eq_true_eq, decide_eq_false_iff_not, Bool.not_eq_true', Bool.not_eq_false', bne_iff_ne, beq_iff_eq, ne_eq, Bool.not_true, Bool.not_false, beq_eq_false_iff_ne, bne_eq_false_iff_eq, Decidable.not_not, Int.not_lt, Int.not_le, Bool.and_eq_true, Bool.and_eq_false_iff, Bool.or_eq_true, Bool.or_eq_false_iff, List.length_map] at hc
        refine xa_seq ?_
        refine xa_region ?_
        refine x_move rfl rfl ?_
        refine x_buildSlice (es := List.map iV [_, _, _, _, _, _, _, _, _, _, _]) rfl rfl (by decide) rfl rfl (fun _ => slot_obj (noRef_map fun _ => rfl)) (fun _ => rfl) ?_
        intro g39
        refine x_append_map rfl rfl rfl rfl (by simp) (by simp) (by decide) rfl rfl rfl rfl (by decide) (fun _ => ⟨rfl, rfl⟩) (by simp only [maxL]; (simp only [List.length_nil, List.length_cons, List.length_append, Nat.zero_add, List.length_map]; omega)) (fun _ => rfl) ?_
        intro g40
        (refine x_assign_own rfl rfl (by (simp; done)) rfl (fun _ => (slot_obj (by exact noRef_map fun _ => rfl))) (fun _ => rfl) ?_; intro g4)
        refine xr_nil ⟨nofun, [(.t 4, _), (.h 0, _), (.h 4, _)], ⟨rfl, rfl, rfl, rfl, rfl, rfl, trivial⟩, ?_⟩
        refine xa_ret ?_
        refine ⟨_, _, ?_, ret_own rfl rfl (by (simp; done)) (by exact noRef_map fun _ => rfl) (outs_one rfl rfl)⟩
        exact ⟨_, _, rfl, rfl, by (simp; omega), by omega, by omega⟩
      · try simp only [decide_eq_true_eq, decide_eq_false_iff_not, Bool.not_eq_true', Bool.not_eq_false', bne_iff_ne, beq_iff_eq, ne_eq, Bool.not_true, Bool.not_false, beq_eq_false_iff_ne, bne_eq_false_iff_eq, Decidable.not_not, Int.not_lt, Int.not_le, Bool.and_eq_true, Bool.and_eq_false_iff, Bool.or_eq_true, Bool.or_eq_false_iff, List.length_map] at hc
        refine xa_skip ?_
        refine xa_seq ?_
        refine xa_region ?_
        refine x_move rfl rfl ?_
        (refine x_assign_own rfl rfl (by (simp; done)) rfl (fun _ => (slot_obj (by exact noRef_map fun _ => rfl))) (fun _ => rfl) ?_; intro g4)
        refine xr_nil ⟨nofun, [(.t 4, _), (.h 0, _), (.h 4, _)], ⟨rfl, rfl, rfl, rfl, rfl, rfl, trivial⟩, ?_⟩
        refine xa_ret ?_
        refine ⟨_, _, ?_, ret_own rfl rfl (by (simp; done)) (by exact noRef_map fun _ => rfl) (outs_one rfl rfl)⟩
        exact ⟨_, _, rfl, rfl, by omega, by omega, by omega⟩

theorem keep_s_someCases : keepOf Try.f53 = [0, 2, 3, 4, 6, 17, 31, 7, 5, 37, 38, 44, 48] := by kernel_rfl
set_option maxHeartbeats 20000000 in
theorem s_someCases (bs : List Int) (p : Int) (hbs : Bytes bs) (hl : bs.length ≤ 1048576) (hp : p = 0) : ∃ res outs, (fun res outs => ∃ (xs ms : List Int) (p' : Int), res = .tup [.own 1 (xs.map iV), .own 1 (ms.map iV)] ∧ outs = [[rdr bs p']] ∧ xs.length ≤ 21 ∧ ms.length ≤ 22) res outs ∧ CW cxT 53 [.ownp [rdr bs p] 0 0] = some (res, outs) := by
  refine fn_introP rfl Try.func53 rfl ⟨by kernel_rfl, rfl, of_decide_eq_true rfl, of_decide_eq_true rfl, by decide⟩ keep_s_someCases ?_
  refine xa_seq ?_
  refine xa_region ?_
  (refine x_assign_nil rfl rfl (fun _ => rfl) ?_; intro g2)
  (refine x_assign_nil rfl rfl (fun _ => rfl) ?_; intro g3)
  refine xr_nil ⟨nofun, [(.t 0, _), (.h 0, _)], ⟨rfl, rfl, rfl, rfl, trivial⟩, ?_⟩
  refine xa_seq ?_
  refine xa_region ?_
  refine x_move rfl rfl ?_
  refine x_move rfl rfl ?_
  refine x_buildSlice (es := List.map iV [_, _, _, _, _, _, _, _, _]) rfl rfl (by decide) rfl rfl (fun _ => slot_obj (noRef_map fun _ => rfl)) (fun _ => rfl) ?_
  intro g10
  obtain ⟨_, _, ⟨k0, rfl, rfl, k0m⟩, hC0⟩ := s_one bs (p) hbs hl (by omega) [5, 6, 4, 8, 3, 2, 10, 1, 0] (by decide)
  have k0b : 0 ≤ k0 ∧ k0 ≤ 10 := by simp at k0m; omega
  apply x_call rfl
  · apply pa_cons
    · exact pa_box rfl (by decide) rfl
    apply pa_cons
    · exact pa_keep_map rfl rfl (by (simp; done)) (fun _ => rfl)
    exact pa_nil
  · exact hC0
  · exact ⟨rfl, rfl, rfl, of_decide_eq_true rfl, rfl⟩
  · exact .inl rfl
  · exact back_cons rfl rfl rfl back_nil
  · exact inst_plain rfl
  · exact fun _ => rfl
  intro g11
  obtain ⟨_, _, ⟨xs, p1, rfl, rfl, hx21, hp1, hp2⟩, hC1⟩ := s_dataOf bs (p + 1) hbs hl (by omega) k0 (by omega)
  apply x_call rfl
  · apply pa_cons
    · exact pa_box rfl (by decide) rfl
    apply pa_cons
    · exact pa_plain rfl
    exact pa_nil
  · exact hC1
  · exact ⟨rfl, rfl, rfl, of_decide_eq_true rfl, rfl⟩
  · exact .inl rfl
  · exact back_cons rfl rfl rfl back_nil
  · exact inst_own
  · exact fun _ => rfl
  intro g12
  simp only [List.length_map]
  (refine x_assign_own rfl rfl (by (simp; done)) rfl (fun _ => (slot_obj (by exact noRef_map fun _ => rfl))) (fun _ => rfl) ?_; intro g4)
  refine xr_nil ⟨nofun, [(.t 0, _), (.t 4, _), (.h 0, _), (.h 4, _)], ⟨rfl, rfl, rfl, rfl, rfl, rfl, rfl, rfl, trivial⟩, ?_⟩
  refine xa_seq ?_
  refine xa_region ?_
  refine x_buildSlice (es := List.map iV []) rfl rfl (by decide) rfl rfl (fun _ => slot_obj (noRef_map fun _ => rfl)) (fun _ => rfl) ?_
  intro g13
  (refine x_assign_own rfl rfl (by (simp; done)) rfl (fun _ => (slot_obj (by exact noRef_map fun _ => rfl))) (fun _ => rfl) ?_; intro g5)
  refine xr_nil ⟨nofun, [(.t 0, _), (.t 4, _), (.t 5, _), (.h 0, _), (.h 4, _), (.h 5, _)], ⟨rfl, rfl, rfl, rfl, rfl, rfl, rfl, rfl, rfl, rfl, rfl, rfl, trivial⟩, ?_⟩
  refine xa_seq ?_
  refine xa_seq ?_
  refine xa_region ?_
  refine x_assign rfl rfl rfl ?_
  refine xr_nil ⟨nofun, [(.t 0, _), (.t 4, _), (.t 5, _), (.t 6, _), (.h 0, _), (.h 4, _), (.h 5, _)], ⟨rfl, rfl, rfl, rfl, rfl, rfl, rfl, rfl, rfl, rfl, rfl, rfl, rfl, rfl, trivial⟩, ?_⟩
  refine xa_block ?_
  refine xa_loopK (β := Nat × List Int × Nat × Int) [(.t 0, _), (.t 4, _), (.h 4, _)] (fun (z : Nat × List Int × Nat × Int) => match z with | (i, ms, g, q) => [(.h 0, .obj 1 4 0 [rdr bs q]), (.t 6, iV i), (.t 5, .sl 5 g none 0 ms.length), (.h 5, .obj g 0 1 (ms.map iV))]) (fun (z : Nat × List Int × Nat × Int) => match z with | (i, ms, g, q) => i ≤ xs.length ∧ ms.length = i ∧ q = p1 + 2 * i) (fun (z : Nat × List Int × Nat × Int) => match z with | (i, ms, g, q) => xs.length - i) (0, [], _, p1) ⟨rfl, rfl, rfl, rfl, rfl, rfl, rfl, trivial⟩ ⟨Nat.zero_le _, rfl, by simp⟩ ?_
  intro z hb
  obtain ⟨i, ms, g, q⟩ := z
  try dsimp only at hb
  obtain ⟨hi1, hml, hq1⟩ := hb
  refine xa_seq ?_
  refine xa_seq ?_
  refine xa_region ?_
  refine x_move rfl rfl ?_
  refine x_move rfl rfl ?_
  refine x_len_sl rfl rfl ?_
  refine x_lss rfl rfl ?_
  refine xr_nil ⟨nofun, [(.t 0, _), (.t 4, _), (.t 5, _), (.t 6, _), (.t 17, _), (.h 0, _), (.h 4, _), (.h 5, _)], ⟨rfl, rfl, rfl, rfl, rfl, rfl, rfl, rfl, rfl, rfl, rfl, rfl, rfl, rfl, rfl, rfl, trivial⟩, ?_⟩
  refine xa_cond rfl (fun hc => ?_) (fun hc => ?_)
  · try simp only [decide_eq_true_eq, decide_eq_false_iff_not, Bool.not_eq_true', Bool.not_eq_false', bne_iff_ne, beq_iff_eq, ne_eq, Bool.not_true, Bool.not_false, beq_eq_false_iff_ne, bne_eq_false_iff_eq, Decidable.not_not, Int.not_lt, Int.not_le, Bool.and_eq_true, Bool.and_eq_false_iff, Bool.or_eq_true, Bool.or_eq_false_iff, List.length_map] at hc
    refine xa_skip ?_
    refine xa_seq ?_
    refine xa_block ?_
    refine xa_seq ?_
    refine xa_region ?_
    refine x_move rfl rfl ?_
    obtain ⟨_, _, ⟨k1, rfl, rfl, k1b, -⟩, hC2⟩ := s_pick bs (q) hbs hl (by omega) (2) (by omega)
    have k1b := k1b (by omega)
    obtain ⟨_, _, ⟨k2, rfl, rfl, k2b, -⟩, hC3⟩ := s_pick bs (q + 1) hbs hl (by omega) (2) (by omega)
    have k2b := k2b (by omega)
    apply x_call rfl
    · apply pa_cons
      · exact pa_box rfl (by decide) rfl
      apply pa_cons
      · exact pa_plain rfl
      exact pa_nil
    · exact hC2
    · exact ⟨rfl, rfl, rfl, of_decide_eq_true rfl, rfl⟩
    · exact .inl rfl
    · exact back_cons rfl rfl rfl back_nil
    · exact inst_plain rfl
    · exact fun _ => rfl
    intro g21
    refine x_assign rfl rfl rfl ?_
    refine xr_nil ⟨nofun, [(.t 0, _), (.t 4, _), (.t 5, _), (.t 6, _), (.t 7, _), (.h 0, _), (.h 4, _), (.h 5, _)], ⟨rfl, rfl, rfl, rfl, rfl, rfl, rfl, rfl, rfl, rfl, rfl, rfl, rfl, rfl, rfl, rfl, trivial⟩, ?_⟩
    refine xa_seq ?_
    refine xa_seq ?_
    refine xa_region ?_
    refine x_move rfl rfl ?_
    apply x_call rfl
    · apply pa_cons
      · exact pa_box rfl (by decide) rfl
      apply pa_cons
      · exact pa_plain rfl
      exact pa_nil
    · exact hC3
    · exact ⟨rfl, rfl, rfl, of_decide_eq_true rfl, rfl⟩
    · exact .inl rfl
    · exact back_cons rfl rfl rfl back_nil
    · exact inst_plain rfl
    · exact fun _ => rfl
    intro g23
    refine x_eql rfl rfl ?_
    refine x_move rfl rfl ?_
    refine x_guard_split rfl rfl (fun hg0 => ?_) (fun hg0 => ?_)
    · have hg := hg0; try simp only [decide_eq_true_eq, decide_eq_false_iff_not, Bool.not_eq_true', Bool.not_eq_false', bne_iff_ne, beq_iff_eq, ne_eq, Bool.not_true, Bool.not_false, beq_eq_false_iff_ne, bne_eq_false_iff_eq, Decidable.not_not, Int.not_lt, Int.not_le, Bool.and_eq_true, Bool.and_eq_false_iff, Bool.or_eq_true, Bool.or_eq_false_iff] at hg
      refine x_move rfl rfl ?_
      refine x_guard_t rfl rfl (by assumption) ?_
      refine x_move rfl rfl ?_
      refine x_guard_t rfl rfl (by assumption) ?_
      refine x_index_slN rfl rfl rfl rfl (by omega) (by (simp; done)) rfl ?_
      refine x_guard_t rfl rfl (by assumption) ?_
      refine x_load_mapV rfl rfl (by omega) (fun _ => rfl) (fun _ => rfl) rfl ?_
      refine x_guard_t rfl rfl (by assumption) ?_
      refine x_gtr rfl rfl ?_
      refine x_pick_t rfl (by assumption) rfl rfl ?_
      refine xr_nil ⟨nofun, [(.t 0, _), (.t 4, _), (.t 5, _), (.t 6, _), (.t 7, _), (.t 31, _), (.h 0, _), (.h 4, _), (.h 5, _)], ⟨rfl, rfl, rfl, rfl, rfl, rfl, rfl, rfl, rfl, rfl, rfl, rfl, rfl, rfl, rfl, rfl, rfl, rfl, trivial⟩, ?_⟩
      refine xa_cond rfl (fun hc => ?_) (fun hc => ?_)
      · try simp only [decide_eq_true_eq, decide_eq_false_iff_not, Bool.not_eq_true', Bool.not_eq_false', bne_iff_ne, beq_iff_eq, ne_eq, Bool.not_true, Bool.not_false, beq_eq_false_iff_ne, bne_eq_false_iff_eq, Decidable.not_not, Int.not_lt, Int.not_le, Bool.and_eq_true, Bool.and_eq_false_iff, Bool.or_eq_true, Bool.or_eq_false_iff, List.length_map] at hc
        refine xa_region ?_
        refine x_assign rfl rfl rfl ?_
        refine xr_nil ⟨nofun, [(.t 0, _), (.t 4, _), (.t 5, _), (.t 6, _), (.t 7, _), (.h 0, _), (.h 4, _), (.h 5, _)], ⟨rfl, rfl, rfl, rfl, rfl, rfl, rfl, rfl, rfl, rfl, rfl, rfl, rfl, rfl, rfl, rfl, trivial⟩, ?_⟩
        refine xa_region ?_
        refine x_move rfl rfl ?_
        refine x_move rfl rfl ?_
        refine x_buildSlice (es := List.map iV [_]) rfl rfl (by decide) rfl rfl (fun _ => slot_obj (noRef_map fun _ => rfl)) (fun _ => rfl) ?_
        intro g34
        refine x_append_map rfl rfl rfl rfl (by simp) (by simp) (by decide) rfl rfl rfl rfl (by decide) (fun _ => ⟨rfl, rfl⟩) (by simp only [maxL]; (simp only [List.length_nil, List.length_cons, List.length_append, Nat.zero_add, List.length_map]; omega)) (fun _ => rfl) ?_
        intro g35
        (refine x_assign_own rfl rfl (by (simp; done)) rfl (fun _ => (slot_obj (by exact noRef_map fun _ => rfl))) (fun _ => rfl) ?_; intro g5)
        refine xr_nil ⟨nofun, [(.t 0, _), (.t 4, _), (.t 5, _), (.t 6, _), (.h 0, _), (.h 4, _), (.h 5, _)], ⟨rfl, rfl, rfl, rfl, rfl, rfl, rfl, rfl, rfl, rfl, rfl, rfl, rfl, rfl, trivial⟩, ?_⟩
        refine xa_region ?_
        refine x_move rfl rfl ?_
        refine x_add rfl rfl (inI64 (by omega)) ?_
        refine x_assign rfl rfl rfl ?_
        refine xr_nil ⟨nofun, [(.t 0, _), (.t 4, _), (.t 5, _), (.t 6, _), (.h 0, _), (.h 4, _), (.h 5, _)], ⟨rfl, rfl, rfl, rfl, rfl, rfl, rfl, rfl, rfl, rfl, rfl, rfl, rfl, rfl, trivial⟩, ?_⟩
        refine ⟨(i + 1, ms ++ [1], _, q + 1 + 1), ?_, (by simp only; omega), ⟨rfl, rfl, rfl, rfl, rfl, rfl, rfl, trivial⟩⟩
        refine ⟨by omega, by simp [hml], by omega⟩
      · try simp only [decide_eq_true_eq, decide_eq_false_iff_not, Bool.not_eq_true', Bool.not_eq_false', bne_iff_ne, beq_iff_eq, ne_eq, Bool.not_true, Bool.not_false, beq_eq_false_iff_ne, bne_eq_false_iff_eq, Decidable.not_not, Int.not_lt, Int.not_le, Bool.and_eq_true, Bool.and_eq_false_iff, Bool.or_eq_true, Bool.or_eq_false_iff, List.length_map] at hc
        refine xa_skip ?_
        refine xa_region ?_
        refine x_move rfl rfl ?_
        refine x_move rfl rfl ?_
        refine x_buildSlice (es := List.map iV [_]) rfl rfl (by decide) rfl rfl (fun _ => slot_obj (noRef_map fun _ => rfl)) (fun _ => rfl) ?_
        intro g34
        refine x_append_map rfl rfl rfl rfl (by simp) (by simp) (by decide) rfl rfl rfl rfl (by decide) (fun _ => ⟨rfl, rfl⟩) (by simp only [maxL]; (simp only [List.length_nil, List.length_cons, List.length_append, Nat.zero_add, List.length_map]; omega)) (fun _ => rfl) ?_
        intro g35
        (refine x_assign_own rfl rfl (by (simp; done)) rfl (fun _ => (slot_obj (by exact noRef_map fun _ => rfl))) (fun _ => rfl) ?_; intro g5)
        refine xr_nil ⟨nofun, [(.t 0, _), (.t 4, _), (.t 5, _), (.t 6, _), (.h 0, _), (.h 4, _), (.h 5, _)], ⟨rfl, rfl, rfl, rfl, rfl, rfl, rfl, rfl, rfl, rfl, rfl, rfl, rfl, rfl, trivial⟩, ?_⟩
        refine xa_region ?_
        refine x_move rfl rfl ?_
        refine x_add rfl rfl (inI64 (by omega)) ?_
        refine x_assign rfl rfl rfl ?_
        refine xr_nil ⟨nofun, [(.t 0, _), (.t 4, _), (.t 5, _), (.t 6, _), (.h 0, _), (.h 4, _), (.h 5, _)], ⟨rfl, rfl, rfl, rfl, rfl, rfl, rfl, rfl, rfl, rfl, rfl, rfl, rfl, rfl, trivial⟩, ?_⟩
        refine ⟨(i + 1, ms ++ [k1], _, q + 1 + 1), ?_, (by simp only; omega), ⟨rfl, rfl, rfl, rfl, rfl, rfl, rfl, trivial⟩⟩
        refine ⟨by omega, by simp [hml], by omega⟩
    · have hg := hg0; try simp only [decide_eq_true_eq, decide_eq_false_iff_not, Bool.not_eq_true', Bool.not_eq_false', bne_iff_ne, beq_iff_eq, ne_eq, Bool.not_true, Bool.not_false, beq_eq_false_iff_ne, bne_eq_false_iff_eq, Decidable.not_not, Int.not_lt, Int.not_le, Bool.and_eq_true, Bool.and_eq_false_iff, Bool.or_eq_true, Bool.or_eq_false_iff] at hg
      refine x_guard_f rfl rfl (by assumption) ?_
      refine x_guard_f rfl rfl (by assumption) ?_
      refine x_guard_f rfl rfl (by assumption) ?_
      refine x_guard_f rfl rfl (by assumption) ?_
      refine x_pick_f rfl (by assumption) rfl rfl ?_
      refine xr_nil ⟨nofun, [(.t 0, _), (.t 4, _), (.t 5, _), (.t 6, _), (.t 7, _), (.t 31, _), (.h 0, _), (.h 4, _), (.h 5, _)], ⟨rfl, rfl, rfl, rfl, rfl, rfl, rfl, rfl, rfl, rfl, rfl, rfl, rfl, rfl, rfl, rfl, rfl, rfl, trivial⟩, ?_⟩
      refine xa_cond rfl (fun hc => absurd hc (by decide)) (fun hc => ?_)
      refine xa_skip ?_
      refine xa_region ?_
      refine x_move rfl rfl ?_
      refine x_move rfl rfl ?_
      refine x_buildSlice (es := List.map iV [_]) rfl rfl (by decide) rfl rfl (fun _ => slot_obj (noRef_map fun _ => rfl)) (fun _ => rfl) ?_
      intro g34
      refine x_append_map rfl rfl rfl rfl (by simp) (by simp) (by decide) rfl rfl rfl rfl (by decide) (fun _ => ⟨rfl, rfl⟩) (by simp only [maxL]; (simp only [List.length_nil, List.length_cons, List.length_append, Nat.zero_add, List.length_map]; omega)) (fun _ => rfl) ?_
      intro g35
      (refine x_assign_own rfl rfl (by (simp; done)) rfl (fun _ => (slot_obj (by exact noRef_map fun _ => rfl))) (fun _ => rfl) ?_; intro g5)
      refine xr_nil ⟨nofun, [(.t 0, _), (.t 4, _), (.t 5, _), (.t 6, _), (.h 0, _), (.h 4, _), (.h 5, _)], ⟨rfl, rfl, rfl, rfl, rfl, rfl, rfl, rfl, rfl, rfl, rfl, rfl, rfl, rfl, trivial⟩, ?_⟩
      refine xa_region ?_
      refine x_move rfl rfl ?_
      refine x_add rfl rfl (inI64 (by omega)) ?_
      refine x_assign rfl rfl rfl ?_
      refine xr_nil ⟨nofun, [(.t 0, _), (.t 4, _), (.t 5, _), (.t 6, _), (.h 0, _), (.h 4, _), (.h 5, _)], ⟨rfl, rfl, rfl, rfl, rfl, rfl, rfl, rfl, rfl, rfl, rfl, rfl, rfl, rfl, trivial⟩, ?_⟩
      refine ⟨(i + 1, ms ++ [k1], _, q + 1 + 1), ?_, (by simp only; omega), ⟨rfl, rfl, rfl, rfl, rfl, rfl, rfl, trivial⟩⟩
      refine ⟨by omega, by simp [hml], by omega⟩
  · try simp only [decide_eq_true_eq, decide_eq_false_iff_not, Bool.not_eq_true', Bool.not_eq_false', bne_iff_ne, beq_iff_eq, ne_eq, Bool.not_true, Bool.not_false, beq_eq_false_iff_ne, bne_eq_false_iff_eq, Decidable.not_not, Int.not_lt, Int.not_le, Bool.and_eq_true, Bool.and_eq_false_iff, Bool.or_eq_true, Bool.or_eq_false_iff, List.length_map] at hc
    refine xa_exit ?_
    refine xa_seq ?_
    refine xa_seq ?_
    refine xa_region ?_
    refine x_move rfl rfl ?_
    obtain ⟨_, _, ⟨k3, rfl, rfl, k3b, -⟩, hC4⟩ := s_pick bs (q) hbs hl (by omega) (30) (by omega)
    have k3b := k3b (by omega)
    apply x_call rfl
    · apply pa_cons
      · exact pa_box rfl (by decide) rfl
      apply pa_cons
      · exact pa_plain rfl
      exact pa_nil
    · exact hC4
    · exact ⟨rfl, rfl, rfl, of_decide_eq_true rfl, rfl⟩
    · exact .inl rfl
    · exact back_cons rfl rfl rfl back_nil
    · exact inst_plain rfl
    · exact fun _ => rfl
    intro g37
    refine xr_nil ⟨nofun, [(.t 4, _), (.t 5, _), (.t 37, _), (.h 0, _), (.h 4, _), (.h 5, _)], ⟨rfl, rfl, rfl, rfl, rfl, rfl, rfl, rfl, rfl, rfl, rfl, rfl, trivial⟩, ?_⟩
    refine xa_block ?_
    refine xa_seq ?_
    refine xa_region ?_
    refine x_eql rfl rfl ?_
    refine x_assign rfl rfl rfl ?_
    refine xr_nil ⟨nofun, [(.t 4, _), (.t 5, _), (.t 37, _), (.t 38, _), (.h 0, _), (.h 4, _), (.h 5, _)], ⟨rfl, rfl, rfl, rfl, rfl, rfl, rfl, rfl, rfl, rfl, rfl, rfl, rfl, rfl, trivial⟩, ?_⟩
    refine xa_cond rfl (fun hc => ?_) (fun hc => ?_)
    · try simp only [decide_eq_true_eq, decide_eq_false_iff_not, Bool.not_eq_true', Bool.not_eq_false', bne_iff_ne, beq_iff_eq, ne_eq, Bool.not_true, Bool.not_false, beq_eq_false_iff_ne, bne_eq_false_iff_eq, Decidable.not_not, Int.not_lt, Int.not_le, Bool.and_eq_true, Bool.and_eq_false_iff, Bool.or_eq_true, Bool.or_eq_false_iff, List.length_map] at hc
      refine xa_seq ?_
      refine xa_region ?_
      refine x_move rfl rfl ?_
      refine x_move rfl rfl ?_
      refine x_buildSlice (es := List.map iV [_]) rfl rfl (by decide) rfl rfl (fun _ => slot_obj (noRef_map fun _ => rfl)) (fun _ => rfl) ?_
      intro g42
      refine x_append_map rfl rfl rfl rfl (by simp) (by simp) (by decide) rfl rfl rfl rfl (by decide) (fun _ => ⟨rfl, rfl⟩) (by simp only [maxL]; (simp only [List.length_nil, List.length_cons, List.length_append, Nat.zero_add, List.length_map]; omega)) (fun _ => rfl) ?_
      intro g43
      (refine x_assign_own rfl rfl (by (simp; done)) rfl (fun _ => (slot_obj (by exact noRef_map fun _ => rfl))) (fun _ => rfl) ?_; intro g2)
      (refine x_assign_own rfl rfl (by (simp; done)) rfl (fun _ => (slot_obj (by exact noRef_map fun _ => rfl))) (fun _ => rfl) ?_; intro g3)
      refine xr_nil ⟨nofun, [(.t 2, _), (.t 3, _), (.h 0, _), (.h 2, _), (.h 3, _)], ⟨rfl, rfl, rfl, rfl, rfl, rfl, rfl, rfl, rfl, rfl, trivial⟩, ?_⟩
      refine xa_ret ?_
      refine ⟨_, _, ?_, ret_tup (rl_own rfl rfl (by (simp; done)) (by exact noRef_map fun _ => rfl) (rl_own rfl rfl (by (simp; done)) (by exact noRef_map fun _ => rfl) (rl_nil (outs_one rfl rfl)))) rfl⟩
      exact ⟨_, _, _, rfl, rfl, by omega, by (simp; omega)⟩
    · try simp only [decide_eq_true_eq, decide_eq_false_iff_not, Bool.not_eq_true', Bool.not_eq_false', bne_iff_ne, beq_iff_eq, ne_eq, Bool.not_true, Bool.not_false, beq_eq_false_iff_ne, bne_eq_false_iff_eq, Decidable.not_not, Int.not_lt, Int.not_le, Bool.and_eq_true, Bool.and_eq_false_iff, Bool.or_eq_true, Bool.or_eq_false_iff, List.length_map] at hc
      refine xa_seq ?_
      refine xa_region ?_
      refine x_eql rfl rfl ?_
      refine x_assign rfl rfl rfl ?_
      refine xr_nil ⟨nofun, [(.t 4, _), (.t 5, _), (.t 44, _), (.h 0, _), (.h 4, _), (.h 5, _)], ⟨rfl, rfl, rfl, rfl, rfl, rfl, rfl, rfl, rfl, rfl, rfl, rfl, trivial⟩, ?_⟩
      refine xa_cond rfl (fun hc => ?_) (fun hc => ?_)
      · try simp only [decide_eq_true_eq, decide_eq_false_iff_not, Bool.not_eq_true', Bool.not_eq_false', bne_iff_ne, beq_iff_eq, ne_eq, Bool.not_true, Bool.not_false, beq_eq_false_iff_ne, bne_eq_false_iff_eq, Decidable.not_not, Int.not_lt, Int.not_le, Bool.and_eq_true, Bool.and_eq_false_iff, Bool.or_eq_true, Bool.or_eq_false_iff, List.length_map] at hc
        refine xa_seq ?_
        refine xa_region ?_
        refine x_move rfl rfl ?_
        refine x_len_sl rfl rfl ?_
        refine x_gtr rfl rfl ?_
        refine xr_nil ⟨nofun, [(.t 4, _), (.t 5, _), (.t 48, _), (.h 0, _), (.h 4, _), (.h 5, _)], ⟨rfl, rfl, rfl, rfl, rfl, rfl, rfl, rfl, rfl, rfl, rfl, rfl, trivial⟩, ?_⟩
        refine xa_cond rfl (fun hc => ?_) (fun hc => ?_)
        · try simp only [decide_eq_true_eq, decide_eq_false_iff_not, Bool.not_eq_true', Bool.not_eq_false', bne_iff_ne, beq_iff_eq, ne_eq, Bool.not_true, Bool.not_false, beq_eq_false_iff_ne, bne_eq_false_iff_eq, Decidable.not_not, Int.not_lt, Int.not_le, Bool.and_eq_true, Bool.and_eq_false_iff, Bool.or_eq_true, Bool.or_eq_false_iff, List.length_map] at hc
          refine xa_region ?_
          refine x_move rfl rfl ?_
          refine x_index_slN rfl rfl rfl rfl (by (change 0 < _; omega)) (by (simp; done)) rfl ?_
          refine x_store_mapO rfl rfl rfl (by (change 0 < _; omega)) (fun _ _ => ⟨rfl, rfl, of_decide_eq_true rfl, of_decide_eq_true rfl, rfl, rfl⟩) (by decide) (by exact slot_obj (noRef_map fun _ => rfl)) ?_
          refine xr_nil ⟨nofun, [(.t 4, _), (.t 5, _), (.h 0, _), (.h 4, _), (.h 5, _)], ⟨rfl, rfl, rfl, rfl, rfl, rfl, rfl, rfl, rfl, rfl, trivial⟩, ?_⟩
          refine xa_seq ?_
          refine xa_region ?_
          refine x_move rfl rfl ?_
          refine x_move rfl rfl ?_
          (refine x_assign_own rfl rfl (by (simp; done)) rfl (fun _ => (slot_obj (by exact noRef_map fun _ => rfl))) (fun _ => rfl) ?_; intro g2)
          (refine x_assign_own rfl rfl (by (simp; done)) rfl (fun _ => (slot_obj (by exact noRef_map fun _ => rfl))) (fun _ => rfl) ?_; intro g3)
          refine xr_nil ⟨nofun, [(.t 2, _), (.t 3, _), (.h 0, _), (.h 2, _), (.h 3, _)], ⟨rfl, rfl, rfl, rfl, rfl, rfl, rfl, rfl, rfl, rfl, trivial⟩, ?_⟩
          refine xa_ret ?_
          refine ⟨_, _, ?_, ret_tup (rl_own rfl rfl (by (simp; done)) (by exact noRef_map fun _ => rfl) (rl_own rfl rfl (by (simp; done)) (by exact noRef_map fun _ => rfl) (rl_nil (outs_one rfl rfl)))) rfl⟩
          exact ⟨_, _, _, rfl, rfl, by omega, by (simp; omega)⟩
        · try simp only [decide_eq_true_eq, decide_eq_false_iff_not, Bool.not_eq_true', Bool.not_eq_false', bne_iff_ne, beq_iff_eq, ne_eq, Bool.not_true, Bool.not_false, beq_eq_false_iff_ne, bne_eq_false_iff_eq, Decidable.not_not, Int.not_lt, Int.not_le, Bool.and_eq_true, Bool.and_eq_false_iff, Bool.or_eq_true, Bool.or_eq_false_iff, List.length_map] at hc
          refine xa_skip ?_
          refine xa_seq ?_
          refine xa_region ?_
          refine x_move rfl rfl ?_
          refine x_move rfl rfl ?_
          (refine x_assign_own rfl rfl (by (simp; done)) rfl (fun _ => (slot_obj (by exact noRef_map fun _ => rfl))) (fun _ => rfl) ?_; intro g2)
          (refine x_assign_own rfl rfl (by (simp; done)) rfl (fun _ => (slot_obj (by exact noRef_map fun _ => rfl))) (fun _ => rfl) ?_; intro g3)
          refine xr_nil ⟨nofun, [(.t 2, _), (.t 3, _), (.h 0, _), (.h 2, _), (.h 3, _)], ⟨rfl, rfl, rfl, rfl, rfl, rfl, rfl, rfl, rfl, rfl, trivial⟩, ?_⟩
          refine xa_ret ?_
          refine ⟨_, _, ?_, ret_tup (rl_own rfl rfl (by (simp; done)) (by exact noRef_map fun _ => rfl) (rl_own rfl rfl (by (simp; done)) (by exact noRef_map fun _ => rfl) (rl_nil (outs_one rfl rfl)))) rfl⟩
          exact ⟨_, _, _, rfl, rfl, by omega, by omega⟩
      · try simp only [decide_eq_true_eq, decide_eq_false_iff_not, Bool.not_eq_true', Bool.not_eq_false', bne_iff_ne, beq_iff_eq, ne_eq, Bool.not_true, Bool.not_false, beq_eq_false_iff_ne, bne_eq_false_iff_eq, Decidable.not_not, Int.not_lt, Int.not_le, Bool.and_eq_true, Bool.and_eq_false_iff, Bool.or_eq_true, Bool.or_eq_false_iff, List.length_map] at hc
        refine xa_skip ?_
        refine xa_seq ?_
        refine xa_region ?_
        refine x_move rfl rfl ?_
        refine x_move rfl rfl ?_
        (refine x_assign_own rfl rfl (by (simp; done)) rfl (fun _ => (slot_obj (by exact noRef_map fun _ => rfl))) (fun _ => rfl) ?_; intro g2)
        (refine x_assign_own rfl rfl (by (simp; done)) rfl (fun _ => (slot_obj (by exact noRef_map fun _ => rfl))) (fun _ => rfl) ?_; intro g3)
        refine xr_nil ⟨nofun, [(.t 2, _), (.t 3, _), (.h 0, _), (.h 2, _), (.h 3, _)], ⟨rfl, rfl, rfl, rfl, rfl, rfl, rfl, rfl, rfl, rfl, trivial⟩, ?_⟩
        refine xa_ret ?_
        refine ⟨_, _, ?_, ret_tup (rl_own rfl rfl (by (simp; done)) (by exact noRef_map fun _ => rfl) (rl_own rfl rfl (by (simp; done)) (by exact noRef_map fun _ => rfl) (rl_nil (outs_one rfl rfl)))) rfl⟩
        exact ⟨_, _, _, rfl, rfl, by omega, by omega⟩

theorem keep_s_drawChancesOf : keepOf Try.f37 = [0, 2, 3] := by kernel_rfl
set_option maxHeartbeats 20000000 in
theorem s_drawChancesOf (bs : List Int) (hbs : Bytes bs) (hl : bs.length ≤ 1048576) : ∃ res outs, (fun res outs => ∃ xs ms : List Int, res = .tup [.own 1 (xs.map iV), .own 1 (ms.map iV)] ∧ outs = [] ∧ xs.length ≤ 21 ∧ ms.length ≤ 22) res outs ∧ CW cxT 37 [.list (bs.map uV)] = some (res, outs) := by
  refine fn_introP rfl Try.func37 rfl ⟨by kernel_rfl, rfl, of_decide_eq_true rfl, of_decide_eq_true rfl, by decide⟩ keep_s_drawChancesOf ?_
  refine xa_seq ?_
  refine xa_region ?_
  (refine x_assign_nil rfl rfl (fun _ => rfl) ?_; intro g2)
  (refine x_assign_nil rfl rfl (fun _ => rfl) ?_; intro g3)
  refine xr_nil ⟨nofun, [(.t 0, _)], ⟨rfl, rfl, trivial⟩, ?_⟩
  refine xa_seq ?_
  refine xa_region ?_
  refine x_move rfl rfl ?_
  obtain ⟨_, _, ⟨rfl, rfl⟩, hC0⟩ := s_newReader bs hl
  have hbs2 : Bytes (bs.take 2000) := fun b hb => hbs b (List.mem_of_mem_take hb)
  have hl2 : (bs.take 2000).length ≤ 1048576 := by simp; omega
  apply x_call rfl
  · apply pa_cons
    · exact pa_plain rfl
    exact pa_nil
  · exact hC0
  · exact ⟨rfl, rfl, rfl, of_decide_eq_true rfl, rfl⟩
  · exact .inl rfl
  · exact back_nil
  · exact inst_box
  · exact fun _ => rfl
  intro g5
  obtain ⟨_, _, ⟨xs, ms, p1, rfl, rfl, hx21, hm22⟩, hC1⟩ := s_someCases (bs.take 2000) 0 hbs2 hl2 rfl
  apply x_call rfl
  · apply pa_cons
    · exact pa_box rfl (by decide) rfl
    exact pa_nil
  · exact hC1
  · exact ⟨rfl, rfl, rfl, of_decide_eq_true rfl, rfl⟩
  · exact .inl rfl
  · exact back_cons rfl rfl rfl back_nil
  · exact inst_tupL (il_own fun _ => il_own fun _ => il_nil)
  · exact fun _ => rfl
  intro g6
  refine x_extract rfl rfl rfl ?_
  refine x_extract rfl rfl rfl ?_
  (refine x_assign_own rfl rfl (by (simp; done)) rfl (fun _ => (slot_obj (by exact noRef_map fun _ => rfl))) (fun _ => rfl) ?_; intro g2)
  (refine x_assign_own rfl rfl (by (simp; done)) rfl (fun _ => (slot_obj (by exact noRef_map fun _ => rfl))) (fun _ => rfl) ?_; intro g3)
  refine xr_nil ⟨nofun, [(.t 2, _), (.t 3, _), (.h 2, _), (.h 3, _)], ⟨rfl, rfl, rfl, rfl, rfl, rfl, rfl, rfl, trivial⟩, ?_⟩
  refine xa_ret ?_
  refine ⟨_, _, ?_, ret_tup (rl_own rfl rfl (by simp) (by exact noRef_map fun _ => rfl) (rl_own rfl rfl (by simp) (by exact noRef_map fun _ => rfl) (rl_nil outs_nil))) rfl⟩
  exact ⟨xs, ms, rfl, rfl, hx21, hm22⟩

theorem keep_s_gcdS : keepOf Try.f79 = [0, 1, 4, 7, 5] := by kernel_rfl
set_option maxHeartbeats 20000000 in
theorem s_gcdS (a b : Int) (ha : -4611686018427387904 ≤ a ∧ a ≤ 4611686018427387904) (hb : -4611686018427387904 ≤ b ∧ b ≤ 4611686018427387904) : CW cxT 79 [iV a, iV b] = some (iV (Int.gcd a b : Int), []) := by
  refine fn_intro rfl Try.func79 rfl ⟨by kernel_rfl, rfl, of_decide_eq_true rfl, of_decide_eq_true rfl, by decide⟩ keep_s_gcdS ?_
  refine xa_seq ?_
  refine xa_region ?_
  refine x_assign rfl rfl rfl ?_
  refine xr_nil ⟨nofun, [(.t 0, _), (.t 1, _)], ⟨rfl, rfl, rfl, rfl, trivial⟩, ?_⟩
  refine xa_seq ?_
  refine xa_block ?_
  refine xa_loop (β := Int × Int) (fun (z : Int × Int) => match z with | (x, y) => [(.t 0, iV x), (.t 1, iV y)]) (fun (z : Int × Int) => match z with | (x, y) => Int.gcd x y = Int.gcd a b ∧ (-4611686018427387904 ≤ x ∧ x ≤ 4611686018427387904) ∧ (-4611686018427387904 ≤ y ∧ y ≤ 4611686018427387904)) (fun (z : Int × Int) => match z with | (x, y) => y.natAbs) (a, b) ⟨rfl, rfl, trivial⟩ ⟨rfl, ha, hb⟩ ?_
  intro z hb
  obtain ⟨x, y⟩ := z
  try dsimp only at hb
  obtain ⟨hg, hx, hy⟩ := hb
  refine xa_seq ?_
  refine xa_seq ?_
  refine xa_region ?_
  refine x_move rfl rfl ?_
  refine x_neq rfl rfl ?_
  refine xr_nil ⟨nofun, [(.t 0, _), (.t 1, _), (.t 7, _)], ⟨rfl, rfl, rfl, rfl, rfl, rfl, trivial⟩, ?_⟩
  refine xa_cond rfl (fun hc => ?_) (fun hc => ?_)
  · try simp only [decide_eq_true_eq, decide_eq_false_iff_not, Bool.not_eq_true', Bool.not_eq_false', bne_iff_ne, beq_iff_eq, ne_eq, Bool.not_true, Bool.not_false, beq_eq_false_iff_ne, bne_eq_false_iff_eq, Decidable.not_not, Int.not_lt, Int.not_le, Bool.and_eq_true, Bool.and_eq_false_iff, Bool.or_eq_true, Bool.or_eq_false_iff, List.length_map] at hc
    refine xa_skip ?_
    refine xa_block ?_
    refine xa_seq ?_
    refine xa_region ?_
    refine x_move rfl rfl ?_
    refine x_move rfl rfl ?_
    refine x_rem rfl rfl (by omega) ?_
    refine x_assign rfl rfl rfl ?_
    refine xr_nil ⟨nofun, [(.t 1, _), (.t 5, _)], ⟨rfl, rfl, rfl, rfl, trivial⟩, ?_⟩
    refine xa_seq ?_
    refine xa_region ?_
    refine x_move rfl rfl ?_
    refine x_assign rfl rfl rfl ?_
    refine xr_nil ⟨nofun, [(.t 0, _), (.t 5, _)], ⟨rfl, rfl, rfl, rfl, trivial⟩, ?_⟩
    refine xa_region ?_
    refine x_move rfl rfl ?_
    refine x_assign rfl rfl rfl ?_
    refine xr_nil ⟨nofun, [(.t 0, _), (.t 1, _)], ⟨rfl, rfl, rfl, rfl, trivial⟩, ?_⟩
    refine ⟨(y, x.tmod y), ⟨by rw [gcd_step]; exact hg, hy, by have := tmod_bd x y; omega⟩, (by have := tmod_lt x hc; simp only; omega), ⟨rfl, rfl, trivial⟩⟩
  · try simp only [decide_eq_true_eq, decide_eq_false_iff_not, Bool.not_eq_true', Bool.not_eq_false', bne_iff_ne, beq_iff_eq, ne_eq, Bool.not_true, Bool.not_false, beq_eq_false_iff_ne, bne_eq_false_iff_eq, Decidable.not_not, Int.not_lt, Int.not_le, Bool.and_eq_true, Bool.and_eq_false_iff, Bool.or_eq_true, Bool.or_eq_false_iff, List.length_map] at hc
    refine xa_exit ?_
    refine xa_seq ?_
    refine xa_region ?_
    refine x_move rfl rfl ?_
    refine x_move rfl rfl ?_
    refine x_neg rfl (inI64 (by omega)) ?_
    refine x_max rfl rfl ?_
    refine x_assign rfl rfl rfl ?_
    refine xr_nil ⟨nofun, [(.t 4, _)], ⟨rfl, rfl, trivial⟩, ?_⟩
    refine xa_ret ?_
    refine ret_val' rfl rfl trivial ?_
    subst hc
    rw [gcd_end, hg]

theorem keep_s_gcdI : keepOf Try.f81 = [0, 1, 4, 6] := by kernel_rfl
set_option maxHeartbeats 20000000 in
theorem s_gcdI (a b : Int) (ha : -4611686018427387904 ≤ a ∧ a ≤ 4611686018427387904) (hb : -4611686018427387904 ≤ b ∧ b ≤ 4611686018427387904) : CW cxT 81 [iV a, iV b] = some (iV (Int.gcd a b : Int), []) := by
  refine fn_intro rfl Try.func81 rfl ⟨by kernel_rfl, rfl, of_decide_eq_true rfl, of_decide_eq_true rfl, by decide⟩ keep_s_gcdI ?_
  refine xa_seq ?_
  refine xa_region ?_
  refine x_assign rfl rfl rfl ?_
  refine xr_nil ⟨nofun, [(.t 0, _), (.t 1, _)], ⟨rfl, rfl, rfl, rfl, trivial⟩, ?_⟩
  refine xa_seq ?_
  refine xa_block ?_
  refine xa_loop (β := Int × Int) (fun (z : Int × Int) => match z with | (x, y) => [(.t 0, iV x), (.t 1, iV y)]) (fun (z : Int × Int) => match z with | (x, y) => Int.gcd x y = Int.gcd a b ∧ (-4611686018427387904 ≤ x ∧ x ≤ 4611686018427387904) ∧ (-4611686018427387904 ≤ y ∧ y ≤ 4611686018427387904)) (fun (z : Int × Int) => match z with | (x, y) => y.natAbs) (a, b) ⟨rfl, rfl, trivial⟩ ⟨rfl, ha, hb⟩ ?_
  intro z hb
  obtain ⟨x, y⟩ := z
  try dsimp only at hb
  obtain ⟨hg, hx, hy⟩ := hb
  refine xa_seq ?_
  refine xa_seq ?_
  refine xa_region ?_
  refine x_move rfl rfl ?_
  refine x_neq rfl rfl ?_
  refine xr_nil ⟨nofun, [(.t 0, _), (.t 1, _), (.t 6, _)], ⟨rfl, rfl, rfl, rfl, rfl, rfl, trivial⟩, ?_⟩
  refine xa_cond rfl (fun hc => ?_) (fun hc => ?_)
  · try simp only [decide_eq_true_eq, decide_eq_false_iff_not, Bool.not_eq_true', Bool.not_eq_false', bne_iff_ne, beq_iff_eq, ne_eq, Bool.not_true, Bool.not_false, beq_eq_false_iff_ne, bne_eq_false_iff_eq, Decidable.not_not, Int.not_lt, Int.not_le, Bool.and_eq_true, Bool.and_eq_false_iff, Bool.or_eq_true, Bool.or_eq_false_iff, List.length_map] at hc
    refine xa_skip ?_
    refine xa_block ?_
    refine xa_region ?_
    refine x_move rfl rfl ?_
    refine x_move rfl rfl ?_
    refine x_move rfl rfl ?_
    refine x_rem rfl rfl (by omega) ?_
    refine x_assign rfl rfl rfl ?_
    refine x_assign rfl rfl rfl ?_
    refine xr_nil ⟨fun _ => ⟨by decide +kernel, by decide +kernel⟩, [(.t 0, _), (.t 1, _)], ⟨rfl, rfl, rfl, rfl, trivial⟩, ?_⟩
    refine ⟨(y, x.tmod y), ⟨by rw [gcd_step]; exact hg, hy, by have := tmod_bd x y; omega⟩, (by have := tmod_lt x hc; simp only; omega), ⟨rfl, rfl, trivial⟩⟩
  · try simp only [decide_eq_true_eq, decide_eq_false_iff_not, Bool.not_eq_true', Bool.not_eq_false', bne_iff_ne, beq_iff_eq, ne_eq, Bool.not_true, Bool.not_false, beq_eq_false_iff_ne, bne_eq_false_iff_eq, Decidable.not_not, Int.not_lt, Int.not_le, Bool.and_eq_true, Bool.and_eq_false_iff, Bool.or_eq_true, Bool.or_eq_false_iff, List.length_map] at hc
    refine xa_exit ?_
    refine xa_seq ?_
    refine xa_region ?_
    refine x_move rfl rfl ?_
    refine x_move rfl rfl ?_
    refine x_neg rfl (inI64 (by omega)) ?_
    refine x_max rfl rfl ?_
    refine x_assign rfl rfl rfl ?_
    refine xr_nil ⟨nofun, [(.t 4, _)], ⟨rfl, rfl, trivial⟩, ?_⟩
    refine xa_ret ?_
    refine ret_val' rfl rfl trivial ?_
    subst hc
    rw [gcd_end, hg]

theorem keep_s_gcdL : keepOf Try.f65 = [0, 1, 4, 7, 5] := by kernel_rfl
set_option maxHeartbeats 20000000 in
theorem s_gcdL (a b : Int) (ha : -4611686018427387904 ≤ a ∧ a ≤ 4611686018427387904) (hb : -4611686018427387904 ≤ b ∧ b ≤ 4611686018427387904) : CW cxT 65 [iV a, iV b] = some (iV (Int.gcd a b : Int), []) := by
  refine fn_intro rfl Try.func65 rfl ⟨by kernel_rfl, rfl, of_decide_eq_true rfl, of_decide_eq_true rfl, by decide⟩ keep_s_gcdL ?_
  refine xa_seq ?_
  refine xa_region ?_
  refine x_assign rfl rfl rfl ?_
  refine xr_nil ⟨nofun, [(.t 0, _), (.t 1, _)], ⟨rfl, rfl, rfl, rfl, trivial⟩, ?_⟩
  refine xa_seq ?_
  refine xa_block ?_
  refine xa_loop (β := Int × Int) (fun (z : Int × Int) => match z with | (x, y) => [(.t 0, iV x), (.t 1, iV y)]) (fun (z : Int × Int) => match z with | (x, y) => Int.gcd x y = Int.gcd a b ∧ (-4611686018427387904 ≤ x ∧ x ≤ 4611686018427387904) ∧ (-4611686018427387904 ≤ y ∧ y ≤ 4611686018427387904)) (fun (z : Int × Int) => match z with | (x, y) => y.natAbs) (a, b) ⟨rfl, rfl, trivial⟩ ⟨rfl, ha, hb⟩ ?_
  intro z hb
  obtain ⟨x, y⟩ := z
  try dsimp only at hb
  obtain ⟨hg, hx, hy⟩ := hb
  refine xa_seq ?_
  refine xa_seq ?_
  refine xa_region ?_
  refine x_move rfl rfl ?_
  refine x_neq rfl rfl ?_
  refine xr_nil ⟨nofun, [(.t 0, _), (.t 1, _), (.t 7, _)], ⟨rfl, rfl, rfl, rfl, rfl, rfl, trivial⟩, ?_⟩
  refine xa_cond rfl (fun hc => ?_) (fun hc => ?_)
  · try simp only [decide_eq_true_eq, decide_eq_false_iff_not, Bool.not_eq_true', Bool.not_eq_false', bne_iff_ne, beq_iff_eq, ne_eq, Bool.not_true, Bool.not_false, beq_eq_false_iff_ne, bne_eq_false_iff_eq, Decidable.not_not, Int.not_lt, Int.not_le, Bool.and_eq_true, Bool.and_eq_false_iff, Bool.or_eq_true, Bool.or_eq_false_iff, List.length_map] at hc
    refine xa_skip ?_
    refine xa_block ?_
    refine xa_seq ?_
    refine xa_region ?_
    refine x_move rfl rfl ?_
    refine x_move rfl rfl ?_
    refine x_rem rfl rfl (by omega) ?_
    refine x_assign rfl rfl rfl ?_
    refine xr_nil ⟨nofun, [(.t 1, _), (.t 5, _)], ⟨rfl, rfl, rfl, rfl, trivial⟩, ?_⟩
    refine xa_seq ?_
    refine xa_region ?_
    refine x_move rfl rfl ?_
    refine x_assign rfl rfl rfl ?_
    refine xr_nil ⟨nofun, [(.t 0, _), (.t 5, _)], ⟨rfl, rfl, rfl, rfl, trivial⟩, ?_⟩
    refine xa_region ?_
    refine x_move rfl rfl ?_
    refine x_assign rfl rfl rfl ?_
    refine xr_nil ⟨nofun, [(.t 0, _), (.t 1, _)], ⟨rfl, rfl, rfl, rfl, trivial⟩, ?_⟩
    refine ⟨(y, x.tmod y), ⟨by rw [gcd_step]; exact hg, hy, by have := tmod_bd x y; omega⟩, (by have := tmod_lt x hc; simp only; omega), ⟨rfl, rfl, trivial⟩⟩
  · try simp only [decide_eq_true_eq, decide_eq_false_iff_not, Bool.not_eq_true', Bool.not_eq_false', bne_iff_ne, beq_iff_eq, ne_eq, Bool.not_true, Bool.not_false, beq_eq_false_iff_ne, bne_eq_false_iff_eq, Decidable.not_not, Int.not_lt, Int.not_le, Bool.and_eq_true, Bool.and_eq_false_iff, Bool.or_eq_true, Bool.or_eq_false_iff, List.length_map] at hc
    refine xa_exit ?_
    refine xa_seq ?_
    refine xa_region ?_
    refine x_move rfl rfl ?_
    refine x_move rfl rfl ?_
    refine x_neg rfl (inI64 (by omega)) ?_
    refine x_max rfl rfl ?_
    refine x_assign rfl rfl rfl ?_
    refine xr_nil ⟨nofun, [(.t 4, _)], ⟨rfl, rfl, trivial⟩, ?_⟩
    refine xa_ret ?_
    refine ret_val' rfl rfl trivial ?_
    subst hc
    rw [gcd_end, hg]

theorem keep_s_fracS : keepOf Try.f55 = [0, 1, 4, 7, 5] := by kernel_rfl
set_option maxHeartbeats 20000000 in
theorem s_fracS (u d : Int) (hu : -4611686018427387904 ≤ u ∧ u ≤ 4611686018427387904) (hd : -4611686018427387904 ≤ d ∧ d ≤ 4611686018427387904) (h0 : d ≠ 0) : CW cxT 55 [iV u, iV d] = some (qV (Rat.divInt u d), []) := by
  refine fn_intro rfl Try.func55 rfl ⟨by kernel_rfl, rfl, of_decide_eq_true rfl, of_decide_eq_true rfl, by decide⟩ keep_s_fracS ?_
  refine xa_seq ?_
  refine xa_region ?_
  refine x_alloc rfl (fun _ => slot_box rfl) (fun _ => rfl) ?_
  intro g4
  refine xr_nil ⟨nofun, [(.t 0, _), (.t 1, _), (.t 4, _), (.h 4, _)], ⟨rfl, rfl, rfl, rfl, rfl, rfl, rfl, rfl, trivial⟩, ?_⟩
  refine xa_seq ?_
  refine xa_seq ?_
  refine xa_region ?_
  refine x_move rfl rfl ?_
  refine x_lss rfl rfl ?_
  refine xr_nil ⟨nofun, [(.t 0, _), (.t 1, _), (.t 4, _), (.t 7, _), (.h 4, _)], ⟨rfl, rfl, rfl, rfl, rfl, rfl, rfl, rfl, rfl, rfl, trivial⟩, ?_⟩
  refine xa_cond rfl (fun hc => ?_) (fun hc => ?_)
  · try simp only [decide_eq_true_eq, decide_eq_false_iff_not, Bool.not_eq_true', Bool.not_eq_false', bne_iff_ne, beq_iff_eq, ne_eq, Bool.not_true, Bool.not_false, beq_eq_false_iff_ne, bne_eq_false_iff_eq, Decidable.not_not, Int.not_lt, Int.not_le, Bool.and_eq_true, Bool.and_eq_false_iff, Bool.or_eq_true, Bool.or_eq_false_iff, List.length_map] at hc
    refine xa_seq ?_
    refine xa_region ?_
    refine x_move rfl rfl ?_
    refine x_neg rfl (inI64 (by omega)) ?_
    refine x_assign rfl rfl rfl ?_
    refine xr_nil ⟨nofun, [(.t 0, _), (.t 1, _), (.t 4, _), (.h 4, _)], ⟨rfl, rfl, rfl, rfl, rfl, rfl, rfl, rfl, trivial⟩, ?_⟩
    refine xa_region ?_
    refine x_move rfl rfl ?_
    refine x_neg rfl (inI64 (by omega)) ?_
    refine x_assign rfl rfl rfl ?_
    refine xr_nil ⟨nofun, [(.t 0, _), (.t 1, _), (.t 4, _), (.h 4, _)], ⟨rfl, rfl, rfl, rfl, rfl, rfl, rfl, rfl, trivial⟩, ?_⟩
    refine xa_seq ?_
    refine xa_region ?_
    refine x_move rfl rfl ?_
    refine x_move rfl rfl ?_
    apply x_call rfl
    · apply pa_cons
      · exact pa_plain rfl
      apply pa_cons
      · exact pa_plain rfl
      exact pa_nil
    · exact (by exact s_gcdS (-u) (-d) (by omega) (by omega))
    · exact ⟨rfl, rfl, rfl, of_decide_eq_true rfl, rfl⟩
    · exact .inl rfl
    · exact back_nil
    · exact inst_plain rfl
    · exact fun _ => rfl
    intro g14
    refine x_assign rfl rfl rfl ?_
    refine xr_nil ⟨nofun, [(.t 0, _), (.t 1, _), (.t 4, _), (.t 5, _), (.h 4, _)], ⟨rfl, rfl, rfl, rfl, rfl, rfl, rfl, rfl, rfl, rfl, trivial⟩, ?_⟩
    refine xa_seq ?_
    refine xa_region ?_
    refine x_move rfl rfl ?_
    refine x_move rfl rfl ?_
    (have hf := fr_pos (u := -u) (d := -d) (by omega); have hbd := fr_bd (u := -u) (d := -d) (by omega); have hgp := gcd_posI (u := -u) (d := -d) (by omega))
    refine x_quo rfl rfl ⟨by omega, inI64 (by rw [← hf.1]; omega)⟩ ?_
    refine x_move rfl rfl ?_
    refine x_move rfl rfl ?_
    refine x_quo rfl rfl ⟨by omega, inI64 (by rw [← hf.2]; omega)⟩ ?_
    refine x_build (fs := [_, _]) rfl rfl rfl rfl rfl ?_
    refine x_store_boxV rfl rfl rfl rfl ⟨by decide, rfl, of_decide_eq_true rfl, of_decide_eq_true rfl, rfl⟩ rfl (by exact slot_box rfl) ?_
    refine xr_nil ⟨fun _ => ⟨by decide +kernel, by decide +kernel⟩, [(.t 4, _), (.h 4, _)], ⟨rfl, rfl, rfl, rfl, trivial⟩, ?_⟩
    refine xa_ret ?_
    refine ret_tup (rl_cell rfl rfl rfl rfl rfl (rl_nil outs_nil)) ?_
    rw [← hf.1, ← hf.2]
    (rw [Rat.neg_divInt_neg]; rfl)
  · try simp only [decide_eq_true_eq, decide_eq_false_iff_not, Bool.not_eq_true', Bool.not_eq_false', bne_iff_ne, beq_iff_eq, ne_eq, Bool.not_true, Bool.not_false, beq_eq_false_iff_ne, bne_eq_false_iff_eq, Decidable.not_not, Int.not_lt, Int.not_le, Bool.and_eq_true, Bool.and_eq_false_iff, Bool.or_eq_true, Bool.or_eq_false_iff, List.length_map] at hc
    refine xa_skip ?_
    refine xa_seq ?_
    refine xa_region ?_
    refine x_move rfl rfl ?_
    refine x_move rfl rfl ?_
    apply x_call rfl
    · apply pa_cons
      · exact pa_plain rfl
      apply pa_cons
      · exact pa_plain rfl
      exact pa_nil
    · exact (by exact s_gcdS u d hu hd)
    · exact ⟨rfl, rfl, rfl, of_decide_eq_true rfl, rfl⟩
    · exact .inl rfl
    · exact back_nil
    · exact inst_plain rfl
    · exact fun _ => rfl
    intro g14
    refine x_assign rfl rfl rfl ?_
    refine xr_nil ⟨nofun, [(.t 0, _), (.t 1, _), (.t 4, _), (.t 5, _), (.h 4, _)], ⟨rfl, rfl, rfl, rfl, rfl, rfl, rfl, rfl, rfl, rfl, trivial⟩, ?_⟩
    refine xa_seq ?_
    refine xa_region ?_
    refine x_move rfl rfl ?_
    refine x_move rfl rfl ?_
    (have hf := fr_pos (u := u) (d := d) (by omega); have hbd := fr_bd (u := u) (d := d) (by omega); have hgp := gcd_posI (u := u) (d := d) (by omega))
    refine x_quo rfl rfl ⟨by omega, inI64 (by rw [← hf.1]; omega)⟩ ?_
    refine x_move rfl rfl ?_
    refine x_move rfl rfl ?_
    refine x_quo rfl rfl ⟨by omega, inI64 (by rw [← hf.2]; omega)⟩ ?_
    refine x_build (fs := [_, _]) rfl rfl rfl rfl rfl ?_
    refine x_store_boxV rfl rfl rfl rfl ⟨by decide, rfl, of_decide_eq_true rfl, of_decide_eq_true rfl, rfl⟩ rfl (by exact slot_box rfl) ?_
    refine xr_nil ⟨fun _ => ⟨by decide +kernel, by decide +kernel⟩, [(.t 4, _), (.h 4, _)], ⟨rfl, rfl, rfl, rfl, trivial⟩, ?_⟩
    refine xa_ret ?_
    refine ret_tup (rl_cell rfl rfl rfl rfl rfl (rl_nil outs_nil)) ?_
    rw [← hf.1, ← hf.2]
    rfl

theorem keep_s_fracL : keepOf Try.f39 = [0, 1, 4, 7, 5] := by kernel_rfl
set_option maxHeartbeats 20000000 in
theorem s_fracL (u d : Int) (hu : -4611686018427387904 ≤ u ∧ u ≤ 4611686018427387904) (hd : -4611686018427387904 ≤ d ∧ d ≤ 4611686018427387904) (h0 : d ≠ 0) : CW cxT 39 [iV u, iV d] = some (qV (Rat.divInt u d), []) := by
  refine fn_intro rfl Try.func39 rfl ⟨by kernel_rfl, rfl, of_decide_eq_true rfl, of_decide_eq_true rfl, by decide⟩ keep_s_fracL ?_
  refine xa_seq ?_
  refine xa_region ?_
  refine x_alloc rfl (fun _ => slot_box rfl) (fun _ => rfl) ?_
  intro g4
  refine xr_nil ⟨nofun, [(.t 0, _), (.t 1, _), (.t 4, _), (.h 4, _)], ⟨rfl, rfl, rfl, rfl, rfl, rfl, rfl, rfl, trivial⟩, ?_⟩
  refine xa_seq ?_
  refine xa_seq ?_
  refine xa_region ?_
  refine x_move rfl rfl ?_
  refine x_lss rfl rfl ?_
  refine xr_nil ⟨nofun, [(.t 0, _), (.t 1, _), (.t 4, _), (.t 7, _), (.h 4, _)], ⟨rfl, rfl, rfl, rfl, rfl, rfl, rfl, rfl, rfl, rfl, trivial⟩, ?_⟩
  refine xa_cond rfl (fun hc => ?_) (fun hc => ?_)
  · try simp only [decide_eq_true_eq, decide_eq_false_iff_not, Bool.not_eq_true', Bool.not_eq_false', bne_iff_ne, beq_iff_eq, ne_eq, Bool.not_true, Bool.not_false, beq_eq_false_iff_ne, bne_eq_false_iff_eq, Decidable.not_not, Int.not_lt, Int.not_le, Bool.and_eq_true, Bool.and_eq_false_iff, Bool.or_eq_true, Bool.or_eq_false_iff, List.length_map] at hc
    refine xa_seq ?_
    refine xa_region ?_
    refine x_move rfl rfl ?_
    refine x_neg rfl (inI64 (by omega)) ?_
    refine x_assign rfl rfl rfl ?_
    refine xr_nil ⟨nofun, [(.t 0, _), (.t 1, _), (.t 4, _), (.h 4, _)], ⟨rfl, rfl, rfl, rfl, rfl, rfl, rfl, rfl, trivial⟩, ?_⟩
    refine xa_region ?_
    refine x_move rfl rfl ?_
    refine x_neg rfl (inI64 (by omega)) ?_
    refine x_assign rfl rfl rfl ?_
    refine xr_nil ⟨nofun, [(.t 0, _), (.t 1, _), (.t 4, _), (.h 4, _)], ⟨rfl, rfl, rfl, rfl, rfl, rfl, rfl, rfl, trivial⟩, ?_⟩
    refine xa_seq ?_
    refine xa_region ?_
    refine x_move rfl rfl ?_
    refine x_move rfl rfl ?_
    apply x_call rfl
    · apply pa_cons
      · exact pa_plain rfl
      apply pa_cons
      · exact pa_plain rfl
      exact pa_nil
    · exact (by exact s_gcdL (-u) (-d) (by omega) (by omega))
    · exact ⟨rfl, rfl, rfl, of_decide_eq_true rfl, rfl⟩
    · exact .inl rfl
    · exact back_nil
    · exact inst_plain rfl
    · exact fun _ => rfl
    intro g14
    refine x_assign rfl rfl rfl ?_
    refine xr_nil ⟨nofun, [(.t 0, _), (.t 1, _), (.t 4, _), (.t 5, _), (.h 4, _)], ⟨rfl, rfl, rfl, rfl, rfl, rfl, rfl, rfl, rfl, rfl, trivial⟩, ?_⟩
    refine xa_seq ?_
    refine xa_region ?_
    refine x_move rfl rfl ?_
    refine x_move rfl rfl ?_
    (have hf := fr_pos (u := -u) (d := -d) (by omega); have hbd := fr_bd (u := -u) (d := -d) (by omega); have hgp := gcd_posI (u := -u) (d := -d) (by omega))
    refine x_quo rfl rfl ⟨by omega, inI64 (by rw [← hf.1]; omega)⟩ ?_
    refine x_move rfl rfl ?_
    refine x_move rfl rfl ?_
    refine x_quo rfl rfl ⟨by omega, inI64 (by rw [← hf.2]; omega)⟩ ?_
    refine x_build (fs := [_, _]) rfl rfl rfl rfl rfl ?_
    refine x_store_boxV rfl rfl rfl rfl ⟨by decide, rfl, of_decide_eq_true rfl, of_decide_eq_true rfl, rfl⟩ rfl (by exact slot_box rfl) ?_
    refine xr_nil ⟨fun _ => ⟨by decide +kernel, by decide +kernel⟩, [(.t 4, _), (.h 4, _)], ⟨rfl, rfl, rfl, rfl, trivial⟩, ?_⟩
    refine xa_ret ?_
    refine ret_tup (rl_cell rfl rfl rfl rfl rfl (rl_nil outs_nil)) ?_
    rw [← hf.1, ← hf.2]
    (rw [Rat.neg_divInt_neg]; rfl)
  · try simp only [decide_eq_true_eq, decide_eq_false_iff_not, Bool.not_eq_true', Bool.not_eq_false', bne_iff_ne, beq_iff_eq, ne_eq, Bool.not_true, Bool.not_false, beq_eq_false_iff_ne, bne_eq_false_iff_eq, Decidable.not_not, Int.not_lt, Int.not_le, Bool.and_eq_true, Bool.and_eq_false_iff, Bool.or_eq_true, Bool.or_eq_false_iff, List.length_map] at hc
    refine xa_skip ?_
    refine xa_seq ?_
    refine xa_region ?_
    refine x_move rfl rfl ?_
    refine x_move rfl rfl ?_
    apply x_call rfl
    · apply pa_cons
      · exact pa_plain rfl
      apply pa_cons
      · exact pa_plain rfl
      exact pa_nil
    · exact (by exact s_gcdL u d hu hd)
    · exact ⟨rfl, rfl, rfl, of_decide_eq_true rfl, rfl⟩
    · exact .inl rfl
    · exact back_nil
    · exact inst_plain rfl
    · exact fun _ => rfl
    intro g14
    refine x_assign rfl rfl rfl ?_
    refine xr_nil ⟨nofun, [(.t 0, _), (.t 1, _), (.t 4, _), (.t 5, _), (.h 4, _)], ⟨rfl, rfl, rfl, rfl, rfl, rfl, rfl, rfl, rfl, rfl, trivial⟩, ?_⟩
    refine xa_seq ?_
    refine xa_region ?_
    refine x_move rfl rfl ?_
    refine x_move rfl rfl ?_
    (have hf := fr_pos (u := u) (d := d) (by omega); have hbd := fr_bd (u := u) (d := d) (by omega); have hgp := gcd_posI (u := u) (d := d) (by omega))
    refine x_quo rfl rfl ⟨by omega, inI64 (by rw [← hf.1]; omega)⟩ ?_
    refine x_move rfl rfl ?_
    refine x_move rfl rfl ?_
    refine x_quo rfl rfl ⟨by omega, inI64 (by rw [← hf.2]; omega)⟩ ?_
    refine x_build (fs := [_, _]) rfl rfl rfl rfl rfl ?_
    refine x_store_boxV rfl rfl rfl rfl ⟨by decide, rfl, of_decide_eq_true rfl, of_decide_eq_true rfl, rfl⟩ rfl (by exact slot_box rfl) ?_
    refine xr_nil ⟨fun _ => ⟨by decide +kernel, by decide +kernel⟩, [(.t 4, _), (.h 4, _)], ⟨rfl, rfl, rfl, rfl, trivial⟩, ?_⟩
    refine xa_ret ?_
    refine ret_tup (rl_cell rfl rfl rfl rfl rfl (rl_nil outs_nil)) ?_
    rw [← hf.1, ← hf.2]
    rfl

theorem keep_s_fracI : keepOf Try.f57 = [0, 1, 4, 10, 5] := by kernel_rfl
set_option maxHeartbeats 20000000 in
theorem s_fracI (u d : Int) (hu : -4611686018427387904 ≤ u ∧ u ≤ 4611686018427387904) (hd : -4611686018427387904 ≤ d ∧ d ≤ 4611686018427387904) (h0 : d ≠ 0) : CW cxT 57 [iV u, iV d] = some (qV (Rat.divInt u d), []) := by
  have hbd := fr_bd (u := u) h0
  have hgp := gcd_posI (u := u) h0
  have hgl := gcd_leI (u := u) h0
  refine fn_intro rfl Try.func57 rfl ⟨by kernel_rfl, rfl, of_decide_eq_true rfl, of_decide_eq_true rfl, by decide⟩ keep_s_fracI ?_
  refine xa_seq ?_
  refine xa_region ?_
  refine x_alloc rfl (fun _ => slot_box rfl) (fun _ => rfl) ?_
  intro g4
  refine xr_nil ⟨nofun, [(.t 0, _), (.t 1, _), (.t 4, _), (.h 4, _)], ⟨rfl, rfl, rfl, rfl, rfl, rfl, rfl, rfl, trivial⟩, ?_⟩
  refine xa_seq ?_
  refine xa_region ?_
  refine x_move rfl rfl ?_
  refine x_move rfl rfl ?_
  apply x_call rfl
  · apply pa_cons
    · exact pa_plain rfl
    apply pa_cons
    · exact pa_plain rfl
    exact pa_nil
  · exact s_gcdI u d hu hd
  · exact ⟨rfl, rfl, rfl, of_decide_eq_true rfl, rfl⟩
  · exact .inl rfl
  · exact back_nil
  · exact inst_plain rfl
  · exact fun _ => rfl
  intro g8
  refine x_assign rfl rfl rfl ?_
  refine xr_nil ⟨nofun, [(.t 0, _), (.t 1, _), (.t 4, _), (.t 5, _), (.h 4, _)], ⟨rfl, rfl, rfl, rfl, rfl, rfl, rfl, rfl, rfl, rfl, trivial⟩, ?_⟩
  refine xa_seq ?_
  refine xa_seq ?_
  refine xa_region ?_
  refine x_move rfl rfl ?_
  refine x_lss rfl rfl ?_
  refine xr_nil ⟨nofun, [(.t 0, _), (.t 1, _), (.t 4, _), (.t 5, _), (.t 10, _), (.h 4, _)], ⟨rfl, rfl, rfl, rfl, rfl, rfl, rfl, rfl, rfl, rfl, rfl, rfl, trivial⟩, ?_⟩
  refine xa_cond rfl (fun hc => ?_) (fun hc => ?_)
  · try simp only [decide_eq_true_eq, decide_eq_false_iff_not, Bool.not_eq_true', Bool.not_eq_false', bne_iff_ne, beq_iff_eq, ne_eq, Bool.not_true, Bool.not_false, beq_eq_false_iff_ne, bne_eq_false_iff_eq, Decidable.not_not, Int.not_lt, Int.not_le, Bool.and_eq_true, Bool.and_eq_false_iff, Bool.or_eq_true, Bool.or_eq_false_iff, List.length_map] at hc
    refine xa_region ?_
    refine x_move rfl rfl ?_
    refine x_neg rfl (inI64 (by omega)) ?_
    refine x_assign rfl rfl rfl ?_
    refine xr_nil ⟨nofun, [(.t 0, _), (.t 1, _), (.t 4, _), (.t 5, _), (.h 4, _)], ⟨rfl, rfl, rfl, rfl, rfl, rfl, rfl, rfl, rfl, rfl, trivial⟩, ?_⟩
    refine xa_seq ?_
    refine xa_region ?_
    refine x_move rfl rfl ?_
    refine x_move rfl rfl ?_
    (have hf := fr_neg (u := u) (d := d) (by omega))
    refine x_quo rfl rfl ⟨by omega, inI64 (by rw [← hf.1]; omega)⟩ ?_
    refine x_move rfl rfl ?_
    refine x_move rfl rfl ?_
    refine x_quo rfl rfl ⟨by omega, inI64 (by rw [← hf.2]; omega)⟩ ?_
    refine x_build (fs := [_, _]) rfl rfl rfl rfl rfl ?_
    refine x_store_boxV rfl rfl rfl rfl ⟨by decide, rfl, of_decide_eq_true rfl, of_decide_eq_true rfl, rfl⟩ rfl (by exact slot_box rfl) ?_
    refine xr_nil ⟨fun _ => ⟨by decide +kernel, by decide +kernel⟩, [(.t 4, _), (.h 4, _)], ⟨rfl, rfl, rfl, rfl, trivial⟩, ?_⟩
    refine xa_ret ?_
    refine ret_tup (rl_cell rfl rfl rfl rfl rfl (rl_nil outs_nil)) ?_
    rw [← hf.1, ← hf.2]
    rfl
  · try simp only [decide_eq_true_eq, decide_eq_false_iff_not, Bool.not_eq_true', Bool.not_eq_false', bne_iff_ne, beq_iff_eq, ne_eq, Bool.not_true, Bool.not_false, beq_eq_false_iff_ne, bne_eq_false_iff_eq, Decidable.not_not, Int.not_lt, Int.not_le, Bool.and_eq_true, Bool.and_eq_false_iff, Bool.or_eq_true, Bool.or_eq_false_iff, List.length_map] at hc
    refine xa_skip ?_
    refine xa_seq ?_
    refine xa_region ?_
    refine x_move rfl rfl ?_
    refine x_move rfl rfl ?_
    (have hf := fr_pos (u := u) (d := d) (by omega))
    refine x_quo rfl rfl ⟨by omega, inI64 (by rw [← hf.1]; omega)⟩ ?_
    refine x_move rfl rfl ?_
    refine x_move rfl rfl ?_
    refine x_quo rfl rfl ⟨by omega, inI64 (by rw [← hf.2]; omega)⟩ ?_
    refine x_build (fs := [_, _]) rfl rfl rfl rfl rfl ?_
    refine x_store_boxV rfl rfl rfl rfl ⟨by decide, rfl, of_decide_eq_true rfl, of_decide_eq_true rfl, rfl⟩ rfl (by exact slot_box rfl) ?_
    refine xr_nil ⟨fun _ => ⟨by decide +kernel, by decide +kernel⟩, [(.t 4, _), (.h 4, _)], ⟨rfl, rfl, rfl, rfl, trivial⟩, ?_⟩
    refine xa_ret ?_
    refine ret_tup (rl_cell rfl rfl rfl rfl rfl (rl_nil outs_nil)) ?_
    rw [← hf.1, ← hf.2]
    rfl

theorem keep_s_plusL : keepOf Try.f40 = [0, 1, 4, 3, 2, 21] := by kernel_rfl
set_option maxHeartbeats 20000000 in
theorem s_plusL (p q : Rat) (hp : Sm 1000000000 p) (hq : Sm 1000000000 q) : CW cxT 40 [qV p, qV q] = some (qV (p + q), []) := by
  obtain ⟨p1, p2, p3⟩ := hp
  obtain ⟨q1, q2, q3⟩ := hq
  have dp := den_posI p
  have dq := den_posI q
  have m1 := mulB (x := p.num) (y := (q.den : Int)) ⟨p1, p2⟩ ⟨by omega, q3⟩
  have m2 := mulB (x := q.num) (y := (p.den : Int)) ⟨q1, q2⟩ ⟨by omega, p3⟩
  have m3 := mulB (x := (p.den : Int)) (y := (q.den : Int)) ⟨by omega, p3⟩ ⟨by omega, q3⟩
  have m4 := mulB (x := p.num) (y := q.num) ⟨p1, p2⟩ ⟨q1, q2⟩
  have dn := den_mul_ne p q
  refine fn_intro rfl Try.func40 rfl ⟨by kernel_rfl, rfl, of_decide_eq_true rfl, of_decide_eq_true rfl, by decide⟩ keep_s_plusL ?_
  refine xa_seq ?_
  refine xa_region ?_
  refine x_box rfl rfl rfl (fun _ => slot_box rfl) (fun _ => rfl) ?_
  intro g2
  refine x_box rfl rfl rfl (fun _ => slot_box rfl) (fun _ => rfl) ?_
  intro g3
  refine x_alloc rfl (fun _ => slot_box rfl) (fun _ => rfl) ?_
  intro g4
  refine xr_nil ⟨nofun, [(.t 2, _), (.t 3, _), (.t 4, _), (.h 2, _), (.h 3, _), (.h 4, _)], ⟨rfl, rfl, rfl, rfl, rfl, rfl, rfl, rfl, rfl, rfl, rfl, rfl, trivial⟩, ?_⟩
  refine xa_seq ?_
  refine xa_region ?_
  refine x_fieldAddr rfl rfl (by decide) rfl rfl ?_
  refine x_load_ptrN rfl rfl rfl rfl rfl rfl ?_
  refine x_fieldAddr rfl rfl (by decide) rfl rfl ?_
  refine x_load_ptrN rfl rfl rfl rfl rfl rfl ?_
  refine x_mul rfl rfl (inI64 (by omega)) ?_
  refine x_fieldAddr rfl rfl (by decide) rfl rfl ?_
  refine x_load_ptrN rfl rfl rfl rfl rfl rfl ?_
  refine x_fieldAddr rfl rfl (by decide) rfl rfl ?_
  refine x_load_ptrN rfl rfl rfl rfl rfl rfl ?_
  refine x_mul rfl rfl (inI64 (by omega)) ?_
  refine x_add rfl rfl (inI64 (by omega)) ?_
  refine x_fieldAddr rfl rfl (by decide) rfl rfl ?_
  refine x_load_ptrN rfl rfl rfl rfl rfl rfl ?_
  refine x_fieldAddr rfl rfl (by decide) rfl rfl ?_
  refine x_load_ptrN rfl rfl rfl rfl rfl rfl ?_
  refine x_mul rfl rfl (inI64 (by omega)) ?_
  apply x_call rfl
  · apply pa_cons
    · exact pa_plain rfl
    apply pa_cons
    · exact pa_plain rfl
    exact pa_nil
  · exact s_fracL (p.num * q.den + q.num * p.den) ((p.den : Int) * q.den) (by omega) (by omega) dn
  · exact ⟨rfl, rfl, rfl, of_decide_eq_true rfl, rfl⟩
  · exact .inl rfl
  · exact back_nil
  · exact inst_plain rfl
  · exact fun _ => rfl
  intro g21
  refine x_store_boxV rfl rfl rfl rfl ⟨by decide, rfl, of_decide_eq_true rfl, of_decide_eq_true rfl, rfl⟩ rfl (by exact slot_box rfl) ?_
  refine xr_nil ⟨nofun, [(.t 4, _), (.h 4, _)], ⟨rfl, rfl, rfl, rfl, trivial⟩, ?_⟩
  refine xa_ret ?_
  refine ret_tup (rl_cell rfl rfl rfl rfl rfl (rl_nil outs_nil)) ?_
  rw [← add_fr]
  rfl

theorem keep_s_chan1 : keepOf Try.f64 = [0, 1, 3, 2] := by kernel_rfl
set_option maxHeartbeats 20000000 in
theorem s_chan1 (b : Bk) (x : Int) : CW cxT 64 [F_block b, .ipt (iV x) 0] = some (bV (decide (x ≤ b.2.2)), []) := by
  refine fn_intro rfl Try.func64 rfl ⟨by kernel_rfl, rfl, of_decide_eq_true rfl, of_decide_eq_true rfl, by decide⟩ keep_s_chan1 ?_
  refine xa_seq ?_
  refine xa_region ?_
  refine x_box rfl rfl rfl (fun _ => slot_box rfl) (fun _ => rfl) ?_
  intro g2
  refine x_assign rfl rfl rfl ?_
  refine xr_nil ⟨nofun, [(.t 1, _), (.t 2, _), (.h 2, _)], ⟨rfl, rfl, rfl, rfl, rfl, rfl, trivial⟩, ?_⟩
  refine xa_seq ?_
  refine xa_region ?_
  refine x_load_iptV rfl rfl rfl ?_
  refine x_fieldAddr rfl rfl (by decide) rfl rfl ?_
  refine x_load_ptrN rfl rfl rfl rfl rfl rfl ?_
  refine x_leq rfl rfl ?_
  refine x_assign rfl rfl rfl ?_
  refine xr_nil ⟨nofun, [(.t 3, _)], ⟨rfl, rfl, trivial⟩, ?_⟩
  refine xa_ret ?_
  refine ret_val' rfl rfl trivial ?_
  rfl

theorem keep_s_IndexB : keepOf Try.f63 = [0, 1, 4, 8, 7, 9, 5, 16] := by kernel_rfl
set_option maxHeartbeats 20000000 in
theorem s_IndexB (bs : List Bk) (hl : bs.length ≤ 1000) (x : Int) (hh : fiU bs x < bs.length) : CW cxT 63 [.list (bs.map F_block), .clo 64 [.ipt (iV x) 0]] = some (iV (fiU bs x : Nat), []) := by
  refine fn_intro rfl Try.func63 rfl ⟨by kernel_rfl, rfl, of_decide_eq_true rfl, of_decide_eq_true rfl, by decide⟩ keep_s_IndexB ?_
  refine xa_seq ?_
  refine xa_region ?_
  refine x_assign rfl rfl rfl ?_
  refine xr_nil ⟨nofun, [(.t 0, _), (.t 1, _)], ⟨rfl, rfl, rfl, rfl, trivial⟩, ?_⟩
  refine xa_seq ?_
  refine xa_seq ?_
  refine xa_region ?_
  refine x_move rfl rfl ?_
  refine x_len_map rfl rfl ?_
  refine x_move rfl rfl ?_
  refine xr_nil ⟨nofun, [(.t 0, _), (.t 1, _), (.t 7, _), (.t 8, _)], ⟨rfl, rfl, rfl, rfl, rfl, rfl, rfl, rfl, trivial⟩, ?_⟩
  refine xa_block ?_
  refine xa_loopK (β := Nat) [(.t 0, _), (.t 1, _), (.t 7, _)] (fun (i : Nat) => [(.t 8, iV i)]) (fun (i : Nat) => i ≤ bs.length ∧ ∀ j, j < i → ¬ x ≤ (bs.getD j default).2.2) (fun (i : Nat) => bs.length - i) 0 ⟨rfl, rfl, rfl, rfl, trivial⟩ ⟨Nat.zero_le _, fun j h => by omega⟩ ?_
  intro i hb
  obtain ⟨hi1, hi2⟩ := hb
  refine xa_seq ?_
  refine xa_region ?_
  refine x_lss rfl rfl ?_
  refine xr_nil ⟨nofun, [(.t 0, _), (.t 1, _), (.t 7, _), (.t 8, _), (.t 9, _)], ⟨rfl, rfl, rfl, rfl, rfl, rfl, rfl, rfl, rfl, rfl, trivial⟩, ?_⟩
  refine xa_seq ?_
  refine xa_cond rfl (fun hc => ?_) (fun hc => ?_)
  · try simp only [decide_eq_true_eq, decide_eq_false_iff_not, Bool.not_eq_true', Bool.not_eq_false', bne_iff_ne, beq_iff_eq, ne_eq, Bool.not_true, Bool.not_false, beq_eq_false_iff_ne, bne_eq_false_iff_eq, Decidable.not_not, Int.not_lt, Int.not_le, Bool.and_eq_true, Bool.and_eq_false_iff, Bool.or_eq_true, Bool.or_eq_false_iff, List.length_map] at hc
    refine xa_skip ?_
    refine xa_seq ?_
    refine xa_block ?_
    refine xa_seq ?_
    refine xa_region ?_
    refine x_move rfl rfl ?_
    refine x_assign rfl rfl rfl ?_
    refine xr_nil ⟨nofun, [(.t 0, _), (.t 1, _), (.t 5, _), (.t 7, _), (.t 8, _)], ⟨rfl, rfl, rfl, rfl, rfl, rfl, rfl, rfl, rfl, rfl, trivial⟩, ?_⟩
    refine xa_seq ?_
    refine xa_region ?_
    refine x_move rfl rfl ?_
    refine x_move rfl rfl ?_
    refine x_move rfl rfl ?_
    refine x_index_listN rfl rfl rfl (fun _ => rfl) (by omega) ?_
    refine x_load_iptV rfl rfl rfl ?_
    apply x_callV rfl rfl
    · apply pa_cons
      · exact pa_plain rfl
      apply pa_cons
      · exact pa_plain rfl
      exact pa_nil
    · exact s_chan1 (bs.getD i default) x
    · exact ⟨rfl, rfl, rfl, of_decide_eq_true rfl, rfl⟩
    · exact .inl rfl
    · exact back_nil
    · exact inst_plain rfl
    · exact fun _ => rfl
    intro g16
    refine xr_nil ⟨nofun, [(.t 0, _), (.t 1, _), (.t 5, _), (.t 7, _), (.t 8, _), (.t 16, _)], ⟨rfl, rfl, rfl, rfl, rfl, rfl, rfl, rfl, rfl, rfl, rfl, rfl, trivial⟩, ?_⟩
    refine xa_cond rfl (fun hc => ?_) (fun hc => ?_)
    · try simp only [decide_eq_true_eq, decide_eq_false_iff_not, Bool.not_eq_true', Bool.not_eq_false', bne_iff_ne, beq_iff_eq, ne_eq, Bool.not_true, Bool.not_false, beq_eq_false_iff_ne, bne_eq_false_iff_eq, Decidable.not_not, Int.not_lt, Int.not_le, Bool.and_eq_true, Bool.and_eq_false_iff, Bool.or_eq_true, Bool.or_eq_false_iff, List.length_map] at hc
      refine xa_seq ?_
      refine xa_region ?_
      refine x_move rfl rfl ?_
      refine x_assign rfl rfl rfl ?_
      refine xr_nil ⟨nofun, [(.t 4, _)], ⟨rfl, rfl, trivial⟩, ?_⟩
      refine xa_ret ?_
      refine ret_val' rfl rfl trivial ?_
      rw [fi_of hi2 (by omega) hc]
    · try simp only [decide_eq_true_eq, decide_eq_false_iff_not, Bool.not_eq_true', Bool.not_eq_false', bne_iff_ne, beq_iff_eq, ne_eq, Bool.not_true, Bool.not_false, beq_eq_false_iff_ne, bne_eq_false_iff_eq, Decidable.not_not, Int.not_lt, Int.not_le, Bool.and_eq_true, Bool.and_eq_false_iff, Bool.or_eq_true, Bool.or_eq_false_iff, List.length_map] at hc
      refine xa_skip ?_
      refine xa_region ?_
      refine x_add rfl rfl (inI64 (by omega)) ?_
      refine x_move rfl rfl ?_
      refine xr_nil ⟨nofun, [(.t 0, _), (.t 1, _), (.t 7, _), (.t 8, _)], ⟨rfl, rfl, rfl, rfl, rfl, rfl, rfl, rfl, trivial⟩, ?_⟩
      refine ⟨i + 1, ⟨by omega, fun j hj => by rcases Nat.lt_succ_iff_lt_or_eq.1 hj with h | h; (· exact hi2 j h); (· subst h; omega)⟩, (by omega), ⟨rfl, rfl, rfl, rfl, trivial⟩⟩
  · try simp only [decide_eq_true_eq, decide_eq_false_iff_not, Bool.not_eq_true', Bool.not_eq_false', bne_iff_ne, beq_iff_eq, ne_eq, Bool.not_true, Bool.not_false, beq_eq_false_iff_ne, bne_eq_false_iff_eq, Decidable.not_not, Int.not_lt, Int.not_le, Bool.and_eq_true, Bool.and_eq_false_iff, Bool.or_eq_true, Bool.or_eq_false_iff, List.length_map] at hc
    refine xa_exit ?_
    refine xa_seq ?_
    refine xa_region ?_
    refine x_assign rfl rfl rfl ?_
    refine xr_nil ⟨nofun, [(.t 4, _)], ⟨rfl, rfl, trivial⟩, ?_⟩
    refine xa_ret ?_
    refine ret_val' rfl rfl trivial ?_
    exact absurd (chv_fi bs x hh).2 (hi2 _ (by omega))

theorem keep_s_chancesI : keepOf Try.f33 = [0, 1, 4, 21, 25, 24, 26, 23, 7, 33, 32, 34, 31, 10, 40, 8, 9, 5, 11, 90, 13, 12, 128, 127, 129, 126, 16, 17, 15, 14, 148] := by kernel_rfl
set_option maxHeartbeats 20000000 in
theorem s_chancesI (xs ms : List Int) (hl : xs.length ≤ 1048576) (hl2 : ms.length ≤ 1048576) (bs : List Bk) (hB : Bks xs ms bs) : CW cxT 33 [L xs, L ms] = some (.own 2 ((chQ xs ms bs).map qV), []) := by
  refine fn_intro rfl Try.func33 rfl ⟨by kernel_rfl, rfl, of_decide_eq_true rfl, of_decide_eq_true rfl, by decide⟩ keep_s_chancesI ?_
  refine xa_seq ?_
  refine xa_region ?_
  (refine x_assign_nil rfl rfl (fun _ => rfl) ?_; intro g4)
  refine xr_nil ⟨nofun, [(.t 0, _), (.t 1, _)], ⟨rfl, rfl, rfl, rfl, trivial⟩, ?_⟩
  refine xa_seq ?_
  refine xa_seq ?_
  refine xa_region ?_
  refine x_move rfl rfl ?_
  refine x_move rfl rfl ?_
  apply x_call rfl
  · apply pa_cons
    · exact pa_plain rfl
    apply pa_cons
    · exact pa_plain rfl
    exact pa_nil
  · exact s_validCasesI xs ms hl hl2
  · exact ⟨rfl, rfl, rfl, of_decide_eq_true rfl, rfl⟩
  · exact .inl rfl
  · exact back_nil
  · exact inst_plain rfl
  · exact fun _ => rfl
  intro g20
  refine x_not rfl ?_
  refine xr_nil ⟨nofun, [(.t 0, _), (.t 1, _), (.t 21, _)], ⟨rfl, rfl, rfl, rfl, rfl, rfl, trivial⟩, ?_⟩
  refine xa_cond rfl (fun hc => ?_) (fun hc => ?_)
  · try simp only [decide_eq_true_eq, decide_eq_false_iff_not, Bool.not_eq_true', Bool.not_eq_false', bne_iff_ne, beq_iff_eq, ne_eq, Bool.not_true, Bool.not_false, beq_eq_false_iff_ne, bne_eq_false_iff_eq, Decidable.not_not, Int.not_lt, Int.not_le, Bool.and_eq_true, Bool.and_eq_false_iff, Bool.or_eq_true, Bool.or_eq_false_iff, List.length_map] at hc
    have hvc : ¬ vca xs ms = true := by simpa using hc
    refine xa_seq ?_
    refine xa_region ?_
    (refine x_assign_nil rfl rfl (fun _ => rfl) ?_; intro g4)
    refine xr_nil ⟨nofun, [(.t 4, _), (.h 4, _)], ⟨rfl, rfl, rfl, rfl, trivial⟩, ?_⟩
    refine xa_ret ?_
    refine ret_own' rfl rfl (by (simp; done)) (by rfl) trivial ?_
    rw [chQ, if_neg hvc]
    rfl
  · try simp only [decide_eq_true_eq, decide_eq_false_iff_not, Bool.not_eq_true', Bool.not_eq_false', bne_iff_ne, beq_iff_eq, ne_eq, Bool.not_true, Bool.not_false, beq_eq_false_iff_ne, bne_eq_false_iff_eq, Decidable.not_not, Int.not_lt, Int.not_le, Bool.and_eq_true, Bool.and_eq_false_iff, Bool.or_eq_true, Bool.or_eq_false_iff, List.length_map] at hc
    have hvc : vca xs ms = true := by exact hc
    obtain ⟨h1, hl10, hxb, hml, hmb⟩ := vca_iff.1 hvc
    have hvl := vsA_len xs
    have hcl : (compactI (sortI xs)).length = (vsA xs).length := rfl
    refine xa_skip ?_
    refine xa_seq ?_
    refine xa_region ?_
    (refine x_assign_nil rfl rfl (fun _ => rfl) ?_; intro g5)
    refine xr_nil ⟨nofun, [(.t 0, _), (.t 1, _), (.t 5, _), (.h 5, _)], ⟨rfl, rfl, rfl, rfl, rfl, rfl, rfl, rfl, trivial⟩, ?_⟩
    refine xa_seq ?_
    refine xa_seq ?_
    refine xa_region ?_
    refine x_move rfl rfl ?_
    apply x_call rfl
    · apply pa_cons
      · exact pa_plain rfl
      exact pa_nil
    · exact s_valuesOf xs (by omega)
    · exact ⟨rfl, rfl, rfl, of_decide_eq_true rfl, rfl⟩
    · exact .inr ⟨by simp [hasList, hasListL], rfl⟩
    · exact back_nil
    · exact inst_own
    · (intro _; exact tRefs_cons (slot_obj (noRef_map fun _ => rfl)) rfl)
    intro g23
    simp only [List.length_map]
    refine x_len_sl rfl rfl ?_
    refine x_move rfl rfl ?_
    refine xr_nil ⟨nofun, [(.t 0, _), (.t 1, _), (.t 5, _), (.t 23, _), (.t 24, _), (.t 25, _), (.h 5, _), (.h 1000023, _)], ⟨rfl, rfl, rfl, rfl, rfl, rfl, rfl, rfl, rfl, rfl, rfl, rfl, rfl, rfl, rfl, rfl, trivial⟩, ?_⟩
    refine xa_block ?_
    refine xa_loopK (β := Nat × List Bk × Nat) [(.t 0, _), (.t 1, _), (.t 23, _), (.t 24, _), (.h 1000023, _)] (fun (z : Nat × List Bk × Nat) => match z with | (j, b1, g1) => [(.t 25, iV j), (.t 5, .sl 5 g1 none 0 b1.length), (.h 5, .obj g1 0 3 (b1.map F_block))]) (fun (z : Nat × List Bk × Nat) => match z with | (j, b1, g1) => j ≤ (vsA xs).length ∧ SegL (PA xs ms) (QA xs) (vA xs) 0 b1 j ∧ Inc b1 ∧ b1.length ≤ j) (fun (z : Nat × List Bk × Nat) => match z with | (j, b1, g1) => (vsA xs).length - j) (0, [], _) ⟨rfl, rfl, rfl, rfl, rfl, rfl, rfl, rfl, trivial⟩ ⟨Nat.zero_le _, rfl, trivial, Nat.le_refl _⟩ ?_
    intro z hb
    obtain ⟨j, b1, g1⟩ := z
    try dsimp only at hb
    obtain ⟨hj1, hs1, hi1, hbl⟩ := hb
    refine xa_seq ?_
    refine xa_region ?_
    refine x_lss rfl rfl ?_
    refine xr_nil ⟨nofun, [(.t 0, _), (.t 1, _), (.t 5, _), (.t 23, _), (.t 24, _), (.t 25, _), (.t 26, _), (.h 5, _), (.h 1000023, _)], ⟨rfl, rfl, rfl, rfl, rfl, rfl, rfl, rfl, rfl, rfl, rfl, rfl, rfl, rfl, rfl, rfl, rfl, rfl, trivial⟩, ?_⟩
    refine xa_seq ?_
    refine xa_cond rfl (fun hc => ?_) (fun hc => ?_)
    · try simp only [decide_eq_true_eq, decide_eq_false_iff_not, Bool.not_eq_true', Bool.not_eq_false', bne_iff_ne, beq_iff_eq, ne_eq, Bool.not_true, Bool.not_false, beq_eq_false_iff_ne, bne_eq_false_iff_eq, Decidable.not_not, Int.not_lt, Int.not_le, Bool.and_eq_true, Bool.and_eq_false_iff, Bool.or_eq_true, Bool.or_eq_false_iff, List.length_map] at hc
      refine xa_skip ?_
      refine xa_seq ?_
      refine xa_block ?_
      refine xa_seq ?_
      refine xa_region ?_
      refine x_index_slN rfl rfl rfl rfl (by omega) (by (simp; done)) rfl ?_
      refine x_load_mapV rfl rfl (by omega) (fun _ => rfl) (fun _ => rfl) rfl ?_
      refine x_assign rfl rfl rfl ?_
      refine xr_nil ⟨nofun, [(.t 0, _), (.t 1, _), (.t 5, _), (.t 7, _), (.t 23, _), (.t 24, _), (.t 25, _), (.h 5, _), (.h 1000023, _)], ⟨rfl, rfl, rfl, rfl, rfl, rfl, rfl, rfl, rfl, rfl, rfl, rfl, rfl, rfl, rfl, rfl, rfl, rfl, trivial⟩, ?_⟩
      refine xa_seq ?_
      refine xa_region ?_
      refine x_move rfl rfl ?_
      refine x_build (fs := [_, _, _]) rfl rfl rfl rfl rfl ?_
      refine x_alloc rfl (fun _ => slot_box rfl) (fun _ => rfl) ?_
      intro g8
      refine x_store_boxV rfl rfl rfl rfl ⟨by decide, rfl, of_decide_eq_true rfl, of_decide_eq_true rfl, rfl⟩ rfl (by exact slot_box rfl) ?_
      refine xr_nil ⟨nofun, [(.t 0, _), (.t 1, _), (.t 5, _), (.t 7, _), (.t 8, _), (.t 23, _), (.t 24, _), (.t 25, _), (.h 5, _), (.h 8, _), (.h 1000023, _)], ⟨rfl, rfl, rfl, rfl, rfl, rfl, rfl, rfl, rfl, rfl, rfl, rfl, rfl, rfl, rfl, rfl, rfl, rfl, rfl, rfl, rfl, rfl, trivial⟩, ?_⟩
      refine xa_seq ?_
      refine xa_seq ?_
      refine xa_region ?_
      refine x_move rfl rfl ?_
      refine x_len_map rfl rfl ?_
      refine x_move rfl rfl ?_
      refine xr_nil ⟨nofun, [(.t 0, _), (.t 1, _), (.t 5, _), (.t 7, _), (.t 8, _), (.t 23, _), (.t 24, _), (.t 25, _), (.t 31, _), (.t 32, _), (.t 33, _), (.h 5, _), (.h 8, _), (.h 1000023, _)], ⟨rfl, rfl, rfl, rfl, rfl, rfl, rfl, rfl, rfl, rfl, rfl, rfl, rfl, rfl, rfl, rfl, rfl, rfl, rfl, rfl, rfl, rfl, rfl, rfl, rfl, rfl, rfl, rfl, trivial⟩, ?_⟩
      refine xa_block ?_
      refine xa_loopK (β := Nat × Int × Int) [(.t 0, _), (.t 1, _), (.t 5, _), (.t 7, _), (.t 8, _), (.t 23, _), (.t 24, _), (.t 25, _), (.t 31, _), (.t 32, _), (.h 5, _), (.h 1000023, _)] (fun (z : Nat × Int × Int) => match z with | (i, a, c) => [(.t 33, iV i), (.h 8, .obj g8 3 3 [F_block (a, c, vA xs j)])]) (fun (z : Nat × Int × Int) => match z with | (i, a, c) => i ≤ xs.length ∧ a = prS (onT xs ms (vA xs j)) i ∧ c = prS (mcT xs (vA xs j)) i) (fun (z : Nat × Int × Int) => match z with | (i, a, c) => xs.length - i) (0, 0, 0) ⟨rfl, rfl, rfl, rfl, rfl, rfl, rfl, rfl, rfl, rfl, rfl, rfl, rfl, rfl, trivial⟩ ⟨Nat.zero_le _, rfl, rfl⟩ ?_
      intro z hb
      obtain ⟨i, a, c⟩ := z
      try dsimp only at hb
      obtain ⟨hi2, ha, hcc⟩ := hb
      have hmi := fun h : i < ms.length => allB_iff.1 hmb i h
      have hab := prS_bd (f := onT xs ms (vA xs j)) (c := 1) (n := i) (fun q hq => by unfold onT; split; (· exact allB_iff.1 hmb q (by omega)); (· omega))
      have hcb := prS_bd (f := mcT xs (vA xs j)) (c := 1) (n := i) (fun q _ => by unfold mcT; split <;> omega)
      rw [← ha] at hab
      rw [← hcc] at hcb
      refine xa_seq ?_
      refine xa_region ?_
      refine x_lss rfl rfl ?_
      refine xr_nil ⟨nofun, [(.t 0, _), (.t 1, _), (.t 5, _), (.t 7, _), (.t 8, _), (.t 23, _), (.t 24, _), (.t 25, _), (.t 31, _), (.t 32, _), (.t 33, _), (.t 34, _), (.h 5, _), (.h 8, _), (.h 1000023, _)], ⟨rfl, rfl, rfl, rfl, rfl, rfl, rfl, rfl, rfl, rfl, rfl, rfl, rfl, rfl, rfl, rfl, rfl, rfl, rfl, rfl, rfl, rfl, rfl, rfl, rfl, rfl, rfl, rfl, rfl, rfl, trivial⟩, ?_⟩
      refine xa_seq ?_
      refine xa_cond rfl (fun hc => ?_) (fun hc => ?_)
      · try simp only [decide_eq_true_eq, decide_eq_false_iff_not, Bool.not_eq_true', Bool.not_eq_false', bne_iff_ne, beq_iff_eq, ne_eq, Bool.not_true, Bool.not_false, beq_eq_false_iff_ne, bne_eq_false_iff_eq, Decidable.not_not, Int.not_lt, Int.not_le, Bool.and_eq_true, Bool.and_eq_false_iff, Bool.or_eq_true, Bool.or_eq_false_iff, List.length_map] at hc
        refine xa_skip ?_
        refine xa_seq ?_
        refine xa_block ?_
        refine xa_seq ?_
        refine xa_region ?_
        refine x_move rfl rfl ?_
        refine x_index_listN rfl rfl rfl (fun _ => rfl) (by omega) ?_
        refine x_load_iptV rfl rfl rfl ?_
        refine x_assign rfl rfl rfl ?_
        refine x_assign rfl rfl rfl ?_
        refine xr_nil ⟨nofun, [(.t 0, _), (.t 1, _), (.t 5, _), (.t 7, _), (.t 8, _), (.t 9, _), (.t 10, _), (.t 23, _), (.t 24, _), (.t 25, _), (.t 31, _), (.t 32, _), (.t 33, _), (.h 5, _), (.h 8, _), (.h 1000023, _)], ⟨rfl, rfl, rfl, rfl, rfl, rfl, rfl, rfl, rfl, rfl, rfl, rfl, rfl, rfl, rfl, rfl, rfl, rfl, rfl, rfl, rfl, rfl, rfl, rfl, rfl, rfl, rfl, rfl, rfl, rfl, rfl, rfl, trivial⟩, ?_⟩
        refine xa_seq ?_
        refine xa_region ?_
        refine x_move rfl rfl ?_
        refine x_move rfl rfl ?_
        refine x_eql rfl rfl ?_
        refine xr_nil ⟨nofun, [(.t 0, _), (.t 1, _), (.t 5, _), (.t 7, _), (.t 8, _), (.t 9, _), (.t 23, _), (.t 24, _), (.t 25, _), (.t 31, _), (.t 32, _), (.t 33, _), (.t 40, _), (.h 5, _), (.h 8, _), (.h 1000023, _)], ⟨rfl, rfl, rfl, rfl, rfl, rfl, rfl, rfl, rfl, rfl, rfl, rfl, rfl, rfl, rfl, rfl, rfl, rfl, rfl, rfl, rfl, rfl, rfl, rfl, rfl, rfl, rfl, rfl, rfl, rfl, rfl, rfl, trivial⟩, ?_⟩
        refine xa_cond rfl (fun hc => ?_) (fun hc => ?_)
        · try simp only [decide_eq_true_eq, decide_eq_false_iff_not, Bool.not_eq_true', Bool.not_eq_false', bne_iff_ne, beq_iff_eq, ne_eq, Bool.not_true, Bool.not_false, beq_eq_false_iff_ne, bne_eq_false_iff_eq, Decidable.not_not, Int.not_lt, Int.not_le, Bool.and_eq_true, Bool.and_eq_false_iff, Bool.or_eq_true, Bool.or_eq_false_iff, List.length_map] at hc
          refine xa_seq ?_
          refine xa_region ?_
          refine x_fieldAddr rfl rfl (by decide) rfl rfl ?_
          refine x_load_ptrN rfl rfl rfl rfl rfl rfl ?_
          refine x_move rfl rfl ?_
          refine x_move rfl rfl ?_
          refine x_index_listN rfl rfl rfl (fun _ => rfl) (by omega) ?_
          refine x_load_iptV rfl rfl rfl ?_
          refine x_add rfl rfl (inI64 (by omega)) ?_
          refine x_fieldAddr rfl rfl (by decide) rfl rfl ?_
          refine x_store rfl rfl rfl rfl rfl ⟨by decide, rfl, of_decide_eq_true rfl, of_decide_eq_true rfl, rfl⟩ (by exact slot_box rfl) ?_
          refine xr_nil ⟨fun _ => ⟨by decide +kernel, by decide +kernel⟩, [(.t 0, _), (.t 1, _), (.t 5, _), (.t 7, _), (.t 8, _), (.t 23, _), (.t 24, _), (.t 25, _), (.t 31, _), (.t 32, _), (.t 33, _), (.h 5, _), (.h 8, _), (.h 1000023, _)], ⟨rfl, rfl, rfl, rfl, rfl, rfl, rfl, rfl, rfl, rfl, rfl, rfl, rfl, rfl, rfl, rfl, rfl, rfl, rfl, rfl, rfl, rfl, rfl, rfl, rfl, rfl, rfl, rfl, trivial⟩, ?_⟩
          refine xa_region ?_
          refine x_fieldAddr rfl rfl (by decide) rfl rfl ?_
          refine x_load_ptrN rfl rfl rfl rfl rfl rfl ?_
          refine x_add rfl rfl (inI64 (by dsimp only; omega)) ?_
          refine x_fieldAddr rfl rfl (by decide) rfl rfl ?_
          refine x_store rfl rfl rfl rfl rfl ⟨by decide, rfl, of_decide_eq_true rfl, of_decide_eq_true rfl, rfl⟩ (by exact slot_box rfl) ?_
          refine xr_nil ⟨nofun, [(.t 0, _), (.t 1, _), (.t 5, _), (.t 7, _), (.t 8, _), (.t 23, _), (.t 24, _), (.t 25, _), (.t 31, _), (.t 32, _), (.t 33, _), (.h 5, _), (.h 8, _), (.h 1000023, _)], ⟨rfl, rfl, rfl, rfl, rfl, rfl, rfl, rfl, rfl, rfl, rfl, rfl, rfl, rfl, rfl, rfl, rfl, rfl, rfl, rfl, rfl, rfl, rfl, rfl, rfl, rfl, rfl, rfl, trivial⟩, ?_⟩
          refine xa_region ?_
          refine x_add rfl rfl (inI64 (by omega)) ?_
          refine x_move rfl rfl ?_
          refine xr_nil ⟨nofun, [(.t 0, _), (.t 1, _), (.t 5, _), (.t 7, _), (.t 8, _), (.t 23, _), (.t 24, _), (.t 25, _), (.t 31, _), (.t 32, _), (.t 33, _), (.h 5, _), (.h 8, _), (.h 1000023, _)], ⟨rfl, rfl, rfl, rfl, rfl, rfl, rfl, rfl, rfl, rfl, rfl, rfl, rfl, rfl, rfl, rfl, rfl, rfl, rfl, rfl, rfl, rfl, rfl, rfl, rfl, rfl, rfl, rfl, trivial⟩, ?_⟩
          refine ⟨(i + 1, a + ms.getD i default, c + 1), ?_, (by simp only; omega), ⟨rfl, rfl, rfl, rfl, rfl, rfl, rfl, rfl, rfl, rfl, rfl, rfl, rfl, rfl, trivial⟩⟩
          exact ⟨by omega, by rw [prS, ← ha, onT, if_pos (by assumption)], by rw [prS, ← hcc, mcT, if_pos (by assumption)]⟩
        · try simp only [decide_eq_true_eq, decide_eq_false_iff_not, Bool.not_eq_true', Bool.not_eq_false', bne_iff_ne, beq_iff_eq, ne_eq, Bool.not_true, Bool.not_false, beq_eq_false_iff_ne, bne_eq_false_iff_eq, Decidable.not_not, Int.not_lt, Int.not_le, Bool.and_eq_true, Bool.and_eq_false_iff, Bool.or_eq_true, Bool.or_eq_false_iff, List.length_map] at hc
          refine xa_skip ?_
          refine xa_region ?_
          refine x_add rfl rfl (inI64 (by omega)) ?_
          refine x_move rfl rfl ?_
          refine xr_nil ⟨nofun, [(.t 0, _), (.t 1, _), (.t 5, _), (.t 7, _), (.t 8, _), (.t 23, _), (.t 24, _), (.t 25, _), (.t 31, _), (.t 32, _), (.t 33, _), (.h 5, _), (.h 8, _), (.h 1000023, _)], ⟨rfl, rfl, rfl, rfl, rfl, rfl, rfl, rfl, rfl, rfl, rfl, rfl, rfl, rfl, rfl, rfl, rfl, rfl, rfl, rfl, rfl, rfl, rfl, rfl, rfl, rfl, rfl, rfl, trivial⟩, ?_⟩
          refine ⟨(i + 1, a, c), ?_, (by simp only; omega), ⟨rfl, rfl, rfl, rfl, rfl, rfl, rfl, rfl, rfl, rfl, rfl, rfl, rfl, rfl, trivial⟩⟩
          exact ⟨by omega, by rw [prS, ← ha, onT, if_neg (by assumption)]; omega, by rw [prS, ← hcc, mcT, if_neg (by assumption)]; omega⟩
      · try simp only [decide_eq_true_eq, decide_eq_false_iff_not, Bool.not_eq_true', Bool.not_eq_false', bne_iff_ne, beq_iff_eq, ne_eq, Bool.not_true, Bool.not_false, beq_eq_false_iff_ne, bne_eq_false_iff_eq, Decidable.not_not, Int.not_lt, Int.not_le, Bool.and_eq_true, Bool.and_eq_false_iff, Bool.or_eq_true, Bool.or_eq_false_iff, List.length_map] at hc
        refine xa_exit ?_
        refine xa_seq ?_
        refine xa_region ?_
        refine x_move rfl rfl ?_
        refine x_load_boxV rfl rfl rfl rfl rfl ?_
        refine x_buildSlice (es := List.map F_block [(a, c, vA xs j)]) rfl rfl (by decide) rfl rfl (fun _ => slot_obj (noRef_map fun _ => rfl)) (fun _ => rfl) ?_
        intro g56
        refine x_append_map rfl rfl rfl rfl (by (simp; done)) (by simp) (by decide) rfl rfl rfl rfl (by decide) (fun _ => ⟨rfl, rfl⟩) (by simp only [maxL]; (simp only [List.length_nil, List.length_cons, List.length_append, Nat.zero_add, List.length_map]; omega)) (fun _ => rfl) ?_
        intro g57
        (refine x_assign_own rfl rfl (by (simp; done)) rfl (fun _ => (slot_obj (by exact noRef_map fun _ => rfl))) (fun _ => rfl) ?_; intro g5)
        refine xr_nil ⟨nofun, [(.t 0, _), (.t 1, _), (.t 5, _), (.t 23, _), (.t 24, _), (.t 25, _), (.h 5, _), (.h 1000023, _)], ⟨rfl, rfl, rfl, rfl, rfl, rfl, rfl, rfl, rfl, rfl, rfl, rfl, rfl, rfl, rfl, rfl, trivial⟩, ?_⟩
        refine xa_seq ?_
        refine xa_region ?_
        refine x_move rfl rfl ?_
        refine x_len_sl rfl rfl ?_
        refine x_assign rfl rfl rfl ?_
        refine xr_nil ⟨nofun, [(.t 0, _), (.t 1, _), (.t 5, _), (.t 11, _), (.t 23, _), (.t 24, _), (.t 25, _), (.h 5, _), (.h 1000023, _)], ⟨rfl, rfl, rfl, rfl, rfl, rfl, rfl, rfl, rfl, rfl, rfl, rfl, rfl, rfl, rfl, rfl, rfl, rfl, trivial⟩, ?_⟩
        refine xa_block ?_
        refine xa_loopK (β := List Bk × Nat) [(.t 0, _), (.t 1, _), (.t 23, _), (.t 24, _), (.t 25, _), (.h 1000023, _)] (fun (z : List Bk × Nat) => match z with | (b2, g2) => [(.t 5, .sl 5 g2 none 0 b2.length), (.h 5, .obj g2 0 3 (b2.map F_block)), (.t 11, iV b2.length)]) (fun (z : List Bk × Nat) => match z with | (b2, g2) => Pav (PA xs ms) (QA xs) (vA xs) (j + 1) b2 ∧ b2.length ≤ j + 1) (fun (z : List Bk × Nat) => match z with | (b2, g2) => b2.length) (b1 ++ [(a, c, vA xs j)], _) ⟨rfl, rfl, rfl, rfl, rfl, rfl, rfl, rfl, rfl, trivial⟩ ⟨Pav.start hs1 hi1 (by rw [ha, hcc, show i = xs.length by omega]; exact Prod.ext (prS_one (fun j => onV xs ms (vA xs j)) j).symm (Prod.ext (prS_one (fun j => mcV xs (vA xs j)) j).symm rfl)), by simp; omega⟩ ?_
        intro z hb
        obtain ⟨b2, g2⟩ := z
        try dsimp only at hb
        obtain ⟨hpv, hb2l⟩ := hb
        have hpl := hpv.len
        have hbm := fun i (h : i < b2.length) => hpv.mem (QA_lt xs) (PA_mn hml hmb) (PA_bd hml hmb) (QA_bd xs) (by omega) h
        refine xa_seq ?_
        refine xa_seq ?_
        refine xa_region ?_
        refine x_move rfl rfl ?_
        refine x_gtr rfl rfl ?_
        refine x_move rfl rfl ?_
        refine x_guard_split rfl rfl (fun hg0 => ?_) (fun hg0 => ?_)
        · have hg := hg0; try simp only [decide_eq_true_eq, decide_eq_false_iff_not, Bool.not_eq_true', Bool.not_eq_false', bne_iff_ne, beq_iff_eq, ne_eq, Bool.not_true, Bool.not_false, beq_eq_false_iff_ne, bne_eq_false_iff_eq, Decidable.not_not, Int.not_lt, Int.not_le, Bool.and_eq_true, Bool.and_eq_false_iff, Bool.or_eq_true, Bool.or_eq_false_iff] at hg
          refine x_move rfl rfl ?_
          refine x_guard_t rfl rfl (by assumption) ?_
          refine x_move rfl rfl ?_
          refine x_guard_t rfl rfl (by assumption) ?_
          refine x_sub rfl rfl (inI64 (by omega)) ?_
          refine x_guard_t rfl rfl (by assumption) ?_
          rw [show ((b2.length : Int) - 2) = ((b2.length - 2 : Nat) : Int) by omega]
          refine x_index_slN rfl rfl rfl rfl (by omega) (by (simp; done)) rfl ?_
          refine x_guard_t rfl rfl (by assumption) ?_
          refine x_fieldAddr rfl rfl (by decide) rfl rfl ?_
          refine x_guard_t rfl rfl (by assumption) ?_
          refine x_load_mapN rfl rfl (by omega) (fun _ => rfl) rfl rfl ?_
          refine x_guard_t rfl rfl (by assumption) ?_
          refine x_move rfl rfl ?_
          refine x_guard_t rfl rfl (by assumption) ?_
          refine x_move rfl rfl ?_
          refine x_guard_t rfl rfl (by assumption) ?_
          refine x_sub rfl rfl (inI64 (by omega)) ?_
          refine x_guard_t rfl rfl (by assumption) ?_
          rw [show ((b2.length : Int) - 1) = ((b2.length - 1 : Nat) : Int) by omega]
          refine x_index_slN rfl rfl rfl rfl (by omega) (by (simp; done)) rfl ?_
          refine x_guard_t rfl rfl (by assumption) ?_
          refine x_fieldAddr rfl rfl (by decide) rfl rfl ?_
          refine x_guard_t rfl rfl (by assumption) ?_
          refine x_load_mapN rfl rfl (by omega) (fun _ => rfl) rfl rfl ?_
          refine x_guard_t rfl rfl (by assumption) ?_
          have hb1 := hbm (b2.length - 2) (by omega)
          have hb2 := hbm (b2.length - 1) (by omega)
          have hm1 := mulB (x := (b2.getD (b2.length - 2) default).1) (y := (b2.getD (b2.length - 1) default).2.1) (a := 10) (b := 10) ⟨by omega, by omega⟩ ⟨by omega, by omega⟩
          have hm2 := mulB (x := (b2.getD (b2.length - 1) default).1) (y := (b2.getD (b2.length - 2) default).2.1) (a := 10) (b := 10) ⟨by omega, by omega⟩ ⟨by omega, by omega⟩
          refine x_mul rfl rfl (inI64 (by omega)) ?_
          refine x_guard_t rfl rfl (by assumption) ?_
          refine x_move rfl rfl ?_
          refine x_guard_t rfl rfl (by assumption) ?_
          refine x_move rfl rfl ?_
          refine x_guard_t rfl rfl (by assumption) ?_
          refine x_sub rfl rfl (inI64 (by omega)) ?_
          refine x_guard_t rfl rfl (by assumption) ?_
          rw [show ((b2.length : Int) - 1) = ((b2.length - 1 : Nat) : Int) by omega]
          refine x_index_slN rfl rfl rfl rfl (by omega) (by (simp; done)) rfl ?_
          refine x_guard_t rfl rfl (by assumption) ?_
          refine x_fieldAddr rfl rfl (by decide) rfl rfl ?_
          refine x_guard_t rfl rfl (by assumption) ?_
          refine x_load_mapN rfl rfl (by omega) (fun _ => rfl) rfl rfl ?_
          refine x_guard_t rfl rfl (by assumption) ?_
          refine x_move rfl rfl ?_
          refine x_guard_t rfl rfl (by assumption) ?_
          refine x_move rfl rfl ?_
          refine x_guard_t rfl rfl (by assumption) ?_
          refine x_sub rfl rfl (inI64 (by omega)) ?_
          refine x_guard_t rfl rfl (by assumption) ?_
          rw [show ((b2.length : Int) - 2) = ((b2.length - 2 : Nat) : Int) by omega]
          refine x_index_slN rfl rfl rfl rfl (by omega) (by (simp; done)) rfl ?_
          refine x_guard_t rfl rfl (by assumption) ?_
          refine x_fieldAddr rfl rfl (by decide) rfl rfl ?_
          refine x_guard_t rfl rfl (by assumption) ?_
          refine x_load_mapN rfl rfl (by omega) (fun _ => rfl) rfl rfl ?_
          refine x_guard_t rfl rfl (by assumption) ?_
          refine x_mul rfl rfl (inI64 (by omega)) ?_
          refine x_guard_t rfl rfl (by assumption) ?_
          refine x_geq rfl rfl ?_
          refine x_pick_t rfl (by assumption) rfl rfl ?_
          refine xr_nil ⟨fun _ => ⟨by decide +kernel, by decide +kernel⟩, [(.t 0, _), (.t 1, _), (.t 5, _), (.t 11, _), (.t 23, _), (.t 24, _), (.t 25, _), (.t 90, _), (.h 5, _), (.h 1000023, _)], ⟨rfl, rfl, rfl, rfl, rfl, rfl, rfl, rfl, rfl, rfl, rfl, rfl, rfl, rfl, rfl, rfl, rfl, rfl, rfl, rfl, trivial⟩, ?_⟩
          refine xa_cond rfl (fun hc => ?_) (fun hc => ?_)
          · try simp only [decide_eq_true_eq, decide_eq_false_iff_not, Bool.not_eq_true', Bool.not_eq_false', bne_iff_ne, beq_iff_eq, ne_eq, Bool.not_true, Bool.not_false, beq_eq_false_iff_ne, bne_eq_false_iff_eq, Decidable.not_not, Int.not_lt, Int.not_le, Bool.and_eq_true, Bool.and_eq_false_iff, Bool.or_eq_true, Bool.or_eq_false_iff, List.length_map] at hc
            refine xa_skip ?_
            refine xa_seq ?_
            refine xa_block ?_
            refine xa_seq ?_
            refine xa_region ?_
            refine x_move rfl rfl ?_
            refine x_move rfl rfl ?_
            refine x_sub rfl rfl (inI64 (by omega)) ?_
            rw [show ((b2.length : Int) - 2) = ((b2.length - 2 : Nat) : Int) by omega]
            refine x_index_slN rfl rfl rfl rfl (by omega) (by (simp; done)) rfl ?_
            refine x_load_mapV rfl rfl (by omega) (fun _ => rfl) (fun _ => rfl) rfl ?_
            refine x_move rfl rfl ?_
            refine x_move rfl rfl ?_
            refine x_sub rfl rfl (inI64 (by omega)) ?_
            rw [show ((b2.length : Int) - 1) = ((b2.length - 1 : Nat) : Int) by omega]
            refine x_index_slN rfl rfl rfl rfl (by omega) (by (simp; done)) rfl ?_
            refine x_load_mapV rfl rfl (by omega) (fun _ => rfl) (fun _ => rfl) rfl ?_
            refine x_alloc rfl (fun _ => slot_box rfl) (fun _ => rfl) ?_
            intro g12
            refine x_alloc rfl (fun _ => slot_box rfl) (fun _ => rfl) ?_
            intro g13
            refine x_store_boxV rfl rfl rfl rfl ⟨by decide, rfl, of_decide_eq_true rfl, of_decide_eq_true rfl, rfl⟩ rfl (by exact slot_box rfl) ?_
            refine x_store_boxV rfl rfl rfl rfl ⟨by decide, rfl, of_decide_eq_true rfl, of_decide_eq_true rfl, rfl⟩ rfl (by exact slot_box rfl) ?_
            refine xr_nil ⟨fun _ => ⟨by decide +kernel, by decide +kernel⟩, [(.t 0, _), (.t 1, _), (.t 5, _), (.t 11, _), (.t 12, _), (.t 13, _), (.t 23, _), (.t 24, _), (.t 25, _), (.h 5, _), (.h 12, _), (.h 13, _), (.h 1000023, _)], ⟨rfl, rfl, rfl, rfl, rfl, rfl, rfl, rfl, rfl, rfl, rfl, rfl, rfl, rfl, rfl, rfl, rfl, rfl, rfl, rfl, rfl, rfl, rfl, rfl, rfl, rfl, trivial⟩, ?_⟩
            refine xa_region ?_
            refine x_move rfl rfl ?_
            refine x_move rfl rfl ?_
            refine x_sub rfl rfl (inI64 (by omega)) ?_
            rw [show ((b2.length : Int) - 2) = ((b2.length - 2 : Nat) : Int) by omega]
            refine x_slice_sl rfl rfl rfl (optNat_someN rfl) (by omega) rfl ?_
            refine x_fieldAddr rfl rfl (by decide) rfl rfl ?_
            refine x_load_ptrN rfl rfl rfl rfl rfl rfl ?_
            refine x_fieldAddr rfl rfl (by decide) rfl rfl ?_
            refine x_load_ptrN rfl rfl rfl rfl rfl rfl ?_
            have hb1 := hbm (b2.length - 2) (by omega)
            have hb2 := hbm (b2.length - 1) (by omega)
            refine x_add rfl rfl (inI64 (by omega)) ?_
            refine x_fieldAddr rfl rfl (by decide) rfl rfl ?_
            refine x_load_ptrN rfl rfl rfl rfl rfl rfl ?_
            refine x_fieldAddr rfl rfl (by decide) rfl rfl ?_
            refine x_load_ptrN rfl rfl rfl rfl rfl rfl ?_
            refine x_add rfl rfl (inI64 (by omega)) ?_
            refine x_fieldAddr rfl rfl (by decide) rfl rfl ?_
            refine x_load_ptrN rfl rfl rfl rfl rfl rfl ?_
            refine x_build (fs := [_, _, _]) rfl rfl rfl rfl rfl ?_
            refine x_buildSlice (es := List.map F_block [((b2.getD (b2.length - 2) default).1 + (b2.getD (b2.length - 1) default).1, (b2.getD (b2.length - 2) default).2.1 + (b2.getD (b2.length - 1) default).2.1, (b2.getD (b2.length - 1) default).2.2)]) rfl rfl (by decide) rfl rfl (fun _ => slot_obj (noRef_map fun _ => rfl)) (fun _ => rfl) ?_
            intro g120
            refine x_append_tkM rfl rfl rfl rfl (by omega) (by simp) (by decide) rfl rfl rfl rfl (by decide) (fun _ => ⟨rfl, rfl⟩) (by simp only [maxL]; (simp only [List.length_nil, List.length_cons, List.length_append, Nat.zero_add, List.length_map]; omega)) (fun _ => rfl) ?_
            intro g121
            (refine x_assign_own rfl rfl (by (simp; done)) rfl (fun _ => (slot_obj (by exact noRef_map fun _ => rfl))) (fun _ => rfl) ?_; intro g5)
            refine xr_nil ⟨fun _ => ⟨by decide +kernel, by decide +kernel⟩, [(.t 0, _), (.t 1, _), (.t 5, _), (.t 23, _), (.t 24, _), (.t 25, _), (.h 5, _), (.h 1000023, _)], ⟨rfl, rfl, rfl, rfl, rfl, rfl, rfl, rfl, rfl, rfl, rfl, rfl, rfl, rfl, rfl, rfl, trivial⟩, ?_⟩
            refine xa_region ?_
            refine x_move rfl rfl ?_
            refine x_len_sl rfl rfl ?_
            refine x_assign rfl rfl rfl ?_
            refine xr_nil ⟨nofun, [(.t 0, _), (.t 1, _), (.t 5, _), (.t 11, _), (.t 23, _), (.t 24, _), (.t 25, _), (.h 5, _), (.h 1000023, _)], ⟨rfl, rfl, rfl, rfl, rfl, rfl, rfl, rfl, rfl, rfl, rfl, rfl, rfl, rfl, rfl, rfl, rfl, rfl, trivial⟩, ?_⟩
            refine ⟨(_, _), ?_, (by simp; omega), ⟨rfl, rfl, rfl, rfl, rfl, rfl, rfl, rfl, rfl, trivial⟩⟩
            exact ⟨hpv.merge (QA_lt xs) (by omega) (by omega) (by omega), by simp; omega⟩
          · try simp only [decide_eq_true_eq, decide_eq_false_iff_not, Bool.not_eq_true', Bool.not_eq_false', bne_iff_ne, beq_iff_eq, ne_eq, Bool.not_true, Bool.not_false, beq_eq_false_iff_ne, bne_eq_false_iff_eq, Decidable.not_not, Int.not_lt, Int.not_le, Bool.and_eq_true, Bool.and_eq_false_iff, Bool.or_eq_true, Bool.or_eq_false_iff, List.length_map] at hc
            refine xa_exit ?_
            refine xa_region ?_
            refine x_add rfl rfl (inI64 (by omega)) ?_
            refine x_move rfl rfl ?_
            refine xr_nil ⟨nofun, [(.t 0, _), (.t 1, _), (.t 5, _), (.t 23, _), (.t 24, _), (.t 25, _), (.h 5, _), (.h 1000023, _)], ⟨rfl, rfl, rfl, rfl, rfl, rfl, rfl, rfl, rfl, rfl, rfl, rfl, rfl, rfl, rfl, rfl, trivial⟩, ?_⟩
            refine ⟨(j + 1, b2, _), ?_, (by simp only; omega), ⟨rfl, rfl, rfl, rfl, rfl, rfl, rfl, rfl, trivial⟩⟩
            have hfin := hpv.fin (by omega)
            exact ⟨by omega, hfin.1, hfin.2, by omega⟩
        · have hg := hg0; try simp only [decide_eq_true_eq, decide_eq_false_iff_not, Bool.not_eq_true', Bool.not_eq_false', bne_iff_ne, beq_iff_eq, ne_eq, Bool.not_true, Bool.not_false, beq_eq_false_iff_ne, bne_eq_false_iff_eq, Decidable.not_not, Int.not_lt, Int.not_le, Bool.and_eq_true, Bool.and_eq_false_iff, Bool.or_eq_true, Bool.or_eq_false_iff] at hg
          refine x_guard_f rfl rfl (by assumption) ?_
          refine x_guard_f rfl rfl (by assumption) ?_
          refine x_guard_f rfl rfl (by assumption) ?_
          refine x_guard_f rfl rfl (by assumption) ?_
          refine x_guard_f rfl rfl (by assumption) ?_
          refine x_guard_f rfl rfl (by assumption) ?_
          refine x_guard_f rfl rfl (by assumption) ?_
          refine x_guard_f rfl rfl (by assumption) ?_
          refine x_guard_f rfl rfl (by assumption) ?_
          refine x_guard_f rfl rfl (by assumption) ?_
          refine x_guard_f rfl rfl (by assumption) ?_
          refine x_guard_f rfl rfl (by assumption) ?_
          refine x_guard_f rfl rfl (by assumption) ?_
          refine x_guard_f rfl rfl (by assumption) ?_
          refine x_guard_f rfl rfl (by assumption) ?_
          refine x_guard_f rfl rfl (by assumption) ?_
          refine x_guard_f rfl rfl (by assumption) ?_
          refine x_guard_f rfl rfl (by assumption) ?_
          refine x_guard_f rfl rfl (by assumption) ?_
          refine x_guard_f rfl rfl (by assumption) ?_
          refine x_guard_f rfl rfl (by assumption) ?_
          refine x_guard_f rfl rfl (by assumption) ?_
          refine x_guard_f rfl rfl (by assumption) ?_
          refine x_guard_f rfl rfl (by assumption) ?_
          refine x_guard_f rfl rfl (by assumption) ?_
          refine x_guard_f rfl rfl (by assumption) ?_
          refine x_pick_f rfl (by assumption) rfl rfl ?_
          refine xr_nil ⟨fun _ => ⟨by decide +kernel, by decide +kernel⟩, [(.t 0, _), (.t 1, _), (.t 5, _), (.t 11, _), (.t 23, _), (.t 24, _), (.t 25, _), (.t 90, _), (.h 5, _), (.h 1000023, _)], ⟨rfl, rfl, rfl, rfl, rfl, rfl, rfl, rfl, rfl, rfl, rfl, rfl, rfl, rfl, rfl, rfl, rfl, rfl, rfl, rfl, trivial⟩, ?_⟩
          refine xa_cond rfl (fun hc => absurd hc (by decide)) (fun hc => ?_)
          refine xa_exit ?_
          refine xa_region ?_
          refine x_add rfl rfl (inI64 (by omega)) ?_
          refine x_move rfl rfl ?_
          refine xr_nil ⟨nofun, [(.t 0, _), (.t 1, _), (.t 5, _), (.t 23, _), (.t 24, _), (.t 25, _), (.h 5, _), (.h 1000023, _)], ⟨rfl, rfl, rfl, rfl, rfl, rfl, rfl, rfl, rfl, rfl, rfl, rfl, rfl, rfl, rfl, rfl, trivial⟩, ?_⟩
          refine ⟨(j + 1, b2, _), ?_, (by simp only; omega), ⟨rfl, rfl, rfl, rfl, rfl, rfl, rfl, rfl, trivial⟩⟩
          have hfin := hpv.fin (by omega)
          exact ⟨by omega, hfin.1, hfin.2, by omega⟩
    · try simp only [decide_eq_true_eq, decide_eq_false_iff_not, Bool.not_eq_true', Bool.not_eq_false', bne_iff_ne, beq_iff_eq, ne_eq, Bool.not_true, Bool.not_false, beq_eq_false_iff_ne, bne_eq_false_iff_eq, Decidable.not_not, Int.not_lt, Int.not_le, Bool.and_eq_true, Bool.and_eq_false_iff, Bool.or_eq_true, Bool.or_eq_false_iff, List.length_map] at hc
      refine xa_exit ?_
      refine xa_seq ?_
      refine xa_region ?_
      refine x_move rfl rfl ?_
      refine x_len_map rfl rfl ?_
      refine x_makeSlice (f := F_Frac) (x0 := (0, 0)) rfl rfl rfl rfl rfl (by simp only [maxL]; omega) (by decide) (fun _ => slot_obj (by exact noRef_map fun _ => rfl)) (fun _ => rfl) ?_
      intro g125
      (refine x_assign_own rfl rfl (by (simp; done)) rfl (fun _ => (slot_obj (by exact noRef_map fun _ => rfl))) (fun _ => rfl) ?_; intro g14)
      refine xr_nil ⟨nofun, [(.t 0, _), (.t 5, _), (.t 14, _), (.h 5, _), (.h 14, _)], ⟨rfl, rfl, rfl, rfl, rfl, rfl, rfl, rfl, rfl, rfl, trivial⟩, ?_⟩
      refine xa_seq ?_
      refine xa_seq ?_
      refine xa_region ?_
      refine x_move rfl rfl ?_
      refine x_len_map rfl rfl ?_
      refine x_move rfl rfl ?_
      refine xr_nil ⟨nofun, [(.t 5, _), (.t 14, _), (.t 126, _), (.t 127, _), (.t 128, _), (.h 5, _), (.h 14, _)], ⟨rfl, rfl, rfl, rfl, rfl, rfl, rfl, rfl, rfl, rfl, rfl, rfl, rfl, rfl, trivial⟩, ?_⟩
      refine xa_block ?_
      have hbe := Bks.uniq (xs := xs) (ms := ms) ⟨(show j = (vsA xs).length by omega) ▸ hs1, hi1⟩ hB
      rw [hbe]
      have hbsl : bs.length ≤ j := hbe ▸ hbl
      refine xa_loopK (β := Nat × List (Int × Int)) [(.t 5, _), (.t 14, _), (.t 126, _), (.t 127, _), (.h 5, _)] (fun (z : Nat × List (Int × Int)) => match z with | (i, out) => [(.t 128, iV i), (.h 14, .obj g14 0 2 (out.map F_Frac))]) (fun (z : Nat × List (Int × Int)) => match z with | (i, out) => i ≤ xs.length ∧ out.length = xs.length ∧ ∀ x, x < i → x < xs.length → out.getD x default = qP (chv bs (xs.getD x default))) (fun (z : Nat × List (Int × Int)) => match z with | (i, out) => xs.length - i) (0, List.replicate xs.length (0, 0)) ⟨rfl, rfl, rfl, rfl, rfl, rfl, rfl, trivial⟩ ⟨Nat.zero_le _, by simp, fun x h => by omega⟩ ?_
      intro z hb
      obtain ⟨i, out⟩ := z
      try dsimp only at hb
      obtain ⟨hi2, hol, hox⟩ := hb
      refine xa_seq ?_
      refine xa_region ?_
      refine x_lss rfl rfl ?_
      refine xr_nil ⟨nofun, [(.t 5, _), (.t 14, _), (.t 126, _), (.t 127, _), (.t 128, _), (.t 129, _), (.h 5, _), (.h 14, _)], ⟨rfl, rfl, rfl, rfl, rfl, rfl, rfl, rfl, rfl, rfl, rfl, rfl, rfl, rfl, rfl, rfl, trivial⟩, ?_⟩
      refine xa_seq ?_
      refine xa_cond rfl (fun hc => ?_) (fun hc => ?_)
      · try simp only [decide_eq_true_eq, decide_eq_false_iff_not, Bool.not_eq_true', Bool.not_eq_false', bne_iff_ne, beq_iff_eq, ne_eq, Bool.not_true, Bool.not_false, beq_eq_false_iff_ne, bne_eq_false_iff_eq, Decidable.not_not, Int.not_lt, Int.not_le, Bool.and_eq_true, Bool.and_eq_false_iff, Bool.or_eq_true, Bool.or_eq_false_iff, List.length_map] at hc
        refine xa_skip ?_
        refine xa_seq ?_
        refine xa_block ?_
        refine xa_seq ?_
        refine xa_region ?_
        refine x_move rfl rfl ?_
        refine x_index_listN rfl rfl rfl (fun _ => rfl) (by omega) ?_
        refine x_load_iptV rfl rfl rfl ?_
        refine x_alloc rfl (fun _ => slot_box rfl) (fun _ => rfl) ?_
        intro g16
        refine x_assign rfl rfl rfl ?_
        refine x_store_boxV rfl rfl rfl rfl ⟨by decide, rfl, of_decide_eq_true rfl, of_decide_eq_true rfl, rfl⟩ rfl (by exact slot_box rfl) ?_
        refine xr_nil ⟨nofun, [(.t 5, _), (.t 14, _), (.t 15, _), (.t 16, _), (.t 126, _), (.t 127, _), (.t 128, _), (.h 5, _), (.h 14, _), (.h 16, _)], ⟨rfl, rfl, rfl, rfl, rfl, rfl, rfl, rfl, rfl, rfl, rfl, rfl, rfl, rfl, rfl, rfl, rfl, rfl, rfl, rfl, trivial⟩, ?_⟩
        refine xa_seq ?_
        refine xa_region ?_
        refine x_move rfl rfl ?_
        refine x_makeFunc rfl rfl ?_
        have hxm : xs.getD i default ∈ xs := getD_mem (by omega)
        have hfi : fiU bs (xs.getD i default) < bs.length := (by obtain ⟨g, hg, hgx⟩ := vA_ix hxm; rw [← hgx]; exact SegL.has (vA_lt xs) (Nat.le_refl _) hB.1 hg (by omega))
        apply x_call rfl
        · apply pa_cons
          · exact pa_lend_map rfl rfl rfl (by (simp; done)) (fun _ => rfl)
          apply pa_cons
          · exact pa_clo rfl (pc_box rfl rfl pc_nil)
          exact pa_nil
        · exact s_IndexB bs (by omega) (xs.getD i default) hfi
        · exact ⟨rfl, rfl, rfl, of_decide_eq_true rfl, rfl⟩
        · exact .inr ⟨rfl, rfl⟩
        · exact back_nil
        · exact inst_plain rfl
        · exact fun _ => rfl
        intro g135
        refine x_assign rfl rfl rfl ?_
        refine xr_nil ⟨nofun, [(.t 5, _), (.t 14, _), (.t 15, _), (.t 17, _), (.t 126, _), (.t 127, _), (.t 128, _), (.h 5, _), (.h 14, _)], ⟨rfl, rfl, rfl, rfl, rfl, rfl, rfl, rfl, rfl, rfl, rfl, rfl, rfl, rfl, rfl, rfl, rfl, rfl, trivial⟩, ?_⟩
        refine xa_region ?_
        refine x_move rfl rfl ?_
        refine x_move rfl rfl ?_
        refine x_move rfl rfl ?_
        refine x_move rfl rfl ?_
        refine x_index_slN rfl rfl rfl rfl (by omega) (by (simp; done)) rfl ?_
        refine x_fieldAddr rfl rfl (by decide) rfl rfl ?_
        refine x_load_mapN rfl rfl (by omega) (fun _ => rfl) rfl rfl ?_
        refine x_move rfl rfl ?_
        refine x_move rfl rfl ?_
        refine x_index_slN rfl rfl rfl rfl (by omega) (by (simp; done)) rfl ?_
        refine x_fieldAddr rfl rfl (by decide) rfl rfl ?_
        refine x_load_mapN rfl rfl (by omega) (fun _ => rfl) rfl rfl ?_
        have hfb := SegL.bd (QA_lt xs) (PA_mn hml hmb) (PA_bd hml hmb) (QA_bd xs) (Nat.le_refl _) hB.1 _ (getD_memG (i := fiU bs (xs.getD i default)) hfi)
        apply x_call rfl
        · apply pa_cons
          · exact pa_plain rfl
          apply pa_cons
          · exact pa_plain rfl
          exact pa_nil
        · exact s_fracI _ _ (by omega) (by omega) (by omega)
        · exact ⟨rfl, rfl, rfl, of_decide_eq_true rfl, rfl⟩
        · exact .inl rfl
        · exact back_nil
        · exact inst_plain rfl
        · exact fun _ => rfl
        intro g148
        rw [← (chv_fi bs _ hfi).1]
        refine x_index_slN rfl rfl rfl rfl (by omega) (by (simp; omega)) rfl ?_
        refine x_store_mapP (y := qP (chv bs (xs.getD i default))) rfl rfl rfl (by omega) rfl ⟨rfl, of_decide_eq_true rfl, of_decide_eq_true rfl, rfl⟩ (by decide) rfl (by exact slot_obj (noRef_map fun _ => rfl)) ?_
        refine xr_nil ⟨fun _ => ⟨by (simp only [wmap, List.nil_append, List.append_nil, List.map_cons, List.map_nil, List.cons_append]; decide +kernel), by decide +kernel⟩, [(.t 5, _), (.t 14, _), (.t 126, _), (.t 127, _), (.t 128, _), (.h 5, _), (.h 14, _)], ⟨rfl, rfl, rfl, rfl, rfl, rfl, rfl, rfl, rfl, rfl, rfl, rfl, rfl, rfl, trivial⟩, ?_⟩
        refine xa_region ?_
        refine x_add rfl rfl (inI64 (by omega)) ?_
        refine x_move rfl rfl ?_
        refine xr_nil ⟨nofun, [(.t 5, _), (.t 14, _), (.t 126, _), (.t 127, _), (.t 128, _), (.h 5, _), (.h 14, _)], ⟨rfl, rfl, rfl, rfl, rfl, rfl, rfl, rfl, rfl, rfl, rfl, rfl, rfl, rfl, trivial⟩, ?_⟩
        refine ⟨(i + 1, out.set i (qP (chv bs (xs.getD i default)))), ?_, (by simp only; omega), ⟨rfl, rfl, rfl, rfl, rfl, rfl, rfl, trivial⟩⟩
        exact ⟨by omega, by simp [hol], fun x h1 h2 => by rw [getD_set _ _ _ _ (by omega)]; by_cases e : x = i; (· rw [if_pos e, e]); (· rw [if_neg e]; exact hox x (by omega) h2)⟩
      · try simp only [decide_eq_true_eq, decide_eq_false_iff_not, Bool.not_eq_true', Bool.not_eq_false', bne_iff_ne, beq_iff_eq, ne_eq, Bool.not_true, Bool.not_false, beq_eq_false_iff_ne, bne_eq_false_iff_eq, Decidable.not_not, Int.not_lt, Int.not_le, Bool.and_eq_true, Bool.and_eq_false_iff, Bool.or_eq_true, Bool.or_eq_false_iff, List.length_map] at hc
        refine xa_exit ?_
        refine xa_seq ?_
        refine xa_region ?_
        refine x_move rfl rfl ?_
        (refine x_assign_own rfl rfl (by (simp; omega)) rfl (fun _ => (slot_obj (by exact noRef_map fun _ => rfl))) (fun _ => rfl) ?_; intro g4)
        refine xr_nil ⟨nofun, [(.t 4, _), (.h 4, _)], ⟨rfl, rfl, rfl, rfl, trivial⟩, ?_⟩
        refine xa_ret ?_
        refine ret_own' rfl rfl (by (simp [hol]; done)) (by exact noRef_map fun _ => rfl) trivial ?_
        rw [chQ, if_pos hvc, shares_eq hol (by omega) hox]

theorem keep_s_lessS : keepOf Try.f85 = [0, 1, 4, 2, 3] := by kernel_rfl
set_option maxHeartbeats 20000000 in
theorem s_lessS (p q : Rat) (hp : Sm 1000000000 p) (hq : Sm 1000000000 q) : CW cxT 85 [qV p, qV q] = some (bV (decide (p < q)), []) := by
  obtain ⟨p1, p2, p3⟩ := hp
  obtain ⟨q1, q2, q3⟩ := hq
  have dp := den_posI p
  have dq := den_posI q
  have m1 := mulB (x := p.num) (y := (q.den : Int)) ⟨p1, p2⟩ ⟨by omega, q3⟩
  have m2 := mulB (x := q.num) (y := (p.den : Int)) ⟨q1, q2⟩ ⟨by omega, p3⟩
  have m3 := mulB (x := (p.den : Int)) (y := (q.den : Int)) ⟨by omega, p3⟩ ⟨by omega, q3⟩
  have m4 := mulB (x := p.num) (y := q.num) ⟨p1, p2⟩ ⟨q1, q2⟩
  have dn := den_mul_ne p q
  refine fn_intro rfl Try.func85 rfl ⟨by kernel_rfl, rfl, of_decide_eq_true rfl, of_decide_eq_true rfl, by decide⟩ keep_s_lessS ?_
  refine xa_seq ?_
  refine xa_region ?_
  refine x_box rfl rfl rfl (fun _ => slot_box rfl) (fun _ => rfl) ?_
  intro g2
  refine x_box rfl rfl rfl (fun _ => slot_box rfl) (fun _ => rfl) ?_
  intro g3
  refine x_assign rfl rfl rfl ?_
  refine xr_nil ⟨nofun, [(.t 2, _), (.t 3, _), (.h 2, _), (.h 3, _)], ⟨rfl, rfl, rfl, rfl, rfl, rfl, rfl, rfl, trivial⟩, ?_⟩
  refine xa_seq ?_
  refine xa_region ?_
  refine x_fieldAddr rfl rfl (by decide) rfl rfl ?_
  refine x_load_ptrN rfl rfl rfl rfl rfl rfl ?_
  refine x_fieldAddr rfl rfl (by decide) rfl rfl ?_
  refine x_load_ptrN rfl rfl rfl rfl rfl rfl ?_
  refine x_mul rfl rfl (inI64 (by omega)) ?_
  refine x_fieldAddr rfl rfl (by decide) rfl rfl ?_
  refine x_load_ptrN rfl rfl rfl rfl rfl rfl ?_
  refine x_fieldAddr rfl rfl (by decide) rfl rfl ?_
  refine x_load_ptrN rfl rfl rfl rfl rfl rfl ?_
  refine x_mul rfl rfl (inI64 (by omega)) ?_
  refine x_lss rfl rfl ?_
  refine x_assign rfl rfl rfl ?_
  refine xr_nil ⟨nofun, [(.t 4, _)], ⟨rfl, rfl, trivial⟩, ?_⟩
  refine xa_ret ?_
  refine ret_val' rfl rfl trivial ?_
  exact congrArg bV (decide_eq_decide.2 (Rat.lt_iff p q).symm)

theorem keep_s_lessL : keepOf Try.f41 = [0, 1, 4, 2, 3] := by kernel_rfl
set_option maxHeartbeats 20000000 in
theorem s_lessL (p q : Rat) (hp : Sm 1000000000 p) (hq : Sm 1000000000 q) : CW cxT 41 [qV p, qV q] = some (bV (decide (p < q)), []) := by
  obtain ⟨p1, p2, p3⟩ := hp
  obtain ⟨q1, q2, q3⟩ := hq
  have dp := den_posI p
  have dq := den_posI q
  have m1 := mulB (x := p.num) (y := (q.den : Int)) ⟨p1, p2⟩ ⟨by omega, q3⟩
  have m2 := mulB (x := q.num) (y := (p.den : Int)) ⟨q1, q2⟩ ⟨by omega, p3⟩
  have m3 := mulB (x := (p.den : Int)) (y := (q.den : Int)) ⟨by omega, p3⟩ ⟨by omega, q3⟩
  have m4 := mulB (x := p.num) (y := q.num) ⟨p1, p2⟩ ⟨q1, q2⟩
  have dn := den_mul_ne p q
  refine fn_intro rfl Try.func41 rfl ⟨by kernel_rfl, rfl, of_decide_eq_true rfl, of_decide_eq_true rfl, by decide⟩ keep_s_lessL ?_
  refine xa_seq ?_
  refine xa_region ?_
  refine x_box rfl rfl rfl (fun _ => slot_box rfl) (fun _ => rfl) ?_
  intro g2
  refine x_box rfl rfl rfl (fun _ => slot_box rfl) (fun _ => rfl) ?_
  intro g3
  refine x_assign rfl rfl rfl ?_
  refine xr_nil ⟨nofun, [(.t 2, _), (.t 3, _), (.h 2, _), (.h 3, _)], ⟨rfl, rfl, rfl, rfl, rfl, rfl, rfl, rfl, trivial⟩, ?_⟩
  refine xa_seq ?_
  refine xa_region ?_
  refine x_fieldAddr rfl rfl (by decide) rfl rfl ?_
  refine x_load_ptrN rfl rfl rfl rfl rfl rfl ?_
  refine x_fieldAddr rfl rfl (by decide) rfl rfl ?_
  refine x_load_ptrN rfl rfl rfl rfl rfl rfl ?_
  refine x_mul rfl rfl (inI64 (by omega)) ?_
  refine x_fieldAddr rfl rfl (by decide) rfl rfl ?_
  refine x_load_ptrN rfl rfl rfl rfl rfl rfl ?_
  refine x_fieldAddr rfl rfl (by decide) rfl rfl ?_
  refine x_load_ptrN rfl rfl rfl rfl rfl rfl ?_
  refine x_mul rfl rfl (inI64 (by omega)) ?_
  refine x_lss rfl rfl ?_
  refine x_assign rfl rfl rfl ?_
  refine xr_nil ⟨nofun, [(.t 4, _)], ⟨rfl, rfl, trivial⟩, ?_⟩
  refine xa_ret ?_
  refine ret_val' rfl rfl trivial ?_
  exact congrArg bV (decide_eq_decide.2 (Rat.lt_iff p q).symm)

theorem keep_s_orderOf : keepOf Try.f84 = [0, 2, 4, 10, 5, 3, 30] := by kernel_rfl
set_option maxHeartbeats 20000000 in
theorem s_orderOf (xs : List Int) (hl : xs.length ≤ 1000) : ∃ res outs, (fun res outs => ∃ d : List Nat, res = .own 1 (d.map nV) ∧ outs = [] ∧ OrdW xs xs.length d) res outs ∧ CW cxT 84 [L xs] = some (res, outs) := by
  refine fn_introP rfl Try.func84 rfl ⟨by kernel_rfl, rfl, of_decide_eq_true rfl, of_decide_eq_true rfl, by decide⟩ keep_s_orderOf ?_
  refine xa_seq ?_
  refine xa_region ?_
  (refine x_assign_nil rfl rfl (fun _ => rfl) ?_; intro g2)
  refine xr_nil ⟨nofun, [(.t 0, _)], ⟨rfl, rfl, trivial⟩, ?_⟩
  refine xa_seq ?_
  refine xa_region ?_
  refine x_buildSlice (es := List.map nV []) rfl rfl (by decide) rfl rfl (fun _ => slot_obj (noRef_map fun _ => rfl)) (fun _ => rfl) ?_
  intro g6
  (refine x_assign_own rfl rfl (by (simp; done)) rfl (fun _ => (slot_obj (by exact noRef_map fun _ => rfl))) (fun _ => rfl) ?_; intro g3)
  refine xr_nil ⟨nofun, [(.t 0, _), (.t 3, _), (.h 3, _)], ⟨rfl, rfl, rfl, rfl, rfl, rfl, trivial⟩, ?_⟩
  refine xa_seq ?_
  refine xa_seq ?_
  refine xa_region ?_
  refine x_assign rfl rfl rfl ?_
  refine xr_nil ⟨nofun, [(.t 0, _), (.t 3, _), (.t 4, _), (.h 3, _)], ⟨rfl, rfl, rfl, rfl, rfl, rfl, rfl, rfl, trivial⟩, ?_⟩
  refine xa_block ?_
  refine xa_loopK (β := Nat × List Nat × Nat) [(.t 0, _)] (fun (z : Nat × List Nat × Nat) => match z with | (i, d, g) => [(.t 4, iV i), (.t 3, .sl 3 g none 0 d.length), (.h 3, .obj g 0 1 (d.map nV))]) (fun (z : Nat × List Nat × Nat) => match z with | (i, d, g) => i ≤ xs.length ∧ OrdW xs i d) (fun (z : Nat × List Nat × Nat) => match z with | (i, d, g) => xs.length - i) (0, [], _) ⟨rfl, rfl, rfl, rfl, trivial⟩ ⟨Nat.zero_le _, List.Perm.refl _, List.Pairwise.nil⟩ ?_
  intro z hb
  obtain ⟨i, d, g⟩ := z
  try dsimp only at hb
  obtain ⟨hi1, ho⟩ := hb
  have hdl := ho.len
  refine xa_seq ?_
  refine xa_seq ?_
  refine xa_region ?_
  refine x_move rfl rfl ?_
  refine x_move rfl rfl ?_
  refine x_len_map rfl rfl ?_
  refine x_lss rfl rfl ?_
  refine xr_nil ⟨nofun, [(.t 0, _), (.t 3, _), (.t 4, _), (.t 10, _), (.h 3, _)], ⟨rfl, rfl, rfl, rfl, rfl, rfl, rfl, rfl, rfl, rfl, trivial⟩, ?_⟩
  refine xa_cond rfl (fun hc => ?_) (fun hc => ?_)
  · try simp only [decide_eq_true_eq, decide_eq_false_iff_not, Bool.not_eq_true', Bool.not_eq_false', bne_iff_ne, beq_iff_eq, ne_eq, Bool.not_true, Bool.not_false, beq_eq_false_iff_ne, bne_eq_false_iff_eq, Decidable.not_not, Int.not_lt, Int.not_le, Bool.and_eq_true, Bool.and_eq_false_iff, Bool.or_eq_true, Bool.or_eq_false_iff, List.length_map] at hc
    refine xa_skip ?_
    refine xa_seq ?_
    refine xa_block ?_
    refine xa_seq ?_
    refine xa_region ?_
    refine x_assign rfl rfl rfl ?_
    refine xr_nil ⟨nofun, [(.t 0, _), (.t 3, _), (.t 4, _), (.t 5, _), (.h 3, _)], ⟨rfl, rfl, rfl, rfl, rfl, rfl, rfl, rfl, rfl, rfl, trivial⟩, ?_⟩
    refine xa_seq ?_
    refine xa_block ?_
    refine xa_loopK (β := Nat) [(.t 0, _), (.t 3, _), (.t 4, _), (.h 3, _)] (fun (k : Nat) => [(.t 5, iV k)]) (fun (k : Nat) => k ≤ d.length ∧ ∀ j, j < k → fX xs (d.getD j default) ≤ fX xs i) (fun (k : Nat) => d.length - k) 0 ⟨rfl, rfl, rfl, rfl, rfl, trivial⟩ ⟨Nat.zero_le _, fun j h => by omega⟩ ?_
    intro k hb
    obtain ⟨hk1, hk2⟩ := hb
    have hdk := fun h : k < d.length => ho.lt h
    refine xa_seq ?_
    refine xa_seq ?_
    refine xa_region ?_
    refine x_move rfl rfl ?_
    refine x_move rfl rfl ?_
    refine x_len_sl rfl rfl ?_
    refine x_lss rfl rfl ?_
    refine x_move rfl rfl ?_
    refine x_guard_split rfl rfl (fun hg0 => ?_) (fun hg0 => ?_)
    · have hg := hg0; try simp only [decide_eq_true_eq, decide_eq_false_iff_not, Bool.not_eq_true', Bool.not_eq_false', bne_iff_ne, beq_iff_eq, ne_eq, Bool.not_true, Bool.not_false, beq_eq_false_iff_ne, bne_eq_false_iff_eq, Decidable.not_not, Int.not_lt, Int.not_le, Bool.and_eq_true, Bool.and_eq_false_iff, Bool.or_eq_true, Bool.or_eq_false_iff] at hg
      refine x_move rfl rfl ?_
      refine x_guard_t rfl rfl (by assumption) ?_
      refine x_move rfl rfl ?_
      refine x_guard_t rfl rfl (by assumption) ?_
      refine x_move rfl rfl ?_
      refine x_guard_t rfl rfl (by assumption) ?_
      refine x_index_slN rfl rfl rfl rfl (by omega) (by (simp; done)) rfl ?_
      refine x_guard_t rfl rfl (by assumption) ?_
      refine x_load_mapV rfl rfl (by omega) (fun _ => rfl) (fun _ => rfl) rfl ?_
      refine x_guard_t rfl rfl (by assumption) ?_
      have hdk2 := hdk (by omega)
      refine x_index_listN rfl rfl rfl (fun _ => rfl) (by omega) ?_
      refine x_guard_t rfl rfl (by assumption) ?_
      refine x_load_iptV rfl rfl rfl ?_
      refine x_guard_t rfl rfl (by assumption) ?_
      refine x_move rfl rfl ?_
      refine x_guard_t rfl rfl (by assumption) ?_
      refine x_move rfl rfl ?_
      refine x_guard_t rfl rfl (by assumption) ?_
      refine x_index_listN rfl rfl rfl (fun _ => rfl) (by omega) ?_
      refine x_guard_t rfl rfl (by assumption) ?_
      refine x_load_iptV rfl rfl rfl ?_
      refine x_guard_t rfl rfl (by assumption) ?_
      refine x_leq rfl rfl ?_
      refine x_pick_t rfl (by assumption) rfl rfl ?_
      refine xr_nil ⟨fun _ => ⟨by decide +kernel, by decide +kernel⟩, [(.t 0, _), (.t 3, _), (.t 4, _), (.t 5, _), (.t 30, _), (.h 3, _)], ⟨rfl, rfl, rfl, rfl, rfl, rfl, rfl, rfl, rfl, rfl, rfl, rfl, trivial⟩, ?_⟩
      refine xa_cond rfl (fun hc => ?_) (fun hc => ?_)
      · try simp only [decide_eq_true_eq, decide_eq_false_iff_not, Bool.not_eq_true', Bool.not_eq_false', bne_iff_ne, beq_iff_eq, ne_eq, Bool.not_true, Bool.not_false, beq_eq_false_iff_ne, bne_eq_false_iff_eq, Decidable.not_not, Int.not_lt, Int.not_le, Bool.and_eq_true, Bool.and_eq_false_iff, Bool.or_eq_true, Bool.or_eq_false_iff, List.length_map] at hc
        refine xa_skip ?_
        refine xa_block ?_
        refine xa_region ?_
        refine x_move rfl rfl ?_
        refine x_add rfl rfl (inI64 (by omega)) ?_
        refine x_assign rfl rfl rfl ?_
        refine xr_nil ⟨nofun, [(.t 0, _), (.t 3, _), (.t 4, _), (.t 5, _), (.h 3, _)], ⟨rfl, rfl, rfl, rfl, rfl, rfl, rfl, rfl, rfl, rfl, trivial⟩, ?_⟩
        refine ⟨k + 1, ⟨by omega, fun j hj => by rcases Nat.lt_succ_iff_lt_or_eq.1 hj with h | h; (· exact hk2 j h); (· subst h; unfold fX; omega)⟩, (by omega), ⟨rfl, rfl, rfl, rfl, rfl, trivial⟩⟩
      · try simp only [decide_eq_true_eq, decide_eq_false_iff_not, Bool.not_eq_true', Bool.not_eq_false', bne_iff_ne, beq_iff_eq, ne_eq, Bool.not_true, Bool.not_false, beq_eq_false_iff_ne, bne_eq_false_iff_eq, Decidable.not_not, Int.not_lt, Int.not_le, Bool.and_eq_true, Bool.and_eq_false_iff, Bool.or_eq_true, Bool.or_eq_false_iff, List.length_map] at hc
        refine xa_exit ?_
        refine xa_region ?_
        refine x_buildSlice (es := List.map nV []) rfl rfl (by decide) rfl rfl (fun _ => slot_obj (noRef_map fun _ => rfl)) (fun _ => rfl) ?_
        intro g33
        refine x_move rfl rfl ?_
        refine x_move rfl rfl ?_
        refine x_slice_sl rfl rfl rfl (optNat_someN rfl) (by omega) rfl ?_
        refine x_append_rdM rfl rfl rfl rfl (by decide) rfl (by (simp; done)) (by omega) rfl rfl rfl (by decide) (fun _ => ⟨rfl, rfl, rfl⟩) (by simp only [maxL]; (simp only [List.length_nil, List.length_cons, List.length_append, Nat.zero_add, List.length_map]; omega)) (fun _ => rfl) ?_
        intro g37
        refine x_move rfl rfl ?_
        refine x_buildSlice (es := List.map nV [i]) rfl rfl (by decide) rfl rfl (fun _ => slot_obj (noRef_map fun _ => rfl)) (fun _ => rfl) ?_
        intro g39
        refine x_append_map rfl rfl rfl rfl (by (simp; done)) (by simp) (by decide) rfl rfl rfl rfl (by decide) (fun _ => ⟨rfl, rfl⟩) (by simp only [maxL]; (simp; omega)) (fun _ => rfl) ?_
        intro g40
        refine x_move rfl rfl ?_
        refine x_move rfl rfl ?_
        refine x_slice_slx rfl rfl rfl optNat_none (optNat_someN rfl) (by omega) rfl ?_
        refine x_append_rdM rfl rfl rfl rfl (by decide) rfl (by (simp; done)) (by omega) rfl rfl rfl (by decide) (fun _ => ⟨rfl, rfl, rfl⟩) (by simp only [maxL]; (simp; omega)) (fun _ => rfl) ?_
        intro g44
        (refine x_assign_own rfl rfl (by (simp; done)) rfl (fun _ => (slot_obj (by exact noRef_map fun _ => rfl))) (fun _ => rfl) ?_; intro g3)
        refine xr_nil ⟨fun _ => ⟨by decide +kernel, by decide +kernel⟩, [(.t 0, _), (.t 3, _), (.t 4, _), (.h 3, _)], ⟨rfl, rfl, rfl, rfl, rfl, rfl, rfl, rfl, trivial⟩, ?_⟩
        refine xa_region ?_
        refine x_move rfl rfl ?_
        refine x_add rfl rfl (inI64 (by omega)) ?_
        refine x_assign rfl rfl rfl ?_
        refine xr_nil ⟨nofun, [(.t 0, _), (.t 3, _), (.t 4, _), (.h 3, _)], ⟨rfl, rfl, rfl, rfl, rfl, rfl, rfl, rfl, trivial⟩, ?_⟩
        refine ⟨(i + 1, _, _), ?_, (by simp only; omega), ⟨rfl, rfl, rfl, rfl, trivial⟩⟩
        exact ⟨by omega, ho.stepP hk1 hk2 (fun h => by unfold fX; omega)⟩
    · have hg := hg0; try simp only [decide_eq_true_eq, decide_eq_false_iff_not, Bool.not_eq_true', Bool.not_eq_false', bne_iff_ne, beq_iff_eq, ne_eq, Bool.not_true, Bool.not_false, beq_eq_false_iff_ne, bne_eq_false_iff_eq, Decidable.not_not, Int.not_lt, Int.not_le, Bool.and_eq_true, Bool.and_eq_false_iff, Bool.or_eq_true, Bool.or_eq_false_iff] at hg
      refine x_guard_f rfl rfl (by assumption) ?_
      refine x_guard_f rfl rfl (by assumption) ?_
      refine x_guard_f rfl rfl (by assumption) ?_
      refine x_guard_f rfl rfl (by assumption) ?_
      refine x_guard_f rfl rfl (by assumption) ?_
      refine x_guard_f rfl rfl (by assumption) ?_
      refine x_guard_f rfl rfl (by assumption) ?_
      refine x_guard_f rfl rfl (by assumption) ?_
      refine x_guard_f rfl rfl (by assumption) ?_
      refine x_guard_f rfl rfl (by assumption) ?_
      refine x_guard_f rfl rfl (by assumption) ?_
      refine x_pick_f rfl (by assumption) rfl rfl ?_
      refine xr_nil ⟨fun _ => ⟨by decide +kernel, by decide +kernel⟩, [(.t 0, _), (.t 3, _), (.t 4, _), (.t 5, _), (.t 30, _), (.h 3, _)], ⟨rfl, rfl, rfl, rfl, rfl, rfl, rfl, rfl, rfl, rfl, rfl, rfl, trivial⟩, ?_⟩
      refine xa_cond rfl (fun hc => absurd hc (by decide)) (fun hc => ?_)
      refine xa_exit ?_
      refine xa_region ?_
      refine x_buildSlice (es := List.map nV []) rfl rfl (by decide) rfl rfl (fun _ => slot_obj (noRef_map fun _ => rfl)) (fun _ => rfl) ?_
      intro g33
      refine x_move rfl rfl ?_
      refine x_move rfl rfl ?_
      refine x_slice_sl rfl rfl rfl (optNat_someN rfl) (by omega) rfl ?_
      refine x_append_rdM rfl rfl rfl rfl (by decide) rfl (by (simp; done)) (by omega) rfl rfl rfl (by decide) (fun _ => ⟨rfl, rfl, rfl⟩) (by simp only [maxL]; (simp only [List.length_nil, List.length_cons, List.length_append, Nat.zero_add, List.length_map]; omega)) (fun _ => rfl) ?_
      intro g37
      refine x_move rfl rfl ?_
      refine x_buildSlice (es := List.map nV [i]) rfl rfl (by decide) rfl rfl (fun _ => slot_obj (noRef_map fun _ => rfl)) (fun _ => rfl) ?_
      intro g39
      refine x_append_map rfl rfl rfl rfl (by (simp; done)) (by simp) (by decide) rfl rfl rfl rfl (by decide) (fun _ => ⟨rfl, rfl⟩) (by simp only [maxL]; (simp; omega)) (fun _ => rfl) ?_
      intro g40
      refine x_move rfl rfl ?_
      refine x_move rfl rfl ?_
      refine x_slice_slx rfl rfl rfl optNat_none (optNat_someN rfl) (by omega) rfl ?_
      refine x_append_rdM rfl rfl rfl rfl (by decide) rfl (by (simp; done)) (by omega) rfl rfl rfl (by decide) (fun _ => ⟨rfl, rfl, rfl⟩) (by simp only [maxL]; (simp; omega)) (fun _ => rfl) ?_
      intro g44
      (refine x_assign_own rfl rfl (by (simp; done)) rfl (fun _ => (slot_obj (by exact noRef_map fun _ => rfl))) (fun _ => rfl) ?_; intro g3)
      refine xr_nil ⟨fun _ => ⟨by decide +kernel, by decide +kernel⟩, [(.t 0, _), (.t 3, _), (.t 4, _), (.h 3, _)], ⟨rfl, rfl, rfl, rfl, rfl, rfl, rfl, rfl, trivial⟩, ?_⟩
      refine xa_region ?_
      refine x_move rfl rfl ?_
      refine x_add rfl rfl (inI64 (by omega)) ?_
      refine x_assign rfl rfl rfl ?_
      refine xr_nil ⟨nofun, [(.t 0, _), (.t 3, _), (.t 4, _), (.h 3, _)], ⟨rfl, rfl, rfl, rfl, rfl, rfl, rfl, rfl, trivial⟩, ?_⟩
      refine ⟨(i + 1, _, _), ?_, (by simp only; omega), ⟨rfl, rfl, rfl, rfl, trivial⟩⟩
      exact ⟨by omega, ho.stepP hk1 hk2 (fun h => by unfold fX; omega)⟩
  · try simp only [decide_eq_true_eq, decide_eq_false_iff_not, Bool.not_eq_true', Bool.not_eq_false', bne_iff_ne, beq_iff_eq, ne_eq, Bool.not_true, Bool.not_false, beq_eq_false_iff_ne, bne_eq_false_iff_eq, Decidable.not_not, Int.not_lt, Int.not_le, Bool.and_eq_true, Bool.and_eq_false_iff, Bool.or_eq_true, Bool.or_eq_false_iff, List.length_map] at hc
    refine xa_exit ?_
    refine xa_seq ?_
    refine xa_region ?_
    refine x_move rfl rfl ?_
    (refine x_assign_own rfl rfl (by (simp; done)) rfl (fun _ => (slot_obj (by exact noRef_map fun _ => rfl))) (fun _ => rfl) ?_; intro g2)
    refine xr_nil ⟨nofun, [(.t 2, _), (.h 2, _)], ⟨rfl, rfl, rfl, rfl, trivial⟩, ?_⟩
    refine xa_ret ?_
    refine ⟨_, _, ?_, ret_own rfl rfl (by simp) (by exact noRef_map fun _ => rfl) outs_nil⟩
    exact ⟨d, rfl, rfl, (show i = xs.length by omega) ▸ ho⟩

theorem keep_s_fitMarks : keepOf Try.f62 = [0, 1, 4, 5, 9, 29, 51, 6, 7, 10, 8, 12, 94, 15, 14, 17, 112, 18, 16, 133, 13, 138, 11, 20, 151, 19, 106, 129] := by kernel_rfl
set_option maxHeartbeats 20000000 in
theorem s_fitMarks (xs ms : List Int) (h1 : 1 ≤ xs.length) (hl : xs.length ≤ 10) (hb : allB (-200) 200 xs = true) (hml : ms.length = xs.length) (hm : allB 0 1 ms = true) (bs : List Bk) (hB : Bks xs ms bs) : CW cxT 62 [L xs, L ms] = some (.own 2 ((xs.map (chv bs)).map qV), []) := by
  have hmb := hm
  obtain ⟨_, _, ⟨d, rfl, rfl, ho⟩, hC⟩ := s_orderOf xs (by omega)
  have hdl := ho.len
  have hvl := vsA_len xs
  refine fn_intro rfl Try.func62 rfl ⟨by kernel_rfl, rfl, of_decide_eq_true rfl, of_decide_eq_true rfl, by decide⟩ keep_s_fitMarks ?_
  refine xa_seq ?_
  refine xa_region ?_
  (refine x_assign_nil rfl rfl (fun _ => rfl) ?_; intro g4)
  refine xr_nil ⟨nofun, [(.t 0, _), (.t 1, _)], ⟨rfl, rfl, rfl, rfl, trivial⟩, ?_⟩
  refine xa_seq ?_
  refine xa_region ?_
  refine x_move rfl rfl ?_
  apply x_call rfl
  · apply pa_cons
    · exact pa_plain rfl
    exact pa_nil
  · exact hC
  · exact ⟨rfl, rfl, rfl, of_decide_eq_true rfl, rfl⟩
  · exact .inl rfl
  · exact back_nil
  · exact inst_own
  · exact fun _ => rfl
  intro g22
  simp only [List.length_map]
  (refine x_assign_own rfl rfl (by (simp; done)) rfl (fun _ => (slot_obj (by exact noRef_map fun _ => rfl))) (fun _ => rfl) ?_; intro g5)
  refine xr_nil ⟨nofun, [(.t 0, _), (.t 1, _), (.t 5, _), (.h 5, _)], ⟨rfl, rfl, rfl, rfl, rfl, rfl, rfl, rfl, trivial⟩, ?_⟩
  refine xa_seq ?_
  refine xa_region ?_
  refine x_buildSlice (es := List.map iV []) rfl rfl (by decide) rfl rfl (fun _ => slot_obj (noRef_map fun _ => rfl)) (fun _ => rfl) ?_
  intro g23
  (refine x_assign_own rfl rfl (by (simp; done)) rfl (fun _ => (slot_obj (by exact noRef_map fun _ => rfl))) (fun _ => rfl) ?_; intro g6)
  refine xr_nil ⟨nofun, [(.t 0, _), (.t 1, _), (.t 5, _), (.t 6, _), (.h 5, _), (.h 6, _)], ⟨rfl, rfl, rfl, rfl, rfl, rfl, rfl, rfl, rfl, rfl, rfl, rfl, trivial⟩, ?_⟩
  refine xa_seq ?_
  refine xa_region ?_
  refine x_buildSlice (es := List.map iV []) rfl rfl (by decide) rfl rfl (fun _ => slot_obj (noRef_map fun _ => rfl)) (fun _ => rfl) ?_
  intro g24
  (refine x_assign_own rfl rfl (by (simp; done)) rfl (fun _ => (slot_obj (by exact noRef_map fun _ => rfl))) (fun _ => rfl) ?_; intro g7)
  refine xr_nil ⟨nofun, [(.t 0, _), (.t 1, _), (.t 5, _), (.t 6, _), (.t 7, _), (.h 5, _), (.h 6, _), (.h 7, _)], ⟨rfl, rfl, rfl, rfl, rfl, rfl, rfl, rfl, rfl, rfl, rfl, rfl, rfl, rfl, rfl, rfl, trivial⟩, ?_⟩
  refine xa_seq ?_
  refine xa_region ?_
  refine x_buildSlice (es := List.map iV []) rfl rfl (by decide) rfl rfl (fun _ => slot_obj (noRef_map fun _ => rfl)) (fun _ => rfl) ?_
  intro g25
  (refine x_assign_own rfl rfl (by (simp; done)) rfl (fun _ => (slot_obj (by exact noRef_map fun _ => rfl))) (fun _ => rfl) ?_; intro g8)
  refine xr_nil ⟨nofun, [(.t 0, _), (.t 1, _), (.t 5, _), (.t 6, _), (.t 7, _), (.t 8, _), (.h 5, _), (.h 6, _), (.h 7, _), (.h 8, _)], ⟨rfl, rfl, rfl, rfl, rfl, rfl, rfl, rfl, rfl, rfl, rfl, rfl, rfl, rfl, rfl, rfl, rfl, rfl, rfl, rfl, trivial⟩, ?_⟩
  refine xa_seq ?_
  refine xa_seq ?_
  refine xa_region ?_
  refine x_assign rfl rfl rfl ?_
  refine xr_nil ⟨nofun, [(.t 0, _), (.t 1, _), (.t 5, _), (.t 6, _), (.t 7, _), (.t 8, _), (.t 9, _), (.h 5, _), (.h 6, _), (.h 7, _), (.h 8, _)], ⟨rfl, rfl, rfl, rfl, rfl, rfl, rfl, rfl, rfl, rfl, rfl, rfl, rfl, rfl, rfl, rfl, rfl, rfl, rfl, rfl, rfl, rfl, trivial⟩, ?_⟩
  refine xa_block ?_
  refine xa_loopK (β := Nat × List Int × Nat × Nat × List Int × Nat × Nat × List Nat × Nat) [(.t 0, _), (.t 1, _), (.t 5, _), (.h 5, _)] (fun (z : Nat × List Int × Nat × Nat × List Int × Nat × Nat × List Nat × Nat) => match z with | (i, vals, nv, gv, wts, nw, gw, ks, gk) => [(.t 9, iV i), (.t 6, .sl 6 gv none 0 nv), (.h 6, .obj gv 0 1 (vals.map iV)), (.t 7, .sl 7 gw none 0 nw), (.h 7, .obj gw 0 1 (wts.map iV)), (.t 8, .sl 8 gk none 0 ks.length), (.h 8, .obj gk 0 1 (ks.map nV))]) (fun (z : Nat × List Int × Nat × Nat × List Int × Nat × Nat × List Nat × Nat) => match z with | (i, vals, nv, gv, wts, nw, gw, ks, gk) => GrI xs ms d i vals wts ks ∧ vals.length = nv ∧ wts.length = nw) (fun (z : Nat × List Int × Nat × Nat × List Int × Nat × Nat × List Nat × Nat) => match z with | (i, vals, nv, gv, wts, nw, gw, ks, gk) => xs.length - i) (0, [], 0, _, [], 0, _, [], _) ⟨rfl, rfl, rfl, rfl, rfl, rfl, rfl, rfl, rfl, rfl, rfl, trivial⟩ ⟨GrI.start xs ms d, rfl, rfl⟩ ?_
  intro z hb
  obtain ⟨i, vals, nv, gv, wts, nw, gw, ks, gk⟩ := z
  try dsimp only at hb
  obtain ⟨hb, hnv, hnw⟩ := hb
  subst hnv hnw
  have hgi := hb
  have hi1 := hb.le
  have hvv := hb.vl
  have hww := hb.wl
  have hkk := hb.kl
  have hdi := fun h : i < d.length => ho.lt h
  have hcg := cG_le (xs := xs) (i := i) (by omega)
  refine xa_seq ?_
  refine xa_seq ?_
  refine xa_region ?_
  refine x_move rfl rfl ?_
  refine x_move rfl rfl ?_
  refine x_len_sl rfl rfl ?_
  refine x_lss rfl rfl ?_
  refine xr_nil ⟨nofun, [(.t 0, _), (.t 1, _), (.t 5, _), (.t 6, _), (.t 7, _), (.t 8, _), (.t 9, _), (.t 29, _), (.h 5, _), (.h 6, _), (.h 7, _), (.h 8, _)], ⟨rfl, rfl, rfl, rfl, rfl, rfl, rfl, rfl, rfl, rfl, rfl, rfl, rfl, rfl, rfl, rfl, rfl, rfl, rfl, rfl, rfl, rfl, rfl, rfl, trivial⟩, ?_⟩
  refine xa_cond rfl (fun hc => ?_) (fun hc => ?_)
  · try simp only [decide_eq_true_eq, decide_eq_false_iff_not, Bool.not_eq_true', Bool.not_eq_false', bne_iff_ne, beq_iff_eq, ne_eq, Bool.not_true, Bool.not_false, beq_eq_false_iff_ne, bne_eq_false_iff_eq, Decidable.not_not, Int.not_lt, Int.not_le, Bool.and_eq_true, Bool.and_eq_false_iff, Bool.or_eq_true, Bool.or_eq_false_iff, List.length_map] at hc
    refine xa_skip ?_
    refine xa_seq ?_
    refine xa_block ?_
    refine xa_seq ?_
    refine xa_seq ?_
    refine xa_region ?_
    refine x_move rfl rfl ?_
    refine x_eql rfl rfl ?_
    refine x_move rfl rfl ?_
    refine x_guard_split rfl rfl (fun hg0 => ?_) (fun hg0 => ?_)
    · have hg := hg0; try simp only [decide_eq_true_eq, decide_eq_false_iff_not, Bool.not_eq_true', Bool.not_eq_false', bne_iff_ne, beq_iff_eq, ne_eq, Bool.not_true, Bool.not_false, beq_eq_false_iff_ne, bne_eq_false_iff_eq, Decidable.not_not, Int.not_lt, Int.not_le, Bool.and_eq_true, Bool.and_eq_false_iff, Bool.or_eq_true, Bool.or_eq_false_iff] at hg
      refine x_move rfl rfl ?_
      refine x_guard_t rfl rfl (by assumption) ?_
      refine x_move rfl rfl ?_
      refine x_guard_t rfl rfl (by assumption) ?_
      refine x_move rfl rfl ?_
      refine x_guard_t rfl rfl (by assumption) ?_
      have hdi2 := hdi (by omega)
      refine x_index_slN rfl rfl rfl rfl (by omega) (by (simp; done)) rfl ?_
      refine x_guard_t rfl rfl (by assumption) ?_
      refine x_load_mapV rfl rfl (by omega) (fun _ => rfl) (fun _ => rfl) rfl ?_
      refine x_guard_t rfl rfl (by assumption) ?_
      refine x_index_listN rfl rfl rfl (fun _ => rfl) (by omega) ?_
      refine x_guard_t rfl rfl (by assumption) ?_
      refine x_load_iptV rfl rfl rfl ?_
      refine x_guard_t rfl rfl (by assumption) ?_
      refine x_move rfl rfl ?_
      refine x_guard_t rfl rfl (by assumption) ?_
      refine x_move rfl rfl ?_
      refine x_guard_t rfl rfl (by assumption) ?_
      refine x_move rfl rfl ?_
      refine x_guard_t rfl rfl (by assumption) ?_
      refine x_sub rfl rfl (inI64 (by omega)) ?_
      refine x_guard_t rfl rfl (by assumption) ?_
      rw [show ((i : Int) - 1) = ((i - 1 : Nat) : Int) by omega]
      have hdi1 := ho.lt (j := i - 1) (by omega)
      refine x_index_slN rfl rfl rfl rfl (by omega) (by (simp; done)) rfl ?_
      refine x_guard_t rfl rfl (by assumption) ?_
      refine x_load_mapV rfl rfl (by omega) (fun _ => rfl) (fun _ => rfl) rfl ?_
      refine x_guard_t rfl rfl (by assumption) ?_
      refine x_index_listN rfl rfl rfl (fun _ => rfl) (by omega) ?_
      refine x_guard_t rfl rfl (by assumption) ?_
      refine x_load_iptV rfl rfl rfl ?_
      refine x_guard_t rfl rfl (by assumption) ?_
      refine x_neq rfl rfl ?_
      refine x_pick_f rfl (by assumption) rfl rfl ?_
      refine xr_nil ⟨fun _ => ⟨by decide +kernel, by decide +kernel⟩, [(.t 0, _), (.t 1, _), (.t 5, _), (.t 6, _), (.t 7, _), (.t 8, _), (.t 9, _), (.t 51, _), (.h 5, _), (.h 6, _), (.h 7, _), (.h 8, _)], ⟨rfl, rfl, rfl, rfl, rfl, rfl, rfl, rfl, rfl, rfl, rfl, rfl, rfl, rfl, rfl, rfl, rfl, rfl, rfl, rfl, rfl, rfl, rfl, rfl, trivial⟩, ?_⟩
      refine xa_cond rfl (fun hc => ?_) (fun hc => ?_)
      · try simp only [decide_eq_true_eq, decide_eq_false_iff_not, Bool.not_eq_true', Bool.not_eq_false', bne_iff_ne, beq_iff_eq, ne_eq, Bool.not_true, Bool.not_false, beq_eq_false_iff_ne, bne_eq_false_iff_eq, Decidable.not_not, Int.not_lt, Int.not_le, Bool.and_eq_true, Bool.and_eq_false_iff, Bool.or_eq_true, Bool.or_eq_false_iff, List.length_map] at hc
        refine xa_seq ?_
        refine xa_region ?_
        refine x_move rfl rfl ?_
        refine x_buildSlice (es := List.map iV [_]) rfl rfl (by decide) rfl rfl (fun _ => slot_obj (noRef_map fun _ => rfl)) (fun _ => rfl) ?_
        intro g53
        refine x_append_map rfl rfl rfl rfl (by (simp; done)) (by simp) (by decide) rfl rfl rfl rfl (by decide) (fun _ => ⟨rfl, rfl⟩) (by simp only [maxL]; (simp only [List.length_nil, List.length_cons, List.length_append, Nat.zero_add, List.length_map]; omega)) (fun _ => rfl) ?_
        intro g54
        (refine x_assign_own rfl rfl (by (simp; done)) rfl (fun _ => (slot_obj (by exact noRef_map fun _ => rfl))) (fun _ => rfl) ?_; intro g6)
        refine xr_nil ⟨nofun, [(.t 0, _), (.t 1, _), (.t 5, _), (.t 6, _), (.t 7, _), (.t 8, _), (.t 9, _), (.h 5, _), (.h 6, _), (.h 7, _), (.h 8, _)], ⟨rfl, rfl, rfl, rfl, rfl, rfl, rfl, rfl, rfl, rfl, rfl, rfl, rfl, rfl, rfl, rfl, rfl, rfl, rfl, rfl, rfl, rfl, trivial⟩, ?_⟩
        refine xa_region ?_
        refine x_move rfl rfl ?_
        refine x_buildSlice (es := List.map iV [_]) rfl rfl (by decide) rfl rfl (fun _ => slot_obj (noRef_map fun _ => rfl)) (fun _ => rfl) ?_
        intro g56
        refine x_append_map rfl rfl rfl rfl (by (simp; done)) (by simp) (by decide) rfl rfl rfl rfl (by decide) (fun _ => ⟨rfl, rfl⟩) (by simp only [maxL]; (simp only [List.length_nil, List.length_cons, List.length_append, Nat.zero_add, List.length_map]; omega)) (fun _ => rfl) ?_
        intro g57
        (refine x_assign_own rfl rfl (by (simp; done)) rfl (fun _ => (slot_obj (by exact noRef_map fun _ => rfl))) (fun _ => rfl) ?_; intro g7)
        refine xr_nil ⟨nofun, [(.t 0, _), (.t 1, _), (.t 5, _), (.t 6, _), (.t 7, _), (.t 8, _), (.t 9, _), (.h 5, _), (.h 6, _), (.h 7, _), (.h 8, _)], ⟨rfl, rfl, rfl, rfl, rfl, rfl, rfl, rfl, rfl, rfl, rfl, rfl, rfl, rfl, rfl, rfl, rfl, rfl, rfl, rfl, rfl, rfl, trivial⟩, ?_⟩
        refine xa_seq ?_
        refine xa_region ?_
        refine x_move rfl rfl ?_
        refine x_len_sl rfl rfl ?_
        try rw [show (((vals ++ [(0 : Int)] : List Int).length : Nat) : Int) = (vals.length : Int) + 1 by simp]
        refine x_sub rfl rfl (inI64 (by omega)) ?_
        refine x_assign rfl rfl rfl ?_
        refine xr_nil ⟨nofun, [(.t 0, _), (.t 1, _), (.t 5, _), (.t 6, _), (.t 7, _), (.t 8, _), (.t 9, _), (.t 10, _), (.h 5, _), (.h 6, _), (.h 7, _), (.h 8, _)], ⟨rfl, rfl, rfl, rfl, rfl, rfl, rfl, rfl, rfl, rfl, rfl, rfl, rfl, rfl, rfl, rfl, rfl, rfl, rfl, rfl, rfl, rfl, rfl, rfl, trivial⟩, ?_⟩
        refine xa_seq ?_
        refine xa_region ?_
        rw [show (vals.length : Int) + 1 - 1 = ((vals.length : Nat) : Int) by omega]
        have hdi3 := hdi (by omega)
        refine x_move rfl rfl ?_
        refine x_move rfl rfl ?_
        refine x_move rfl rfl ?_
        refine x_move rfl rfl ?_
        refine x_index_slN rfl rfl rfl rfl (by (simp; done)) (by (simp; done)) rfl ?_
        refine x_load_mapV rfl rfl (by (simp; done)) (fun _ => rfl) (fun _ => rfl) rfl ?_
        refine x_move rfl rfl ?_
        refine x_move rfl rfl ?_
        refine x_move rfl rfl ?_
        refine x_index_slN rfl rfl rfl rfl (by omega) (by (simp; done)) rfl ?_
        refine x_load_mapV rfl rfl (by omega) (fun _ => rfl) (fun _ => rfl) rfl ?_
        refine x_index_listN rfl rfl rfl (fun _ => rfl) (by omega) ?_
        refine x_load_iptV rfl rfl rfl ?_
        have hgb := hgi.bd ho hm hml (vals.length - 1)
        have e0 : (vals ++ [0]).getD vals.length default = 0 := by simp
        have e1 : (wts ++ [0]).getD vals.length default = 0 := by rw [hvv, ← hww]; simp
        have hmi := allB_iff.1 hm (d.getD i default) (by omega)
        refine x_add rfl rfl (inI64 (by omega)) ?_
        refine x_index_slN rfl rfl rfl rfl (by (simp; done)) (by (simp; done)) rfl ?_
        refine x_store_mapO rfl rfl rfl (by (simp; done)) (fun _ _ => ⟨rfl, rfl, of_decide_eq_true rfl, of_decide_eq_true rfl, rfl, rfl⟩) (by decide) (by exact slot_obj (noRef_map fun _ => rfl)) ?_
        refine xr_nil ⟨fun _ => ⟨by decide +kernel, by decide +kernel⟩, [(.t 0, _), (.t 1, _), (.t 5, _), (.t 6, _), (.t 7, _), (.t 8, _), (.t 9, _), (.t 10, _), (.h 5, _), (.h 6, _), (.h 7, _), (.h 8, _)], ⟨rfl, rfl, rfl, rfl, rfl, rfl, rfl, rfl, rfl, rfl, rfl, rfl, rfl, rfl, rfl, rfl, rfl, rfl, rfl, rfl, rfl, rfl, rfl, rfl, trivial⟩, ?_⟩
        refine xa_seq ?_
        refine xa_region ?_
        refine x_move rfl rfl ?_
        refine x_move rfl rfl ?_
        refine x_move rfl rfl ?_
        refine x_move rfl rfl ?_
        refine x_index_slN rfl rfl rfl rfl (by (simp; omega)) (by (simp; done)) rfl ?_
        refine x_load_mapV rfl rfl (by (simp; omega)) (fun _ => rfl) (fun _ => rfl) rfl ?_
        refine x_add rfl rfl (inI64 (by omega)) ?_
        refine x_index_slN rfl rfl rfl rfl (by (simp; omega)) (by (simp; done)) rfl ?_
        refine x_store_mapO rfl rfl rfl (by (simp; omega)) (fun _ _ => ⟨rfl, rfl, of_decide_eq_true rfl, of_decide_eq_true rfl, rfl, rfl⟩) (by decide) (by exact slot_obj (noRef_map fun _ => rfl)) ?_
        refine xr_nil ⟨nofun, [(.t 0, _), (.t 1, _), (.t 5, _), (.t 6, _), (.t 7, _), (.t 8, _), (.t 9, _), (.t 10, _), (.h 5, _), (.h 6, _), (.h 7, _), (.h 8, _)], ⟨rfl, rfl, rfl, rfl, rfl, rfl, rfl, rfl, rfl, rfl, rfl, rfl, rfl, rfl, rfl, rfl, rfl, rfl, rfl, rfl, rfl, rfl, rfl, rfl, trivial⟩, ?_⟩
        refine xa_region ?_
        refine x_move rfl rfl ?_
        refine x_move rfl rfl ?_
        refine x_buildSlice (es := List.map nV [_]) rfl rfl (by decide) rfl rfl (fun _ => slot_obj (noRef_map fun _ => rfl)) (fun _ => rfl) ?_
        intro g86
        refine x_append_map rfl rfl rfl rfl (by (simp; done)) (by simp) (by decide) rfl rfl rfl rfl (by decide) (fun _ => ⟨rfl, rfl⟩) (by simp only [maxL]; (simp only [List.length_nil, List.length_cons, List.length_append, Nat.zero_add, List.length_map]; omega)) (fun _ => rfl) ?_
        intro g87
        (refine x_assign_own rfl rfl (by (simp; done)) rfl (fun _ => (slot_obj (by exact noRef_map fun _ => rfl))) (fun _ => rfl) ?_; intro g8)
        refine xr_nil ⟨nofun, [(.t 0, _), (.t 1, _), (.t 5, _), (.t 6, _), (.t 7, _), (.t 8, _), (.t 9, _), (.h 5, _), (.h 6, _), (.h 7, _), (.h 8, _)], ⟨rfl, rfl, rfl, rfl, rfl, rfl, rfl, rfl, rfl, rfl, rfl, rfl, rfl, rfl, rfl, rfl, rfl, rfl, rfl, rfl, rfl, rfl, trivial⟩, ?_⟩
        refine xa_region ?_
        refine x_move rfl rfl ?_
        refine x_add rfl rfl (inI64 (by omega)) ?_
        refine x_assign rfl rfl rfl ?_
        refine xr_nil ⟨nofun, [(.t 0, _), (.t 1, _), (.t 5, _), (.t 6, _), (.t 7, _), (.t 8, _), (.t 9, _), (.h 5, _), (.h 6, _), (.h 7, _), (.h 8, _)], ⟨rfl, rfl, rfl, rfl, rfl, rfl, rfl, rfl, rfl, rfl, rfl, rfl, rfl, rfl, rfl, rfl, rfl, rfl, rfl, rfl, rfl, rfl, trivial⟩, ?_⟩
        refine ⟨(i + 1, _, _, _, _, _, _, _, _), ?_, (by simp only; omega), ⟨rfl, rfl, rfl, rfl, rfl, rfl, rfl, rfl, rfl, rfl, rfl, trivial⟩⟩
        exact ⟨GrI.new ho hgi (by omega) (by (right; assumption)), by simp, by simp⟩
      · try simp only [decide_eq_true_eq, decide_eq_false_iff_not, Bool.not_eq_true', Bool.not_eq_false', bne_iff_ne, beq_iff_eq, ne_eq, Bool.not_true, Bool.not_false, beq_eq_false_iff_ne, bne_eq_false_iff_eq, Decidable.not_not, Int.not_lt, Int.not_le, Bool.and_eq_true, Bool.and_eq_false_iff, Bool.or_eq_true, Bool.or_eq_false_iff, List.length_map] at hc
        refine xa_skip ?_
        refine xa_seq ?_
        refine xa_region ?_
        refine x_move rfl rfl ?_
        refine x_len_sl rfl rfl ?_
        try rw [show (((vals ++ [(0 : Int)] : List Int).length : Nat) : Int) = (vals.length : Int) + 1 by simp]
        refine x_sub rfl rfl (inI64 (by omega)) ?_
        refine x_assign rfl rfl rfl ?_
        refine xr_nil ⟨nofun, [(.t 0, _), (.t 1, _), (.t 5, _), (.t 6, _), (.t 7, _), (.t 8, _), (.t 9, _), (.t 10, _), (.h 5, _), (.h 6, _), (.h 7, _), (.h 8, _)], ⟨rfl, rfl, rfl, rfl, rfl, rfl, rfl, rfl, rfl, rfl, rfl, rfl, rfl, rfl, rfl, rfl, rfl, rfl, rfl, rfl, rfl, rfl, rfl, rfl, trivial⟩, ?_⟩
        refine xa_seq ?_
        refine xa_region ?_
        (have hvp : 0 < vals.length := (GrI.old ho hgi (by omega) (by omega) (by assumption)).1; rw [show ((vals.length : Nat) : Int) - 1 = ((vals.length - 1 : Nat) : Int) by omega])
        have hdi3 := hdi (by omega)
        refine x_move rfl rfl ?_
        refine x_move rfl rfl ?_
        refine x_move rfl rfl ?_
        refine x_move rfl rfl ?_
        refine x_index_slN rfl rfl rfl rfl (by omega) (by (simp; done)) rfl ?_
        refine x_load_mapV rfl rfl (by omega) (fun _ => rfl) (fun _ => rfl) rfl ?_
        refine x_move rfl rfl ?_
        refine x_move rfl rfl ?_
        refine x_move rfl rfl ?_
        refine x_index_slN rfl rfl rfl rfl (by omega) (by (simp; done)) rfl ?_
        refine x_load_mapV rfl rfl (by omega) (fun _ => rfl) (fun _ => rfl) rfl ?_
        refine x_index_listN rfl rfl rfl (fun _ => rfl) (by omega) ?_
        refine x_load_iptV rfl rfl rfl ?_
        have hgb := hgi.bd ho hm hml (vals.length - 1)
        have e0 : (vals ++ [0]).getD vals.length default = 0 := by simp
        have e1 : (wts ++ [0]).getD vals.length default = 0 := by rw [hvv, ← hww]; simp
        have hmi := allB_iff.1 hm (d.getD i default) (by omega)
        refine x_add rfl rfl (inI64 (by omega)) ?_
        refine x_index_slN rfl rfl rfl rfl (by omega) (by (simp; done)) rfl ?_
        refine x_store_mapO rfl rfl rfl (by omega) (fun _ _ => ⟨rfl, rfl, of_decide_eq_true rfl, of_decide_eq_true rfl, rfl, rfl⟩) (by decide) (by exact slot_obj (noRef_map fun _ => rfl)) ?_
        refine xr_nil ⟨fun _ => ⟨by decide +kernel, by decide +kernel⟩, [(.t 0, _), (.t 1, _), (.t 5, _), (.t 6, _), (.t 7, _), (.t 8, _), (.t 9, _), (.t 10, _), (.h 5, _), (.h 6, _), (.h 7, _), (.h 8, _)], ⟨rfl, rfl, rfl, rfl, rfl, rfl, rfl, rfl, rfl, rfl, rfl, rfl, rfl, rfl, rfl, rfl, rfl, rfl, rfl, rfl, rfl, rfl, rfl, rfl, trivial⟩, ?_⟩
        refine xa_seq ?_
        refine xa_region ?_
        refine x_move rfl rfl ?_
        refine x_move rfl rfl ?_
        refine x_move rfl rfl ?_
        refine x_move rfl rfl ?_
        refine x_index_slN rfl rfl rfl rfl (by omega) (by (simp; done)) rfl ?_
        refine x_load_mapV rfl rfl (by omega) (fun _ => rfl) (fun _ => rfl) rfl ?_
        refine x_add rfl rfl (inI64 (by omega)) ?_
        refine x_index_slN rfl rfl rfl rfl (by omega) (by (simp; done)) rfl ?_
        refine x_store_mapO rfl rfl rfl (by omega) (fun _ _ => ⟨rfl, rfl, of_decide_eq_true rfl, of_decide_eq_true rfl, rfl, rfl⟩) (by decide) (by exact slot_obj (noRef_map fun _ => rfl)) ?_
        refine xr_nil ⟨nofun, [(.t 0, _), (.t 1, _), (.t 5, _), (.t 6, _), (.t 7, _), (.t 8, _), (.t 9, _), (.t 10, _), (.h 5, _), (.h 6, _), (.h 7, _), (.h 8, _)], ⟨rfl, rfl, rfl, rfl, rfl, rfl, rfl, rfl, rfl, rfl, rfl, rfl, rfl, rfl, rfl, rfl, rfl, rfl, rfl, rfl, rfl, rfl, rfl, rfl, trivial⟩, ?_⟩
        refine xa_region ?_
        refine x_move rfl rfl ?_
        refine x_move rfl rfl ?_
        refine x_buildSlice (es := List.map nV [_]) rfl rfl (by decide) rfl rfl (fun _ => slot_obj (noRef_map fun _ => rfl)) (fun _ => rfl) ?_
        intro g86
        refine x_append_map rfl rfl rfl rfl (by (simp; done)) (by simp) (by decide) rfl rfl rfl rfl (by decide) (fun _ => ⟨rfl, rfl⟩) (by simp only [maxL]; (simp only [List.length_nil, List.length_cons, List.length_append, Nat.zero_add, List.length_map]; omega)) (fun _ => rfl) ?_
        intro g87
        (refine x_assign_own rfl rfl (by (simp; done)) rfl (fun _ => (slot_obj (by exact noRef_map fun _ => rfl))) (fun _ => rfl) ?_; intro g8)
        refine xr_nil ⟨nofun, [(.t 0, _), (.t 1, _), (.t 5, _), (.t 6, _), (.t 7, _), (.t 8, _), (.t 9, _), (.h 5, _), (.h 6, _), (.h 7, _), (.h 8, _)], ⟨rfl, rfl, rfl, rfl, rfl, rfl, rfl, rfl, rfl, rfl, rfl, rfl, rfl, rfl, rfl, rfl, rfl, rfl, rfl, rfl, rfl, rfl, trivial⟩, ?_⟩
        refine xa_region ?_
        refine x_move rfl rfl ?_
        refine x_add rfl rfl (inI64 (by omega)) ?_
        refine x_assign rfl rfl rfl ?_
        refine xr_nil ⟨nofun, [(.t 0, _), (.t 1, _), (.t 5, _), (.t 6, _), (.t 7, _), (.t 8, _), (.t 9, _), (.h 5, _), (.h 6, _), (.h 7, _), (.h 8, _)], ⟨rfl, rfl, rfl, rfl, rfl, rfl, rfl, rfl, rfl, rfl, rfl, rfl, rfl, rfl, rfl, rfl, rfl, rfl, rfl, rfl, rfl, rfl, trivial⟩, ?_⟩
        refine ⟨(i + 1, _, _, _, _, _, _, _, _), ?_, (by simp only; omega), ⟨rfl, rfl, rfl, rfl, rfl, rfl, rfl, rfl, rfl, rfl, rfl, trivial⟩⟩
        exact ⟨(GrI.old ho hgi (by omega) (by omega) (by assumption)).2, by simp, by simp⟩
    · have hg := hg0; try simp only [decide_eq_true_eq, decide_eq_false_iff_not, Bool.not_eq_true', Bool.not_eq_false', bne_iff_ne, beq_iff_eq, ne_eq, Bool.not_true, Bool.not_false, beq_eq_false_iff_ne, bne_eq_false_iff_eq, Decidable.not_not, Int.not_lt, Int.not_le, Bool.and_eq_true, Bool.and_eq_false_iff, Bool.or_eq_true, Bool.or_eq_false_iff] at hg
      refine x_guard_f rfl rfl (by assumption) ?_
      refine x_guard_f rfl rfl (by assumption) ?_
      refine x_guard_f rfl rfl (by assumption) ?_
      refine x_guard_f rfl rfl (by assumption) ?_
      refine x_guard_f rfl rfl (by assumption) ?_
      refine x_guard_f rfl rfl (by assumption) ?_
      refine x_guard_f rfl rfl (by assumption) ?_
      refine x_guard_f rfl rfl (by assumption) ?_
      refine x_guard_f rfl rfl (by assumption) ?_
      refine x_guard_f rfl rfl (by assumption) ?_
      refine x_guard_f rfl rfl (by assumption) ?_
      refine x_guard_f rfl rfl (by assumption) ?_
      refine x_guard_f rfl rfl (by assumption) ?_
      refine x_guard_f rfl rfl (by assumption) ?_
      refine x_guard_f rfl rfl (by assumption) ?_
      refine x_pick_t rfl (by assumption) rfl rfl ?_
      refine xr_nil ⟨fun _ => ⟨by decide +kernel, by decide +kernel⟩, [(.t 0, _), (.t 1, _), (.t 5, _), (.t 6, _), (.t 7, _), (.t 8, _), (.t 9, _), (.t 51, _), (.h 5, _), (.h 6, _), (.h 7, _), (.h 8, _)], ⟨rfl, rfl, rfl, rfl, rfl, rfl, rfl, rfl, rfl, rfl, rfl, rfl, rfl, rfl, rfl, rfl, rfl, rfl, rfl, rfl, rfl, rfl, rfl, rfl, trivial⟩, ?_⟩
      refine xa_cond rfl (fun hc => ?_) (fun hc => absurd hc (by decide))
      refine xa_seq ?_
      refine xa_region ?_
      refine x_move rfl rfl ?_
      refine x_buildSlice (es := List.map iV [_]) rfl rfl (by decide) rfl rfl (fun _ => slot_obj (noRef_map fun _ => rfl)) (fun _ => rfl) ?_
      intro g53
      refine x_append_map rfl rfl rfl rfl (by (simp; done)) (by simp) (by decide) rfl rfl rfl rfl (by decide) (fun _ => ⟨rfl, rfl⟩) (by simp only [maxL]; (simp only [List.length_nil, List.length_cons, List.length_append, Nat.zero_add, List.length_map]; omega)) (fun _ => rfl) ?_
      intro g54
      (refine x_assign_own rfl rfl (by (simp; done)) rfl (fun _ => (slot_obj (by exact noRef_map fun _ => rfl))) (fun _ => rfl) ?_; intro g6)
      refine xr_nil ⟨nofun, [(.t 0, _), (.t 1, _), (.t 5, _), (.t 6, _), (.t 7, _), (.t 8, _), (.t 9, _), (.h 5, _), (.h 6, _), (.h 7, _), (.h 8, _)], ⟨rfl, rfl, rfl, rfl, rfl, rfl, rfl, rfl, rfl, rfl, rfl, rfl, rfl, rfl, rfl, rfl, rfl, rfl, rfl, rfl, rfl, rfl, trivial⟩, ?_⟩
      refine xa_region ?_
      refine x_move rfl rfl ?_
      refine x_buildSlice (es := List.map iV [_]) rfl rfl (by decide) rfl rfl (fun _ => slot_obj (noRef_map fun _ => rfl)) (fun _ => rfl) ?_
      intro g56
      refine x_append_map rfl rfl rfl rfl (by (simp; done)) (by simp) (by decide) rfl rfl rfl rfl (by decide) (fun _ => ⟨rfl, rfl⟩) (by simp only [maxL]; (simp only [List.length_nil, List.length_cons, List.length_append, Nat.zero_add, List.length_map]; omega)) (fun _ => rfl) ?_
      intro g57
      (refine x_assign_own rfl rfl (by (simp; done)) rfl (fun _ => (slot_obj (by exact noRef_map fun _ => rfl))) (fun _ => rfl) ?_; intro g7)
      refine xr_nil ⟨nofun, [(.t 0, _), (.t 1, _), (.t 5, _), (.t 6, _), (.t 7, _), (.t 8, _), (.t 9, _), (.h 5, _), (.h 6, _), (.h 7, _), (.h 8, _)], ⟨rfl, rfl, rfl, rfl, rfl, rfl, rfl, rfl, rfl, rfl, rfl, rfl, rfl, rfl, rfl, rfl, rfl, rfl, rfl, rfl, rfl, rfl, trivial⟩, ?_⟩
      refine xa_seq ?_
      refine xa_region ?_
      refine x_move rfl rfl ?_
      refine x_len_sl rfl rfl ?_
      try rw [show (((vals ++ [(0 : Int)] : List Int).length : Nat) : Int) = (vals.length : Int) + 1 by simp]
      refine x_sub rfl rfl (inI64 (by omega)) ?_
      refine x_assign rfl rfl rfl ?_
      refine xr_nil ⟨nofun, [(.t 0, _), (.t 1, _), (.t 5, _), (.t 6, _), (.t 7, _), (.t 8, _), (.t 9, _), (.t 10, _), (.h 5, _), (.h 6, _), (.h 7, _), (.h 8, _)], ⟨rfl, rfl, rfl, rfl, rfl, rfl, rfl, rfl, rfl, rfl, rfl, rfl, rfl, rfl, rfl, rfl, rfl, rfl, rfl, rfl, rfl, rfl, rfl, rfl, trivial⟩, ?_⟩
      refine xa_seq ?_
      refine xa_region ?_
      rw [show (vals.length : Int) + 1 - 1 = ((vals.length : Nat) : Int) by omega]
      have hdi3 := hdi (by omega)
      refine x_move rfl rfl ?_
      refine x_move rfl rfl ?_
      refine x_move rfl rfl ?_
      refine x_move rfl rfl ?_
      refine x_index_slN rfl rfl rfl rfl (by (simp; done)) (by (simp; done)) rfl ?_
      refine x_load_mapV rfl rfl (by (simp; done)) (fun _ => rfl) (fun _ => rfl) rfl ?_
      refine x_move rfl rfl ?_
      refine x_move rfl rfl ?_
      refine x_move rfl rfl ?_
      refine x_index_slN rfl rfl rfl rfl (by omega) (by (simp; done)) rfl ?_
      refine x_load_mapV rfl rfl (by omega) (fun _ => rfl) (fun _ => rfl) rfl ?_
      refine x_index_listN rfl rfl rfl (fun _ => rfl) (by omega) ?_
      refine x_load_iptV rfl rfl rfl ?_
      have hgb := hgi.bd ho hm hml (vals.length - 1)
      have e0 : (vals ++ [0]).getD vals.length default = 0 := by simp
      have e1 : (wts ++ [0]).getD vals.length default = 0 := by rw [hvv, ← hww]; simp
      have hmi := allB_iff.1 hm (d.getD i default) (by omega)
      refine x_add rfl rfl (inI64 (by omega)) ?_
      refine x_index_slN rfl rfl rfl rfl (by (simp; done)) (by (simp; done)) rfl ?_
      refine x_store_mapO rfl rfl rfl (by (simp; done)) (fun _ _ => ⟨rfl, rfl, of_decide_eq_true rfl, of_decide_eq_true rfl, rfl, rfl⟩) (by decide) (by exact slot_obj (noRef_map fun _ => rfl)) ?_
      refine xr_nil ⟨fun _ => ⟨by decide +kernel, by decide +kernel⟩, [(.t 0, _), (.t 1, _), (.t 5, _), (.t 6, _), (.t 7, _), (.t 8, _), (.t 9, _), (.t 10, _), (.h 5, _), (.h 6, _), (.h 7, _), (.h 8, _)], ⟨rfl, rfl, rfl, rfl, rfl, rfl, rfl, rfl, rfl, rfl, rfl, rfl, rfl, rfl, rfl, rfl, rfl, rfl, rfl, rfl, rfl, rfl, rfl, rfl, trivial⟩, ?_⟩
      refine xa_seq ?_
      refine xa_region ?_
      refine x_move rfl rfl ?_
      refine x_move rfl rfl ?_
      refine x_move rfl rfl ?_
      refine x_move rfl rfl ?_
      refine x_index_slN rfl rfl rfl rfl (by (simp; omega)) (by (simp; done)) rfl ?_
      refine x_load_mapV rfl rfl (by (simp; omega)) (fun _ => rfl) (fun _ => rfl) rfl ?_
      refine x_add rfl rfl (inI64 (by omega)) ?_
      refine x_index_slN rfl rfl rfl rfl (by (simp; omega)) (by (simp; done)) rfl ?_
      refine x_store_mapO rfl rfl rfl (by (simp; omega)) (fun _ _ => ⟨rfl, rfl, of_decide_eq_true rfl, of_decide_eq_true rfl, rfl, rfl⟩) (by decide) (by exact slot_obj (noRef_map fun _ => rfl)) ?_
      refine xr_nil ⟨nofun, [(.t 0, _), (.t 1, _), (.t 5, _), (.t 6, _), (.t 7, _), (.t 8, _), (.t 9, _), (.t 10, _), (.h 5, _), (.h 6, _), (.h 7, _), (.h 8, _)], ⟨rfl, rfl, rfl, rfl, rfl, rfl, rfl, rfl, rfl, rfl, rfl, rfl, rfl, rfl, rfl, rfl, rfl, rfl, rfl, rfl, rfl, rfl, rfl, rfl, trivial⟩, ?_⟩
      refine xa_region ?_
      refine x_move rfl rfl ?_
      refine x_move rfl rfl ?_
      refine x_buildSlice (es := List.map nV [_]) rfl rfl (by decide) rfl rfl (fun _ => slot_obj (noRef_map fun _ => rfl)) (fun _ => rfl) ?_
      intro g86
      refine x_append_map rfl rfl rfl rfl (by (simp; done)) (by simp) (by decide) rfl rfl rfl rfl (by decide) (fun _ => ⟨rfl, rfl⟩) (by simp only [maxL]; (simp only [List.length_nil, List.length_cons, List.length_append, Nat.zero_add, List.length_map]; omega)) (fun _ => rfl) ?_
      intro g87
      (refine x_assign_own rfl rfl (by (simp; done)) rfl (fun _ => (slot_obj (by exact noRef_map fun _ => rfl))) (fun _ => rfl) ?_; intro g8)
      refine xr_nil ⟨nofun, [(.t 0, _), (.t 1, _), (.t 5, _), (.t 6, _), (.t 7, _), (.t 8, _), (.t 9, _), (.h 5, _), (.h 6, _), (.h 7, _), (.h 8, _)], ⟨rfl, rfl, rfl, rfl, rfl, rfl, rfl, rfl, rfl, rfl, rfl, rfl, rfl, rfl, rfl, rfl, rfl, rfl, rfl, rfl, rfl, rfl, trivial⟩, ?_⟩
      refine xa_region ?_
      refine x_move rfl rfl ?_
      refine x_add rfl rfl (inI64 (by omega)) ?_
      refine x_assign rfl rfl rfl ?_
      refine xr_nil ⟨nofun, [(.t 0, _), (.t 1, _), (.t 5, _), (.t 6, _), (.t 7, _), (.t 8, _), (.t 9, _), (.h 5, _), (.h 6, _), (.h 7, _), (.h 8, _)], ⟨rfl, rfl, rfl, rfl, rfl, rfl, rfl, rfl, rfl, rfl, rfl, rfl, rfl, rfl, rfl, rfl, rfl, rfl, rfl, rfl, rfl, rfl, trivial⟩, ?_⟩
      refine ⟨(i + 1, _, _, _, _, _, _, _, _), ?_, (by simp only; omega), ⟨rfl, rfl, rfl, rfl, rfl, rfl, rfl, rfl, rfl, rfl, rfl, trivial⟩⟩
      exact ⟨GrI.new ho hgi (by omega) (by (left; omega)), by simp, by simp⟩
  · try simp only [decide_eq_true_eq, decide_eq_false_iff_not, Bool.not_eq_true', Bool.not_eq_false', bne_iff_ne, beq_iff_eq, ne_eq, Bool.not_true, Bool.not_false, beq_eq_false_iff_ne, bne_eq_false_iff_eq, Decidable.not_not, Int.not_lt, Int.not_le, Bool.and_eq_true, Bool.and_eq_false_iff, Bool.or_eq_true, Bool.or_eq_false_iff, List.length_map] at hc
    refine xa_exit ?_
    refine xa_seq ?_
    refine xa_region ?_
    obtain ⟨hv1, hw1, hvw, hk1, hkv⟩ := hgi.fin ho (by omega)
    rw [hv1]
    refine x_move rfl rfl ?_
    refine x_len_sl rfl rfl ?_
    refine x_makeSlice (f := F_Frac) (x0 := (0, 0)) rfl rfl rfl rfl rfl (by simp only [maxL]; omega) (by decide) (fun _ => slot_obj (by exact noRef_map fun _ => rfl)) (fun _ => rfl) ?_
    intro g90
    (refine x_assign_own rfl rfl (by (simp; done)) rfl (fun _ => (slot_obj (by exact noRef_map fun _ => rfl))) (fun _ => rfl) ?_; intro g11)
    refine xr_nil ⟨nofun, [(.t 0, _), (.t 5, _), (.t 6, _), (.t 7, _), (.t 8, _), (.t 11, _), (.h 5, _), (.h 6, _), (.h 7, _), (.h 8, _), (.h 11, _)], ⟨rfl, rfl, rfl, rfl, rfl, rfl, rfl, rfl, rfl, rfl, rfl, rfl, rfl, rfl, rfl, rfl, rfl, rfl, rfl, rfl, rfl, rfl, trivial⟩, ?_⟩
    refine xa_seq ?_
    refine xa_seq ?_
    refine xa_region ?_
    refine x_assign rfl rfl rfl ?_
    refine xr_nil ⟨nofun, [(.t 0, _), (.t 5, _), (.t 6, _), (.t 7, _), (.t 8, _), (.t 11, _), (.t 12, _), (.h 5, _), (.h 6, _), (.h 7, _), (.h 8, _), (.h 11, _)], ⟨rfl, rfl, rfl, rfl, rfl, rfl, rfl, rfl, rfl, rfl, rfl, rfl, rfl, rfl, rfl, rfl, rfl, rfl, rfl, rfl, rfl, rfl, rfl, rfl, trivial⟩, ?_⟩
    refine xa_block ?_
    refine xa_loopK (β := Nat × List (Int × Int)) [(.t 0, _), (.t 5, _), (.t 6, _), (.t 7, _), (.t 8, _), (.t 11, _), (.h 5, _), (.h 6, _), (.h 7, _), (.h 8, _)] (fun (z : Nat × List (Int × Int)) => match z with | (i, fit) => [(.t 12, iV i), (.h 11, .obj g11 0 2 (fit.map F_Frac))]) (fun (z : Nat × List (Int × Int)) => match z with | (i, fit) => i ≤ (vsA xs).length ∧ fit.length = (vsA xs).length ∧ (∀ g, g < i → fit.getD g default = qP (chv bs (vA xs g))) ∧ ∃ l1 l2, bs = l1 ++ l2 ∧ SegL (PA xs ms) (QA xs) (vA xs) 0 l1 i ∧ SegL (PA xs ms) (QA xs) (vA xs) i l2 (vsA xs).length ∧ Inc l2) (fun (z : Nat × List (Int × Int)) => match z with | (i, fit) => (vsA xs).length - i) (0, List.replicate (vsA xs).length (0, 0)) ⟨rfl, rfl, rfl, rfl, rfl, rfl, rfl, rfl, rfl, rfl, rfl, rfl, trivial⟩ ⟨Nat.zero_le _, by simp, fun g h => by omega, [], bs, rfl, rfl, hB.1, hB.2⟩ ?_
    intro z hb
    obtain ⟨i, fit⟩ := z
    try dsimp only at hb
    obtain ⟨hi1, hfl, hfg, l1, l2, hl12, hs1, hs2, hin⟩ := hb
    refine xa_seq ?_
    refine xa_seq ?_
    refine xa_region ?_
    refine x_move rfl rfl ?_
    refine x_move rfl rfl ?_
    refine x_len_sl rfl rfl ?_
    refine x_lss rfl rfl ?_
    refine xr_nil ⟨nofun, [(.t 0, _), (.t 5, _), (.t 6, _), (.t 7, _), (.t 8, _), (.t 11, _), (.t 12, _), (.t 94, _), (.h 5, _), (.h 6, _), (.h 7, _), (.h 8, _), (.h 11, _)], ⟨rfl, rfl, rfl, rfl, rfl, rfl, rfl, rfl, rfl, rfl, rfl, rfl, rfl, rfl, rfl, rfl, rfl, rfl, rfl, rfl, rfl, rfl, rfl, rfl, rfl, rfl, trivial⟩, ?_⟩
    refine xa_cond rfl (fun hc => ?_) (fun hc => ?_)
    · try simp only [decide_eq_true_eq, decide_eq_false_iff_not, Bool.not_eq_true', Bool.not_eq_false', bne_iff_ne, beq_iff_eq, ne_eq, Bool.not_true, Bool.not_false, beq_eq_false_iff_ne, bne_eq_false_iff_eq, Decidable.not_not, Int.not_lt, Int.not_le, Bool.and_eq_true, Bool.and_eq_false_iff, Bool.or_eq_true, Bool.or_eq_false_iff, List.length_map] at hc
      refine xa_skip ?_
      refine xa_block ?_
      refine xa_seq ?_
      refine xa_region ?_
      refine x_move rfl rfl ?_
      refine x_assign rfl rfl rfl ?_
      refine xr_nil ⟨nofun, [(.t 0, _), (.t 5, _), (.t 6, _), (.t 7, _), (.t 8, _), (.t 11, _), (.t 12, _), (.t 13, _), (.h 5, _), (.h 6, _), (.h 7, _), (.h 8, _), (.h 11, _)], ⟨rfl, rfl, rfl, rfl, rfl, rfl, rfl, rfl, rfl, rfl, rfl, rfl, rfl, rfl, rfl, rfl, rfl, rfl, rfl, rfl, rfl, rfl, rfl, rfl, rfl, rfl, trivial⟩, ?_⟩
      refine xa_seq ?_
      refine xa_region ?_
      refine x_move rfl rfl ?_
      refine x_move rfl rfl ?_
      refine x_index_slN rfl rfl rfl rfl (by omega) (by (simp; omega)) rfl ?_
      refine x_load_mapV rfl rfl (by omega) (fun _ => rfl) (fun _ => rfl) rfl ?_
      refine x_assign rfl rfl rfl ?_
      refine xr_nil ⟨nofun, [(.t 0, _), (.t 5, _), (.t 6, _), (.t 7, _), (.t 8, _), (.t 11, _), (.t 12, _), (.t 13, _), (.t 14, _), (.h 5, _), (.h 6, _), (.h 7, _), (.h 8, _), (.h 11, _)], ⟨rfl, rfl, rfl, rfl, rfl, rfl, rfl, rfl, rfl, rfl, rfl, rfl, rfl, rfl, rfl, rfl, rfl, rfl, rfl, rfl, rfl, rfl, rfl, rfl, rfl, rfl, rfl, rfl, trivial⟩, ?_⟩
      refine xa_seq ?_
      refine xa_region ?_
      refine x_move rfl rfl ?_
      refine x_move rfl rfl ?_
      refine x_index_slN rfl rfl rfl rfl (by omega) (by (simp; done)) rfl ?_
      refine x_load_mapV rfl rfl (by omega) (fun _ => rfl) (fun _ => rfl) rfl ?_
      refine x_assign rfl rfl rfl ?_
      refine xr_nil ⟨nofun, [(.t 0, _), (.t 5, _), (.t 6, _), (.t 7, _), (.t 8, _), (.t 11, _), (.t 12, _), (.t 13, _), (.t 14, _), (.t 15, _), (.h 5, _), (.h 6, _), (.h 7, _), (.h 8, _), (.h 11, _)], ⟨rfl, rfl, rfl, rfl, rfl, rfl, rfl, rfl, rfl, rfl, rfl, rfl, rfl, rfl, rfl, rfl, rfl, rfl, rfl, rfl, rfl, rfl, rfl, rfl, rfl, rfl, rfl, rfl, rfl, rfl, trivial⟩, ?_⟩
      refine xa_seq ?_
      refine xa_region ?_
      rw [(hvw i (by omega)).1, (hvw i (by omega)).2, show onV xs ms (vA xs i) = PA xs ms (i + 1) - PA xs ms i from (prS_one (fun j => onV xs ms (vA xs j)) i).symm, show mcV xs (vA xs i) = QA xs (i + 1) - QA xs i from (prS_one (fun j => mcV xs (vA xs j)) i).symm]
      have pb0 := PA_b hml hmb (a := i) (b := i + 1) (by omega) (by omega)
      have qb0 := QA_b (xs := xs) (a := i) (b := i + 1) (by omega) (by omega)
      refine x_move rfl rfl ?_
      refine x_move rfl rfl ?_
      apply x_call rfl
      · apply pa_cons
        · exact pa_plain rfl
        apply pa_cons
        · exact pa_plain rfl
        exact pa_nil
      · exact s_fracS (PA xs ms (i + 1) - PA xs ms i) (QA xs (i + 1) - QA xs i) (by omega) (by omega) (by omega)
      · exact ⟨rfl, rfl, rfl, of_decide_eq_true rfl, rfl⟩
      · exact .inl rfl
      · exact back_nil
      · exact inst_plain rfl
      · exact fun _ => rfl
      intro g106
      refine x_alloc rfl (fun _ => slot_box rfl) (fun _ => rfl) ?_
      intro g16
      refine x_store_boxV rfl rfl rfl rfl ⟨by decide, rfl, of_decide_eq_true rfl, of_decide_eq_true rfl, rfl⟩ rfl (by exact slot_box rfl) ?_
      refine xr_nil ⟨nofun, [(.t 0, _), (.t 5, _), (.t 6, _), (.t 7, _), (.t 8, _), (.t 11, _), (.t 12, _), (.t 13, _), (.t 14, _), (.t 15, _), (.t 16, _), (.h 5, _), (.h 6, _), (.h 7, _), (.h 8, _), (.h 11, _), (.h 16, _)], ⟨rfl, rfl, rfl, rfl, rfl, rfl, rfl, rfl, rfl, rfl, rfl, rfl, rfl, rfl, rfl, rfl, rfl, rfl, rfl, rfl, rfl, rfl, rfl, rfl, rfl, rfl, rfl, rfl, rfl, rfl, rfl, rfl, rfl, rfl, trivial⟩, ?_⟩
      refine xa_seq ?_
      refine xa_seq ?_
      refine xa_region ?_
      refine x_move rfl rfl ?_
      refine x_add rfl rfl (inI64 (by omega)) ?_
      refine x_assign rfl rfl rfl ?_
      refine xr_nil ⟨nofun, [(.t 0, _), (.t 5, _), (.t 6, _), (.t 7, _), (.t 8, _), (.t 11, _), (.t 12, _), (.t 13, _), (.t 14, _), (.t 15, _), (.t 16, _), (.t 17, _), (.h 5, _), (.h 6, _), (.h 7, _), (.h 8, _), (.h 11, _), (.h 16, _)], ⟨rfl, rfl, rfl, rfl, rfl, rfl, rfl, rfl, rfl, rfl, rfl, rfl, rfl, rfl, rfl, rfl, rfl, rfl, rfl, rfl, rfl, rfl, rfl, rfl, rfl, rfl, rfl, rfl, rfl, rfl, rfl, rfl, rfl, rfl, rfl, rfl, trivial⟩, ?_⟩
      refine xa_block ?_
      refine xa_loopK (β := Nat × Rat × Nat) [(.t 0, _), (.t 5, _), (.t 6, _), (.t 7, _), (.t 8, _), (.t 11, _), (.t 12, _), (.t 16, _), (.h 5, _), (.h 6, _), (.h 7, _), (.h 8, _), (.h 11, _)] (fun (z : Nat × Rat × Nat) => match z with | (k, best, last) => [(.t 17, iV k), (.t 13, iV last), (.t 14, iV (PA xs ms k - PA xs ms i)), (.t 15, iV (QA xs k - QA xs i)), (.h 16, .obj g16 3 2 [qV best])]) (fun (z : Nat × Rat × Nat) => match z with | (k, best, last) => k ≤ (vsA xs).length ∧ AM (PA xs ms) (QA xs) i k best last) (fun (z : Nat × Rat × Nat) => match z with | (k, best, last) => (vsA xs).length - k) (i + 1, mnR (PA xs ms) (QA xs) i (i + 1), i) ⟨rfl, rfl, rfl, rfl, rfl, rfl, rfl, rfl, rfl, rfl, rfl, rfl, rfl, rfl, rfl, rfl, rfl, rfl, trivial⟩ ⟨by omega, AM.start i⟩ ?_
      intro z hb
      obtain ⟨k, best, last⟩ := z
      try dsimp only at hb
      obtain ⟨hk1, ham⟩ := hb
      have hik := ham.ik
      have hlk := ham.lk
      have hil := ham.il
      have pb1 := PA_b hml hmb (a := i) (b := k) (by omega) (by omega)
      have qb1 := QA_b (xs := xs) (a := i) (b := k) (by omega) (by omega)
      refine xa_seq ?_
      refine xa_seq ?_
      refine xa_region ?_
      refine x_move rfl rfl ?_
      refine x_move rfl rfl ?_
      refine x_len_sl rfl rfl ?_
      refine x_lss rfl rfl ?_
      refine xr_nil ⟨nofun, [(.t 0, _), (.t 5, _), (.t 6, _), (.t 7, _), (.t 8, _), (.t 11, _), (.t 12, _), (.t 13, _), (.t 14, _), (.t 15, _), (.t 16, _), (.t 17, _), (.t 112, _), (.h 5, _), (.h 6, _), (.h 7, _), (.h 8, _), (.h 11, _), (.h 16, _)], ⟨rfl, rfl, rfl, rfl, rfl, rfl, rfl, rfl, rfl, rfl, rfl, rfl, rfl, rfl, rfl, rfl, rfl, rfl, rfl, rfl, rfl, rfl, rfl, rfl, rfl, rfl, rfl, rfl, rfl, rfl, rfl, rfl, rfl, rfl, rfl, rfl, rfl, rfl, trivial⟩, ?_⟩
      refine xa_cond rfl (fun hc => ?_) (fun hc => ?_)
      · try simp only [decide_eq_true_eq, decide_eq_false_iff_not, Bool.not_eq_true', Bool.not_eq_false', bne_iff_ne, beq_iff_eq, ne_eq, Bool.not_true, Bool.not_false, beq_eq_false_iff_ne, bne_eq_false_iff_eq, Decidable.not_not, Int.not_lt, Int.not_le, Bool.and_eq_true, Bool.and_eq_false_iff, Bool.or_eq_true, Bool.or_eq_false_iff, List.length_map] at hc
        refine xa_skip ?_
        refine xa_seq ?_
        refine xa_block ?_
        refine xa_seq ?_
        refine xa_region ?_
        refine x_move rfl rfl ?_
        refine x_move rfl rfl ?_
        refine x_move rfl rfl ?_
        refine x_index_slN rfl rfl rfl rfl (by omega) (by (simp; omega)) rfl ?_
        refine x_load_mapV rfl rfl (by omega) (fun _ => rfl) (fun _ => rfl) rfl ?_
        have pe : vals.getD k default = PA xs ms (k + 1) - PA xs ms k := (hvw k (by omega)).1.trans (prS_one (fun j => onV xs ms (vA xs j)) k).symm
        have qe : wts.getD k default = QA xs (k + 1) - QA xs k := (hvw k (by omega)).2.trans (prS_one (fun j => mcV xs (vA xs j)) k).symm
        have pb2 := PA_b hml hmb (a := i) (b := k + 1) (by omega) (by omega)
        have qb2 := QA_b (xs := xs) (a := i) (b := k + 1) (by omega) (by omega)
        refine x_add rfl rfl (inI64 (by omega)) ?_
        refine x_assign rfl rfl rfl ?_
        refine xr_nil ⟨nofun, [(.t 0, _), (.t 5, _), (.t 6, _), (.t 7, _), (.t 8, _), (.t 11, _), (.t 12, _), (.t 13, _), (.t 14, _), (.t 15, _), (.t 16, _), (.t 17, _), (.h 5, _), (.h 6, _), (.h 7, _), (.h 8, _), (.h 11, _), (.h 16, _)], ⟨rfl, rfl, rfl, rfl, rfl, rfl, rfl, rfl, rfl, rfl, rfl, rfl, rfl, rfl, rfl, rfl, rfl, rfl, rfl, rfl, rfl, rfl, rfl, rfl, rfl, rfl, rfl, rfl, rfl, rfl, rfl, rfl, rfl, rfl, rfl, rfl, trivial⟩, ?_⟩
        refine xa_seq ?_
        refine xa_region ?_
        refine x_move rfl rfl ?_
        refine x_move rfl rfl ?_
        refine x_move rfl rfl ?_
        refine x_index_slN rfl rfl rfl rfl (by omega) (by (simp; done)) rfl ?_
        refine x_load_mapV rfl rfl (by omega) (fun _ => rfl) (fun _ => rfl) rfl ?_
        refine x_add rfl rfl (inI64 (by omega)) ?_
        refine x_assign rfl rfl rfl ?_
        refine xr_nil ⟨nofun, [(.t 0, _), (.t 5, _), (.t 6, _), (.t 7, _), (.t 8, _), (.t 11, _), (.t 12, _), (.t 13, _), (.t 14, _), (.t 15, _), (.t 16, _), (.t 17, _), (.h 5, _), (.h 6, _), (.h 7, _), (.h 8, _), (.h 11, _), (.h 16, _)], ⟨rfl, rfl, rfl, rfl, rfl, rfl, rfl, rfl, rfl, rfl, rfl, rfl, rfl, rfl, rfl, rfl, rfl, rfl, rfl, rfl, rfl, rfl, rfl, rfl, rfl, rfl, rfl, rfl, rfl, rfl, rfl, rfl, rfl, rfl, rfl, rfl, trivial⟩, ?_⟩
        refine xa_seq ?_
        refine xa_region ?_
        rw [show PA xs ms k - PA xs ms i + vals.getD k default = PA xs ms (k + 1) - PA xs ms i by omega, show QA xs k - QA xs i + wts.getD k default = QA xs (k + 1) - QA xs i by omega]
        refine x_move rfl rfl ?_
        refine x_move rfl rfl ?_
        apply x_call rfl
        · apply pa_cons
          · exact pa_plain rfl
          apply pa_cons
          · exact pa_plain rfl
          exact pa_nil
        · exact s_fracS (PA xs ms (k + 1) - PA xs ms i) (QA xs (k + 1) - QA xs i) (by omega) (by omega) (by omega)
        · exact ⟨rfl, rfl, rfl, of_decide_eq_true rfl, rfl⟩
        · exact .inl rfl
        · exact back_nil
        · exact inst_plain rfl
        · exact fun _ => rfl
        intro g129
        refine x_alloc rfl (fun _ => slot_box rfl) (fun _ => rfl) ?_
        intro g18
        refine x_store_boxV rfl rfl rfl rfl ⟨by decide, rfl, of_decide_eq_true rfl, of_decide_eq_true rfl, rfl⟩ rfl (by exact slot_box rfl) ?_
        refine xr_nil ⟨nofun, [(.t 0, _), (.t 5, _), (.t 6, _), (.t 7, _), (.t 8, _), (.t 11, _), (.t 12, _), (.t 13, _), (.t 14, _), (.t 15, _), (.t 16, _), (.t 17, _), (.t 18, _), (.h 5, _), (.h 6, _), (.h 7, _), (.h 8, _), (.h 11, _), (.h 16, _), (.h 18, _)], ⟨rfl, rfl, rfl, rfl, rfl, rfl, rfl, rfl, rfl, rfl, rfl, rfl, rfl, rfl, rfl, rfl, rfl, rfl, rfl, rfl, rfl, rfl, rfl, rfl, rfl, rfl, rfl, rfl, rfl, rfl, rfl, rfl, rfl, rfl, rfl, rfl, rfl, rfl, rfl, rfl, trivial⟩, ?_⟩
        refine xa_seq ?_
        refine xa_region ?_
        refine x_load_boxV rfl rfl rfl rfl rfl ?_
        refine x_load_boxV rfl rfl rfl rfl rfl ?_
        have hsb : Sm 1000000000 best := by rw [ham.be]; exact Sm.fr (by have := QA_b (xs := xs) (a := i) (b := last + 1) (by omega) (by omega); omega) (by have := PA_b hml hmb (a := i) (b := last + 1) (by omega) (by omega); omega) (by have := QA_b (xs := xs) (a := i) (b := last + 1) (by omega) (by omega); omega)
        have hsx : Sm 1000000000 (mnR (PA xs ms) (QA xs) i (k + 1)) := Sm.fr (by omega) (by omega) (by omega)
        apply x_call rfl
        · apply pa_cons
          · exact pa_plain rfl
          apply pa_cons
          · exact pa_plain rfl
          exact pa_nil
        · exact s_lessS best (mnR (PA xs ms) (QA xs) i (k + 1)) hsb hsx
        · exact ⟨rfl, rfl, rfl, of_decide_eq_true rfl, rfl⟩
        · exact .inl rfl
        · exact back_nil
        · exact inst_plain rfl
        · exact fun _ => rfl
        intro g132
        refine x_not rfl ?_
        refine xr_nil ⟨nofun, [(.t 0, _), (.t 5, _), (.t 6, _), (.t 7, _), (.t 8, _), (.t 11, _), (.t 12, _), (.t 13, _), (.t 14, _), (.t 15, _), (.t 16, _), (.t 17, _), (.t 18, _), (.t 133, _), (.h 5, _), (.h 6, _), (.h 7, _), (.h 8, _), (.h 11, _), (.h 16, _), (.h 18, _)], ⟨rfl, rfl, rfl, rfl, rfl, rfl, rfl, rfl, rfl, rfl, rfl, rfl, rfl, rfl, rfl, rfl, rfl, rfl, rfl, rfl, rfl, rfl, rfl, rfl, rfl, rfl, rfl, rfl, rfl, rfl, rfl, rfl, rfl, rfl, rfl, rfl, rfl, rfl, rfl, rfl, rfl, rfl, trivial⟩, ?_⟩
        refine xa_cond rfl (fun hc => ?_) (fun hc => ?_)
        · try simp only [decide_eq_true_eq, decide_eq_false_iff_not, Bool.not_eq_true', Bool.not_eq_false', bne_iff_ne, beq_iff_eq, ne_eq, Bool.not_true, Bool.not_false, beq_eq_false_iff_ne, bne_eq_false_iff_eq, Decidable.not_not, Int.not_lt, Int.not_le, Bool.and_eq_true, Bool.and_eq_false_iff, Bool.or_eq_true, Bool.or_eq_false_iff, List.length_map] at hc
          refine xa_seq ?_
          refine xa_region ?_
          refine x_move rfl rfl ?_
          refine x_assign rfl rfl rfl ?_
          refine xr_nil ⟨nofun, [(.t 0, _), (.t 5, _), (.t 6, _), (.t 7, _), (.t 8, _), (.t 11, _), (.t 12, _), (.t 13, _), (.t 14, _), (.t 15, _), (.t 16, _), (.t 17, _), (.t 18, _), (.h 5, _), (.h 6, _), (.h 7, _), (.h 8, _), (.h 11, _), (.h 16, _), (.h 18, _)], ⟨rfl, rfl, rfl, rfl, rfl, rfl, rfl, rfl, rfl, rfl, rfl, rfl, rfl, rfl, rfl, rfl, rfl, rfl, rfl, rfl, rfl, rfl, rfl, rfl, rfl, rfl, rfl, rfl, rfl, rfl, rfl, rfl, rfl, rfl, rfl, rfl, rfl, rfl, rfl, rfl, trivial⟩, ?_⟩
          refine xa_region ?_
          refine x_load_boxV rfl rfl rfl rfl rfl ?_
          refine x_store_boxV rfl rfl rfl rfl ⟨by decide, rfl, of_decide_eq_true rfl, of_decide_eq_true rfl, rfl⟩ rfl (by exact slot_box rfl) ?_
          refine xr_nil ⟨nofun, [(.t 0, _), (.t 5, _), (.t 6, _), (.t 7, _), (.t 8, _), (.t 11, _), (.t 12, _), (.t 13, _), (.t 14, _), (.t 15, _), (.t 16, _), (.t 17, _), (.h 5, _), (.h 6, _), (.h 7, _), (.h 8, _), (.h 11, _), (.h 16, _)], ⟨rfl, rfl, rfl, rfl, rfl, rfl, rfl, rfl, rfl, rfl, rfl, rfl, rfl, rfl, rfl, rfl, rfl, rfl, rfl, rfl, rfl, rfl, rfl, rfl, rfl, rfl, rfl, rfl, rfl, rfl, rfl, rfl, rfl, rfl, rfl, rfl, trivial⟩, ?_⟩
          refine xa_region ?_
          refine x_move rfl rfl ?_
          refine x_add rfl rfl (inI64 (by omega)) ?_
          refine x_assign rfl rfl rfl ?_
          refine xr_nil ⟨nofun, [(.t 0, _), (.t 5, _), (.t 6, _), (.t 7, _), (.t 8, _), (.t 11, _), (.t 12, _), (.t 13, _), (.t 14, _), (.t 15, _), (.t 16, _), (.t 17, _), (.h 5, _), (.h 6, _), (.h 7, _), (.h 8, _), (.h 11, _), (.h 16, _)], ⟨rfl, rfl, rfl, rfl, rfl, rfl, rfl, rfl, rfl, rfl, rfl, rfl, rfl, rfl, rfl, rfl, rfl, rfl, rfl, rfl, rfl, rfl, rfl, rfl, rfl, rfl, rfl, rfl, rfl, rfl, rfl, rfl, rfl, rfl, rfl, rfl, trivial⟩, ?_⟩
          refine ⟨(k + 1, mnR (PA xs ms) (QA xs) i (k + 1), k), ?_, (by simp only; omega), ⟨rfl, rfl, rfl, rfl, rfl, rfl, rfl, rfl, rfl, rfl, rfl, rfl, rfl, rfl, rfl, rfl, rfl, rfl, trivial⟩⟩
          exact ⟨by omega, ham.hit hc⟩
        · try simp only [decide_eq_true_eq, decide_eq_false_iff_not, Bool.not_eq_true', Bool.not_eq_false', bne_iff_ne, beq_iff_eq, ne_eq, Bool.not_true, Bool.not_false, beq_eq_false_iff_ne, bne_eq_false_iff_eq, Decidable.not_not, Int.not_lt, Int.not_le, Bool.and_eq_true, Bool.and_eq_false_iff, Bool.or_eq_true, Bool.or_eq_false_iff, List.length_map] at hc
          refine xa_skip ?_
          refine xa_region ?_
          refine x_move rfl rfl ?_
          refine x_add rfl rfl (inI64 (by omega)) ?_
          refine x_assign rfl rfl rfl ?_
          refine xr_nil ⟨nofun, [(.t 0, _), (.t 5, _), (.t 6, _), (.t 7, _), (.t 8, _), (.t 11, _), (.t 12, _), (.t 13, _), (.t 14, _), (.t 15, _), (.t 16, _), (.t 17, _), (.h 5, _), (.h 6, _), (.h 7, _), (.h 8, _), (.h 11, _), (.h 16, _)], ⟨rfl, rfl, rfl, rfl, rfl, rfl, rfl, rfl, rfl, rfl, rfl, rfl, rfl, rfl, rfl, rfl, rfl, rfl, rfl, rfl, rfl, rfl, rfl, rfl, rfl, rfl, rfl, rfl, rfl, rfl, rfl, rfl, rfl, rfl, rfl, rfl, trivial⟩, ?_⟩
          refine ⟨(k + 1, best, last), ?_, (by simp only; omega), ⟨rfl, rfl, rfl, rfl, rfl, rfl, rfl, rfl, rfl, rfl, rfl, rfl, rfl, rfl, rfl, rfl, rfl, rfl, trivial⟩⟩
          exact ⟨by omega, ham.miss (by exact hc)⟩
      · try simp only [decide_eq_true_eq, decide_eq_false_iff_not, Bool.not_eq_true', Bool.not_eq_false', bne_iff_ne, beq_iff_eq, ne_eq, Bool.not_true, Bool.not_false, beq_eq_false_iff_ne, bne_eq_false_iff_eq, Decidable.not_not, Int.not_lt, Int.not_le, Bool.and_eq_true, Bool.and_eq_false_iff, Bool.or_eq_true, Bool.or_eq_false_iff, List.length_map] at hc
        refine xa_exit ?_
        refine xa_block ?_
        obtain ⟨b, r, rfl⟩ : ∃ b r, l2 = b :: r := by
          cases l2 with
          | nil => exact absurd (show i = (vsA xs).length from hs2) (by omega)
          | cons b r => exact ⟨b, r, rfl⟩
        have hke : k = (vsA xs).length := by omega
        subst hke
        obtain ⟨hf1, hf2, hf3, hf4⟩ := ham.fin (QA_lt xs) hs2 hin
        have hsb : SegL (PA xs ms) (QA xs) (vA xs) i [b] (last + 1) := SegL.one hs2 hf2 hf3 (vA_lt xs)
        have hfx : ∀ g, i ≤ g → g ≤ last → chv bs (vA xs g) = best := fun g g1 g2 => by rw [hl12, chv_app (vA_lt xs) hs1 g1 (by omega), SegL.chv_in (vA_lt xs) (m := last + 1) hf2 (by omega) (by omega), hf1]
        refine xa_loopK (β := Nat × List (Int × Int)) [(.t 0, _), (.t 5, _), (.t 6, _), (.t 7, _), (.t 8, _), (.t 11, _), (.t 13, _), (.t 16, _), (.h 5, _), (.h 6, _), (.h 7, _), (.h 8, _), (.h 16, _)] (fun (z : Nat × List (Int × Int)) => match z with | (q, fit2) => [(.t 12, iV q), (.h 11, .obj g11 0 2 (fit2.map F_Frac))]) (fun (z : Nat × List (Int × Int)) => match z with | (q, fit2) => i ≤ q ∧ q ≤ last + 1 ∧ fit2.length = (vsA xs).length ∧ ∀ g, g < q → fit2.getD g default = qP (chv bs (vA xs g))) (fun (z : Nat × List (Int × Int)) => match z with | (q, fit2) => last + 1 - q) (i, fit) ⟨rfl, rfl, rfl, rfl, rfl, rfl, rfl, rfl, rfl, rfl, rfl, rfl, rfl, rfl, rfl, trivial⟩ ⟨Nat.le_refl _, by omega, hfl, hfg⟩ ?_
        intro z hb
        obtain ⟨q, fit2⟩ := z
        try dsimp only at hb
        obtain ⟨hq1, hq2, hq3, hq4⟩ := hb
        refine xa_seq ?_
        refine xa_seq ?_
        refine xa_region ?_
        refine x_move rfl rfl ?_
        refine x_move rfl rfl ?_
        refine x_leq rfl rfl ?_
        refine xr_nil ⟨nofun, [(.t 0, _), (.t 5, _), (.t 6, _), (.t 7, _), (.t 8, _), (.t 11, _), (.t 12, _), (.t 13, _), (.t 16, _), (.t 138, _), (.h 5, _), (.h 6, _), (.h 7, _), (.h 8, _), (.h 11, _), (.h 16, _)], ⟨rfl, rfl, rfl, rfl, rfl, rfl, rfl, rfl, rfl, rfl, rfl, rfl, rfl, rfl, rfl, rfl, rfl, rfl, rfl, rfl, rfl, rfl, rfl, rfl, rfl, rfl, rfl, rfl, rfl, rfl, rfl, rfl, trivial⟩, ?_⟩
        refine xa_cond rfl (fun hc => ?_) (fun hc => ?_)
        · try simp only [decide_eq_true_eq, decide_eq_false_iff_not, Bool.not_eq_true', Bool.not_eq_false', bne_iff_ne, beq_iff_eq, ne_eq, Bool.not_true, Bool.not_false, beq_eq_false_iff_ne, bne_eq_false_iff_eq, Decidable.not_not, Int.not_lt, Int.not_le, Bool.and_eq_true, Bool.and_eq_false_iff, Bool.or_eq_true, Bool.or_eq_false_iff, List.length_map] at hc
          refine xa_skip ?_
          refine xa_seq ?_
          refine xa_block ?_
          refine xa_region ?_
          refine x_move rfl rfl ?_
          refine x_move rfl rfl ?_
          refine x_load_boxV rfl rfl rfl rfl rfl ?_
          refine x_index_slN rfl rfl rfl rfl (by omega) (by (simp; omega)) rfl ?_
          refine x_store_mapP (y := qP best) rfl rfl rfl (by omega) rfl ⟨rfl, of_decide_eq_true rfl, of_decide_eq_true rfl, rfl⟩ (by decide) rfl (by exact slot_obj (noRef_map fun _ => rfl)) ?_
          refine xr_nil ⟨nofun, [(.t 0, _), (.t 5, _), (.t 6, _), (.t 7, _), (.t 8, _), (.t 11, _), (.t 12, _), (.t 13, _), (.t 16, _), (.h 5, _), (.h 6, _), (.h 7, _), (.h 8, _), (.h 11, _), (.h 16, _)], ⟨rfl, rfl, rfl, rfl, rfl, rfl, rfl, rfl, rfl, rfl, rfl, rfl, rfl, rfl, rfl, rfl, rfl, rfl, rfl, rfl, rfl, rfl, rfl, rfl, rfl, rfl, rfl, rfl, rfl, rfl, trivial⟩, ?_⟩
          refine xa_region ?_
          refine x_move rfl rfl ?_
          refine x_add rfl rfl (inI64 (by omega)) ?_
          refine x_assign rfl rfl rfl ?_
          refine xr_nil ⟨nofun, [(.t 0, _), (.t 5, _), (.t 6, _), (.t 7, _), (.t 8, _), (.t 11, _), (.t 12, _), (.t 13, _), (.t 16, _), (.h 5, _), (.h 6, _), (.h 7, _), (.h 8, _), (.h 11, _), (.h 16, _)], ⟨rfl, rfl, rfl, rfl, rfl, rfl, rfl, rfl, rfl, rfl, rfl, rfl, rfl, rfl, rfl, rfl, rfl, rfl, rfl, rfl, rfl, rfl, rfl, rfl, rfl, rfl, rfl, rfl, rfl, rfl, trivial⟩, ?_⟩
          refine ⟨(q + 1, fit2.set q (qP best)), ?_, (by simp only; omega), ⟨rfl, rfl, rfl, rfl, rfl, rfl, rfl, rfl, rfl, rfl, rfl, rfl, rfl, rfl, rfl, trivial⟩⟩
          exact ⟨by omega, by omega, by simp [hq3], fun g hg => by rw [getD_set _ _ _ _ (by omega)]; by_cases e : g = q; (· rw [if_pos e, e, hfx q hq1 (by omega)]); (· rw [if_neg e]; exact hq4 g (by omega))⟩
        · try simp only [decide_eq_true_eq, decide_eq_false_iff_not, Bool.not_eq_true', Bool.not_eq_false', bne_iff_ne, beq_iff_eq, ne_eq, Bool.not_true, Bool.not_false, beq_eq_false_iff_ne, bne_eq_false_iff_eq, Decidable.not_not, Int.not_lt, Int.not_le, Bool.and_eq_true, Bool.and_eq_false_iff, Bool.or_eq_true, Bool.or_eq_false_iff, List.length_map] at hc
          refine xa_exit ?_
          refine ⟨(q, fit2), ?_, (by simp only; omega), ⟨rfl, rfl, rfl, rfl, rfl, rfl, rfl, rfl, rfl, rfl, rfl, rfl, trivial⟩⟩
          have hlq : last + 1 = q := by omega
          subst hlq
          exact ⟨by omega, hq3, hq4, l1 ++ [b], r, by rw [hl12, List.append_assoc]; rfl, SegL.append.2 ⟨i, hs1, hsb⟩, hf3, hin.tail⟩
    · try simp only [decide_eq_true_eq, decide_eq_false_iff_not, Bool.not_eq_true', Bool.not_eq_false', bne_iff_ne, beq_iff_eq, ne_eq, Bool.not_true, Bool.not_false, beq_eq_false_iff_ne, bne_eq_false_iff_eq, Decidable.not_not, Int.not_lt, Int.not_le, Bool.and_eq_true, Bool.and_eq_false_iff, Bool.or_eq_true, Bool.or_eq_false_iff, List.length_map] at hc
      refine xa_exit ?_
      refine xa_seq ?_
      refine xa_region ?_
      refine x_move rfl rfl ?_
      refine x_len_map rfl rfl ?_
      refine x_makeSlice (f := F_Frac) (x0 := (0, 0)) rfl rfl rfl rfl rfl (by simp only [maxL]; omega) (by decide) (fun _ => slot_obj (by exact noRef_map fun _ => rfl)) (fun _ => rfl) ?_
      intro g147
      (refine x_assign_own rfl rfl (by (simp; done)) rfl (fun _ => (slot_obj (by exact noRef_map fun _ => rfl))) (fun _ => rfl) ?_; intro g19)
      refine xr_nil ⟨nofun, [(.t 5, _), (.t 8, _), (.t 11, _), (.t 19, _), (.h 5, _), (.h 8, _), (.h 11, _), (.h 19, _)], ⟨rfl, rfl, rfl, rfl, rfl, rfl, rfl, rfl, rfl, rfl, rfl, rfl, rfl, rfl, rfl, rfl, trivial⟩, ?_⟩
      refine xa_seq ?_
      refine xa_seq ?_
      refine xa_region ?_
      refine x_assign rfl rfl rfl ?_
      refine xr_nil ⟨nofun, [(.t 5, _), (.t 8, _), (.t 11, _), (.t 19, _), (.t 20, _), (.h 5, _), (.h 8, _), (.h 11, _), (.h 19, _)], ⟨rfl, rfl, rfl, rfl, rfl, rfl, rfl, rfl, rfl, rfl, rfl, rfl, rfl, rfl, rfl, rfl, rfl, rfl, trivial⟩, ?_⟩
      refine xa_block ?_
      refine xa_loopK (β := Nat × List (Int × Int)) [(.t 5, _), (.t 8, _), (.t 11, _), (.t 19, _), (.h 5, _), (.h 8, _), (.h 11, _)] (fun (z : Nat × List (Int × Int)) => match z with | (j, out) => [(.t 20, iV j), (.h 19, .obj g19 0 2 (out.map F_Frac))]) (fun (z : Nat × List (Int × Int)) => match z with | (j, out) => j ≤ xs.length ∧ out.length = xs.length ∧ ∀ x, x < j → out.getD (d.getD x default) default = qP (chv bs (xs.getD (d.getD x default) default))) (fun (z : Nat × List (Int × Int)) => match z with | (j, out) => xs.length - j) (0, List.replicate xs.length (0, 0)) ⟨rfl, rfl, rfl, rfl, rfl, rfl, rfl, rfl, rfl, trivial⟩ ⟨Nat.zero_le _, by simp, fun x h => by omega⟩ ?_
      intro z hb
      obtain ⟨j, out⟩ := z
      try dsimp only at hb
      obtain ⟨hj1, hol, hox⟩ := hb
      have hdj := fun h : j < d.length => ho.lt h
      have hkj := hkv j
      refine xa_seq ?_
      refine xa_seq ?_
      refine xa_region ?_
      refine x_move rfl rfl ?_
      refine x_move rfl rfl ?_
      refine x_len_sl rfl rfl ?_
      refine x_lss rfl rfl ?_
      refine xr_nil ⟨nofun, [(.t 5, _), (.t 8, _), (.t 11, _), (.t 19, _), (.t 20, _), (.t 151, _), (.h 5, _), (.h 8, _), (.h 11, _), (.h 19, _)], ⟨rfl, rfl, rfl, rfl, rfl, rfl, rfl, rfl, rfl, rfl, rfl, rfl, rfl, rfl, rfl, rfl, rfl, rfl, rfl, rfl, trivial⟩, ?_⟩
      refine xa_cond rfl (fun hc => ?_) (fun hc => ?_)
      · try simp only [decide_eq_true_eq, decide_eq_false_iff_not, Bool.not_eq_true', Bool.not_eq_false', bne_iff_ne, beq_iff_eq, ne_eq, Bool.not_true, Bool.not_false, beq_eq_false_iff_ne, bne_eq_false_iff_eq, Decidable.not_not, Int.not_lt, Int.not_le, Bool.and_eq_true, Bool.and_eq_false_iff, Bool.or_eq_true, Bool.or_eq_false_iff, List.length_map] at hc
        refine xa_skip ?_
        refine xa_seq ?_
        refine xa_block ?_
        refine xa_region ?_
        refine x_move rfl rfl ?_
        refine x_move rfl rfl ?_
        refine x_move rfl rfl ?_
        refine x_index_slN rfl rfl rfl rfl (by omega) (by (simp; done)) rfl ?_
        refine x_load_mapV rfl rfl (by omega) (fun _ => rfl) (fun _ => rfl) rfl ?_
        refine x_move rfl rfl ?_
        refine x_move rfl rfl ?_
        refine x_move rfl rfl ?_
        refine x_index_slN rfl rfl rfl rfl (by omega) (by (simp; done)) rfl ?_
        refine x_load_mapV rfl rfl (by omega) (fun _ => rfl) (fun _ => rfl) rfl ?_
        refine x_index_slN rfl rfl rfl rfl (by omega) (by (simp; omega)) rfl ?_
        refine x_load_mapV rfl rfl (by omega) (fun _ => rfl) (fun _ => rfl) rfl ?_
        refine x_index_slN rfl rfl rfl rfl (by omega) (by (simp; omega)) rfl ?_
        refine x_store_mapO rfl rfl rfl (by omega) (fun _ _ => ⟨rfl, rfl, of_decide_eq_true rfl, of_decide_eq_true rfl, rfl, rfl⟩) (by decide) (by exact slot_obj (noRef_map fun _ => rfl)) ?_
        refine xr_nil ⟨fun _ => ⟨by decide +kernel, by decide +kernel⟩, [(.t 5, _), (.t 8, _), (.t 11, _), (.t 19, _), (.t 20, _), (.h 5, _), (.h 8, _), (.h 11, _), (.h 19, _)], ⟨rfl, rfl, rfl, rfl, rfl, rfl, rfl, rfl, rfl, rfl, rfl, rfl, rfl, rfl, rfl, rfl, rfl, rfl, trivial⟩, ?_⟩
        refine xa_region ?_
        refine x_move rfl rfl ?_
        refine x_add rfl rfl (inI64 (by omega)) ?_
        refine x_assign rfl rfl rfl ?_
        refine xr_nil ⟨nofun, [(.t 5, _), (.t 8, _), (.t 11, _), (.t 19, _), (.t 20, _), (.h 5, _), (.h 8, _), (.h 11, _), (.h 19, _)], ⟨rfl, rfl, rfl, rfl, rfl, rfl, rfl, rfl, rfl, rfl, rfl, rfl, rfl, rfl, rfl, rfl, rfl, rfl, trivial⟩, ?_⟩
        refine ⟨(j + 1, out.set (d.getD j default) (fit.getD (ks.getD j default) default)), ?_, (by simp only; omega), ⟨rfl, rfl, rfl, rfl, rfl, rfl, rfl, rfl, rfl, trivial⟩⟩
        have hkj2 := hkj (by omega)
        have hfk := hfg (ks.getD j default) (by omega)
        rw [hkj2.2] at hfk
        exact ⟨by omega, by simp [hol], fun x hx => by rw [getD_set _ _ _ _ (by have := hdj (by omega); omega)]; by_cases e : d.getD x default = d.getD j default; (· rw [if_pos e, e, hfk]); (· rw [if_neg e]; exact hox x (by rcases Nat.lt_succ_iff_lt_or_eq.1 hx with h | h; (· exact h); (· subst h; exact absurd rfl e)))⟩
      · try simp only [decide_eq_true_eq, decide_eq_false_iff_not, Bool.not_eq_true', Bool.not_eq_false', bne_iff_ne, beq_iff_eq, ne_eq, Bool.not_true, Bool.not_false, beq_eq_false_iff_ne, bne_eq_false_iff_eq, Decidable.not_not, Int.not_lt, Int.not_le, Bool.and_eq_true, Bool.and_eq_false_iff, Bool.or_eq_true, Bool.or_eq_false_iff, List.length_map] at hc
        refine xa_exit ?_
        refine xa_seq ?_
        refine xa_region ?_
        refine x_move rfl rfl ?_
        (refine x_assign_own rfl rfl (by (simp; omega)) rfl (fun _ => (slot_obj (by exact noRef_map fun _ => rfl))) (fun _ => rfl) ?_; intro g4)
        refine xr_nil ⟨nofun, [(.t 4, _), (.h 4, _)], ⟨rfl, rfl, rfl, rfl, trivial⟩, ?_⟩
        refine xa_ret ?_
        refine ret_own' rfl rfl (by (simp [hol]; done)) (by exact noRef_map fun _ => rfl) trivial ?_
        rw [shares_eq hol (Nat.le_refl _) (fun x h1 _ => by obtain ⟨y, hy1, hy2⟩ := ho.ix h1; rw [← hy2]; exact hox y (by omega))]

theorem keep_s_chancesS : keepOf Try.f32 = [0, 1, 4, 8] := by kernel_rfl
set_option maxHeartbeats 20000000 in
theorem s_chancesS (xs ms : List Int) (hl : xs.length ≤ 1048576) (hl2 : ms.length ≤ 1048576) (bs : List Bk) (hB : Bks xs ms bs) : CW cxT 32 [L xs, L ms] = some (.own 2 ((chQ xs ms bs).map qV), []) := by
  refine fn_intro rfl Try.func32 rfl ⟨by kernel_rfl, rfl, of_decide_eq_true rfl, of_decide_eq_true rfl, by decide⟩ keep_s_chancesS ?_
  refine xa_seq ?_
  refine xa_region ?_
  (refine x_assign_nil rfl rfl (fun _ => rfl) ?_; intro g4)
  refine xr_nil ⟨nofun, [(.t 0, _), (.t 1, _)], ⟨rfl, rfl, rfl, rfl, trivial⟩, ?_⟩
  refine xa_seq ?_
  refine xa_seq ?_
  refine xa_region ?_
  refine x_move rfl rfl ?_
  refine x_move rfl rfl ?_
  apply x_call rfl
  · apply pa_cons
    · exact pa_plain rfl
    apply pa_cons
    · exact pa_plain rfl
    exact pa_nil
  · exact s_validCases xs ms hl hl2
  · exact ⟨rfl, rfl, rfl, of_decide_eq_true rfl, rfl⟩
  · exact .inl rfl
  · exact back_nil
  · exact inst_plain rfl
  · exact fun _ => rfl
  intro g7
  refine x_not rfl ?_
  refine xr_nil ⟨nofun, [(.t 0, _), (.t 1, _), (.t 8, _)], ⟨rfl, rfl, rfl, rfl, rfl, rfl, trivial⟩, ?_⟩
  refine xa_cond rfl (fun hc => ?_) (fun hc => ?_)
  · try simp only [decide_eq_true_eq, decide_eq_false_iff_not, Bool.not_eq_true', Bool.not_eq_false', bne_iff_ne, beq_iff_eq, ne_eq, Bool.not_true, Bool.not_false, beq_eq_false_iff_ne, bne_eq_false_iff_eq, Decidable.not_not, Int.not_lt, Int.not_le, Bool.and_eq_true, Bool.and_eq_false_iff, Bool.or_eq_true, Bool.or_eq_false_iff, List.length_map] at hc
    have hvc : ¬ vca xs ms = true := by simpa using hc
    refine xa_seq ?_
    refine xa_region ?_
    (refine x_assign_nil rfl rfl (fun _ => rfl) ?_; intro g4)
    refine xr_nil ⟨nofun, [(.t 4, _), (.h 4, _)], ⟨rfl, rfl, rfl, rfl, trivial⟩, ?_⟩
    refine xa_ret ?_
    refine ret_own' rfl rfl (by simp) (by rfl) trivial ?_
    rw [chQ, if_neg hvc]
    rfl
  · try simp only [decide_eq_true_eq, decide_eq_false_iff_not, Bool.not_eq_true', Bool.not_eq_false', bne_iff_ne, beq_iff_eq, ne_eq, Bool.not_true, Bool.not_false, beq_eq_false_iff_ne, bne_eq_false_iff_eq, Decidable.not_not, Int.not_lt, Int.not_le, Bool.and_eq_true, Bool.and_eq_false_iff, Bool.or_eq_true, Bool.or_eq_false_iff, List.length_map] at hc
    have hvc : vca xs ms = true := by exact hc
    obtain ⟨h1, hl10, hxb, hml, hmb⟩ := vca_iff.1 hvc
    refine xa_skip ?_
    refine xa_seq ?_
    refine xa_region ?_
    refine x_move rfl rfl ?_
    refine x_move rfl rfl ?_
    apply x_call rfl
    · apply pa_cons
      · exact pa_plain rfl
      apply pa_cons
      · exact pa_plain rfl
      exact pa_nil
    · exact s_fitMarks xs ms h1 hl10 hxb hml hmb bs hB
    · exact ⟨rfl, rfl, rfl, of_decide_eq_true rfl, rfl⟩
    · exact .inl rfl
    · exact back_nil
    · exact inst_own
    · exact fun _ => rfl
    intro g11
    simp only [List.length_map]
    (refine x_assign_own rfl rfl (by (simp; done)) rfl (fun _ => (slot_obj (by exact noRef_map fun _ => rfl))) (fun _ => rfl) ?_; intro g4)
    refine xr_nil ⟨nofun, [(.t 4, _), (.h 4, _)], ⟨rfl, rfl, rfl, rfl, trivial⟩, ?_⟩
    refine xa_ret ?_
    refine ret_own' rfl rfl (by simp) (by exact noRef_map fun _ => rfl) trivial ?_
    rw [chQ, if_pos hvc]

theorem keep_s_equalFracs : keepOf Try.f38 = [0, 1, 4, 10, 5, 14, 25] := by kernel_rfl
set_option maxHeartbeats 20000000 in
theorem s_equalFracs (l : List Rat) (hl : l.length ≤ 1048576) : CW cxT 38 [.list (l.map qV), .list (l.map qV)] = some (bV true, []) := by
  refine fn_intro rfl Try.func38 rfl ⟨by kernel_rfl, rfl, of_decide_eq_true rfl, of_decide_eq_true rfl, by decide⟩ keep_s_equalFracs ?_
  refine xa_seq ?_
  refine xa_region ?_
  refine x_assign rfl rfl rfl ?_
  refine xr_nil ⟨nofun, [(.t 0, _), (.t 1, _)], ⟨rfl, rfl, rfl, rfl, trivial⟩, ?_⟩
  refine xa_seq ?_
  refine xa_seq ?_
  refine xa_region ?_
  refine x_move rfl rfl ?_
  refine x_len_map rfl rfl ?_
  refine x_move rfl rfl ?_
  refine x_len_map rfl rfl ?_
  refine x_neq rfl rfl ?_
  refine xr_nil ⟨nofun, [(.t 0, _), (.t 1, _), (.t 10, _)], ⟨rfl, rfl, rfl, rfl, rfl, rfl, trivial⟩, ?_⟩
  refine xa_cond rfl (fun hc => ?_) (fun hc => ?_)
  · try simp only [decide_eq_true_eq, decide_eq_false_iff_not, Bool.not_eq_true', Bool.not_eq_false', bne_iff_ne, beq_iff_eq, ne_eq, Bool.not_true, Bool.not_false, beq_eq_false_iff_ne, bne_eq_false_iff_eq, Decidable.not_not, Int.not_lt, Int.not_le] at hc
    exact absurd trivial hc
  · try simp only [decide_eq_true_eq, decide_eq_false_iff_not, Bool.not_eq_true', Bool.not_eq_false', bne_iff_ne, beq_iff_eq, ne_eq, Bool.not_true, Bool.not_false, beq_eq_false_iff_ne, bne_eq_false_iff_eq, Decidable.not_not, Int.not_lt, Int.not_le, Bool.and_eq_true, Bool.and_eq_false_iff, Bool.or_eq_true, Bool.or_eq_false_iff, List.length_map] at hc
    refine xa_skip ?_
    refine xa_seq ?_
    refine xa_seq ?_
    refine xa_region ?_
    refine x_assign rfl rfl rfl ?_
    refine xr_nil ⟨nofun, [(.t 0, _), (.t 1, _), (.t 5, _)], ⟨rfl, rfl, rfl, rfl, rfl, rfl, trivial⟩, ?_⟩
    refine xa_block ?_
    refine xa_loopK (β := Nat) [(.t 0, _), (.t 1, _)] (fun (i : Nat) => [(.t 5, iV i)]) (fun (i : Nat) => i ≤ l.length) (fun (i : Nat) => l.length - i) 0 ⟨rfl, rfl, rfl, trivial⟩ (Nat.zero_le _) ?_
    intro i hb
    have hi1 := hb
    refine xa_seq ?_
    refine xa_seq ?_
    refine xa_region ?_
    refine x_move rfl rfl ?_
    refine x_move rfl rfl ?_
    refine x_len_map rfl rfl ?_
    refine x_lss rfl rfl ?_
    refine xr_nil ⟨nofun, [(.t 0, _), (.t 1, _), (.t 5, _), (.t 14, _)], ⟨rfl, rfl, rfl, rfl, rfl, rfl, rfl, rfl, trivial⟩, ?_⟩
    refine xa_cond rfl (fun hc => ?_) (fun hc => ?_)
    · try simp only [decide_eq_true_eq, decide_eq_false_iff_not, Bool.not_eq_true', Bool.not_eq_false', bne_iff_ne, beq_iff_eq, ne_eq, Bool.not_true, Bool.not_false, beq_eq_false_iff_ne, bne_eq_false_iff_eq, Decidable.not_not, Int.not_lt, Int.not_le, Bool.and_eq_true, Bool.and_eq_false_iff, Bool.or_eq_true, Bool.or_eq_false_iff, List.length_map] at hc
      refine xa_skip ?_
      refine xa_seq ?_
      refine xa_block ?_
      refine xa_seq ?_
      refine xa_region ?_
      refine x_move rfl rfl ?_
      refine x_move rfl rfl ?_
      refine x_index_listN rfl rfl rfl (fun _ => rfl) (by omega) ?_
      refine x_load_iptV rfl rfl rfl ?_
      refine x_move rfl rfl ?_
      refine x_move rfl rfl ?_
      refine x_index_listN rfl rfl rfl (fun _ => rfl) (by omega) ?_
      refine x_load_iptV rfl rfl rfl ?_
      refine x_ane rfl rfl (by kernel_rfl) rfl ?_
      refine xr_nil ⟨fun _ => ⟨by decide +kernel, by decide +kernel⟩, [(.t 0, _), (.t 1, _), (.t 5, _), (.t 25, _)], ⟨rfl, rfl, rfl, rfl, rfl, rfl, rfl, rfl, trivial⟩, ?_⟩
      refine xa_cond rfl (fun hc => ?_) (fun hc => ?_)
      · try simp only [decide_eq_true_eq, decide_eq_false_iff_not, Bool.not_eq_true', Bool.not_eq_false', bne_iff_ne, beq_iff_eq, ne_eq, Bool.not_true, Bool.not_false, beq_eq_false_iff_ne, bne_eq_false_iff_eq, Decidable.not_not, Int.not_lt, Int.not_le] at hc
        exact absurd hc (by simp [aggEq, scalarEq])
      · try simp only [decide_eq_true_eq, decide_eq_false_iff_not, Bool.not_eq_true', Bool.not_eq_false', bne_iff_ne, beq_iff_eq, ne_eq, Bool.not_true, Bool.not_false, beq_eq_false_iff_ne, bne_eq_false_iff_eq, Decidable.not_not, Int.not_lt, Int.not_le, Bool.and_eq_true, Bool.and_eq_false_iff, Bool.or_eq_true, Bool.or_eq_false_iff, List.length_map] at hc
        refine xa_skip ?_
        refine xa_region ?_
        refine x_move rfl rfl ?_
        refine x_add rfl rfl (inI64 (by omega)) ?_
        refine x_assign rfl rfl rfl ?_
        refine xr_nil ⟨nofun, [(.t 0, _), (.t 1, _), (.t 5, _)], ⟨rfl, rfl, rfl, rfl, rfl, rfl, trivial⟩, ?_⟩
        refine ⟨i + 1, (by omega), (by omega), ⟨rfl, rfl, rfl, trivial⟩⟩
    · try simp only [decide_eq_true_eq, decide_eq_false_iff_not, Bool.not_eq_true', Bool.not_eq_false', bne_iff_ne, beq_iff_eq, ne_eq, Bool.not_true, Bool.not_false, beq_eq_false_iff_ne, bne_eq_false_iff_eq, Decidable.not_not, Int.not_lt, Int.not_le, Bool.and_eq_true, Bool.and_eq_false_iff, Bool.or_eq_true, Bool.or_eq_false_iff, List.length_map] at hc
      refine xa_exit ?_
      refine xa_seq ?_
      refine xa_region ?_
      refine x_assign rfl rfl rfl ?_
      refine xr_nil ⟨nofun, [(.t 4, _)], ⟨rfl, rfl, trivial⟩, ?_⟩
      refine xa_ret ?_
      refine ret_val' rfl rfl trivial ?_
      rfl
end Go.Proofs.Ythmimfbjoeeggaa

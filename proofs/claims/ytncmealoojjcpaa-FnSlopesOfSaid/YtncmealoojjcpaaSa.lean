/- What each function of the program gives on the abstract machine, part 1 of 1. Conditions: those in front of each theorem. -/
import Derived.Test.YtncmealoojjcpaaMd
import Derived.Test.YtncmealoojjcpaaChecked
import Derived.KernelRfl

set_option linter.unusedVariables false
set_option linter.unusedSimpArgs false
namespace Go.Proofs.Ytncmealoojjcpaa
open Go Go.Mv Go.Proofs
set_option maxRecDepth 100000

def mdT : List (Nat × List Nat) := [(24, [1]), (25, [1]), (55, [3, 3, 3, 3]), (56, [3, 3, 3, 3]), (57, [3, 3, 3, 3]), (64, [3, 3, 3, 3]), (73, [0, 0, 1]), (74, [3, 3, 3, 3]), (86, [3, 3, 3, 3]), (87, [3, 3, 3, 3]), (97, [1]), (98, [2]), (108, [2]), (114, [3, 3, 3, 3]), (120, [1])]
noncomputable def extT : List (Nat × (List AV → Option (AV × List (List AV)))) := [(97, extSortF 83), (119, extClone), (120, extSort)]
noncomputable def cxT : Cx := ⟨Try.prog, mdOf mdT, extOf extT⟩
noncomputable def cxE : Cx := ⟨Try.prog, mdOf mdT, fun _ => none⟩
theorem s_SortF (xs : List Rat) (hl : xs.length ≤ maxL) (hx : ∀ x ∈ xs, Sm 1000000000 x) : CW cxT 97 [.own 2 (xs.map qV), .clo 83 []] = some (.tup [], [(sortQ xs).map qV]) := CW_ext cxT rfl (extSortF_eq _ hl hx)
theorem s_Clone (xs : List Int) (hl : xs.length ≤ maxL) : CW cxT 119 [.list (xs.map iV)] = some (.own 1 (xs.map iV), []) := CW_ext cxT rfl (by simp [extClone, unI_map, hl])
theorem s_Sort (xs : List Int) (hl : xs.length ≤ maxL) : CW cxT 120 [.own 1 (xs.map iV)] = some (.tup [], [(sortI xs).map iV]) := CW_ext cxT rfl (by simp [extSort, unI_map, hl])

theorem keep_s_inRange : keepOf Try.f62 = [0, 1, 2, 6] := by kernel_rfl
set_option maxHeartbeats 20000000 in
theorem s_inRange (n lo hi : Int) : CW cxT 62 [iV n, iV lo, iV hi] = some (bV (decide (lo ≤ n) && decide (n ≤ hi)), []) := by
  refine fn_intro rfl Try.func62 rfl ⟨by kernel_rfl, rfl, of_decide_eq_true rfl, of_decide_eq_true rfl, by decide⟩ keep_s_inRange ?_
  refine xa_seq ?_
  refine xa_region ?_
  refine x_assign rfl rfl rfl ?_
  refine xr_nil ⟨nofun, [(.t 0, _), (.t 1, _), (.t 2, _)], ⟨rfl, rfl, rfl, rfl, rfl, rfl, trivial⟩, ?_⟩
  refine xa_seq ?_
  refine xa_region ?_
  refine x_move rfl rfl ?_
  refine x_move rfl rfl ?_
  refine x_leq rfl rfl ?_
  refine x_move rfl rfl ?_
  refine x_guard_split rfl rfl (fun hg0 => ?_) (fun hg0 => ?_)
  · have hg := hg0; try simp only [decide_eq_true_eq, decide_eq_false_iff_not, Bool.not_eq_true', Bool.not_eq_false', bne_iff_ne, beq_iff_eq, ne_eq, Bool.not_true, Bool.not_false, beq_eq_false_iff_ne, bne_eq_false_iff_eq, Decidable.not_not, Int.not_lt, Int.not_le, Bool.and_eq_true, Bool.and_eq_false_iff, Bool.or_eq_true, Bool.or_eq_false_iff] at hg
    refine x_move rfl rfl ?_
    refine x_guard_t rfl rfl (by assumption) ?_
    refine x_move rfl rfl ?_
    refine x_guard_t rfl rfl (by assumption) ?_
    refine x_leq rfl rfl ?_
    refine x_pick_t rfl (by assumption) rfl rfl ?_
    refine x_assign rfl rfl rfl ?_
    refine xr_nil ⟨nofun, [(.t 6, _)], ⟨rfl, rfl, trivial⟩, ?_⟩
    refine xa_ret ?_
    refine ret_val' rfl rfl trivial ?_
    simp_all [ofConst]; try omega
  · have hg := hg0; try simp only [decide_eq_true_eq, decide_eq_false_iff_not, Bool.not_eq_true', Bool.not_eq_false', bne_iff_ne, beq_iff_eq, ne_eq, Bool.not_true, Bool.not_false, beq_eq_false_iff_ne, bne_eq_false_iff_eq, Decidable.not_not, Int.not_lt, Int.not_le, Bool.and_eq_true, Bool.and_eq_false_iff, Bool.or_eq_true, Bool.or_eq_false_iff] at hg
    refine x_guard_f rfl rfl (by assumption) ?_
    refine x_guard_f rfl rfl (by assumption) ?_
    refine x_pick_f rfl (by assumption) rfl rfl ?_
    refine x_assign rfl rfl rfl ?_
    refine xr_nil ⟨nofun, [(.t 6, _)], ⟨rfl, rfl, trivial⟩, ?_⟩
    refine xa_ret ?_
    refine ret_val' rfl rfl trivial ?_
    simp_all [ofConst]; try omega

theorem keep_s_in : keepOf Try.f88 = [0, 1, 2, 6] := by kernel_rfl
set_option maxHeartbeats 20000000 in
theorem s_in (n lo hi : Int) : CW cxT 88 [iV n, iV lo, iV hi] = some (bV (decide (lo ≤ n) && decide (n ≤ hi)), []) := by
  refine fn_intro rfl Try.func88 rfl ⟨by kernel_rfl, rfl, of_decide_eq_true rfl, of_decide_eq_true rfl, by decide⟩ keep_s_in ?_
  refine xa_seq ?_
  refine xa_region ?_
  refine x_assign rfl rfl rfl ?_
  refine xr_nil ⟨nofun, [(.t 0, _), (.t 1, _), (.t 2, _)], ⟨rfl, rfl, rfl, rfl, rfl, rfl, trivial⟩, ?_⟩
  refine xa_seq ?_
  refine xa_region ?_
  refine x_move rfl rfl ?_
  refine x_move rfl rfl ?_
  refine x_geq rfl rfl ?_
  refine x_move rfl rfl ?_
  refine x_guard_split rfl rfl (fun hg0 => ?_) (fun hg0 => ?_)
  · have hg := hg0; try simp only [decide_eq_true_eq, decide_eq_false_iff_not, Bool.not_eq_true', Bool.not_eq_false', bne_iff_ne, beq_iff_eq, ne_eq, Bool.not_true, Bool.not_false, beq_eq_false_iff_ne, bne_eq_false_iff_eq, Decidable.not_not, Int.not_lt, Int.not_le, Bool.and_eq_true, Bool.and_eq_false_iff, Bool.or_eq_true, Bool.or_eq_false_iff] at hg
    refine x_move rfl rfl ?_
    refine x_guard_t rfl rfl (by assumption) ?_
    refine x_move rfl rfl ?_
    refine x_guard_t rfl rfl (by assumption) ?_
    refine x_leq rfl rfl ?_
    refine x_pick_t rfl (by assumption) rfl rfl ?_
    refine x_assign rfl rfl rfl ?_
    refine xr_nil ⟨nofun, [(.t 6, _)], ⟨rfl, rfl, trivial⟩, ?_⟩
    refine xa_ret ?_
    refine ret_val' rfl rfl trivial ?_
    simp_all [ofConst]; try omega
  · have hg := hg0; try simp only [decide_eq_true_eq, decide_eq_false_iff_not, Bool.not_eq_true', Bool.not_eq_false', bne_iff_ne, beq_iff_eq, ne_eq, Bool.not_true, Bool.not_false, beq_eq_false_iff_ne, bne_eq_false_iff_eq, Decidable.not_not, Int.not_lt, Int.not_le, Bool.and_eq_true, Bool.and_eq_false_iff, Bool.or_eq_true, Bool.or_eq_false_iff] at hg
    refine x_guard_f rfl rfl (by assumption) ?_
    refine x_guard_f rfl rfl (by assumption) ?_
    refine x_pick_f rfl (by assumption) rfl rfl ?_
    refine x_assign rfl rfl rfl ?_
    refine xr_nil ⟨nofun, [(.t 6, _)], ⟨rfl, rfl, trivial⟩, ?_⟩
    refine xa_ret ?_
    refine ret_val' rfl rfl trivial ?_
    simp_all [ofConst]; try omega

theorem keep_s_pick : keepOf Try.f86 = [0, 1, 4, 24, 5, 36, 6] := by kernel_rfl
set_option maxHeartbeats 20000000 in
theorem s_pick (bs : List Int) (p : Int) (hbs : Bytes bs) (hl : bs.length ≤ 1048576) (hp : 0 ≤ p ∧ p ≤ 1000000000) (n : Int) (hn : n ≤ 1000000000) : ∃ res outs, (fun res outs => ∃ k, res = iV k ∧ outs = [[rdr bs (p + 1)]] ∧ (1 ≤ n → 0 ≤ k ∧ k < n) ∧ (n < 1 → k = 0)) res outs ∧ CW cxT 86 [.ownp [rdr bs p] 0 0, iV n] = some (res, outs) := by
  refine fn_introP rfl Try.func86 rfl ⟨by kernel_rfl, rfl, of_decide_eq_true rfl, of_decide_eq_true rfl, by decide⟩ keep_s_pick ?_
  refine xa_seq ?_
  refine xa_region ?_
  refine x_assign rfl rfl rfl ?_
  refine xr_nil ⟨nofun, [(.t 0, _), (.t 1, _), (.h 0, _)], ⟨rfl, rfl, rfl, rfl, rfl, rfl, trivial⟩, ?_⟩
  refine xa_seq ?_
  refine xa_region ?_
  refine x_move rfl rfl ?_
  refine x_move rfl rfl ?_
  refine x_nilCheck rfl rfl rfl ?_
  refine x_fieldAddr rfl rfl (by decide) rfl rfl ?_
  refine x_load_ptrN rfl rfl rfl rfl rfl rfl ?_
  refine x_add rfl rfl (inI64 (by omega)) ?_
  refine x_nilCheck rfl rfl rfl ?_
  refine x_fieldAddr rfl rfl (by decide) rfl rfl ?_
  refine x_store rfl rfl rfl rfl rfl ⟨by decide, rfl, of_decide_eq_true rfl, of_decide_eq_true rfl, rfl⟩ (by exact slot_box4 rfl) ?_
  refine xr_nil ⟨nofun, [(.t 0, _), (.t 1, _), (.h 0, _)], ⟨rfl, rfl, rfl, rfl, rfl, rfl, trivial⟩, ?_⟩
  refine xa_seq ?_
  refine xa_seq ?_
  refine xa_region ?_
  refine x_move rfl rfl ?_
  refine x_lss rfl rfl ?_
  refine x_move rfl rfl ?_
  refine x_guard_split rfl rfl (fun hg0 => ?_) (fun hg0 => ?_)
  · have hg := hg0; try simp only [decide_eq_true_eq, decide_eq_false_iff_not, Bool.not_eq_true', Bool.not_eq_false', bne_iff_ne, beq_iff_eq, ne_eq, Bool.not_true, Bool.not_false, beq_eq_false_iff_ne, bne_eq_false_iff_eq, Decidable.not_not, Int.not_lt, Int.not_le, Bool.and_eq_true, Bool.and_eq_false_iff, Bool.or_eq_true, Bool.or_eq_false_iff] at hg
    refine x_move rfl rfl ?_
    refine x_guard_t rfl rfl (by assumption) ?_
    refine x_nilCheck rfl rfl rfl ?_
    refine x_guard_t rfl rfl (by assumption) ?_
    refine x_fieldAddr rfl rfl (by decide) rfl rfl ?_
    refine x_guard_t rfl rfl (by assumption) ?_
    refine x_load_ptrN rfl rfl rfl rfl rfl rfl ?_
    refine x_guard_t rfl rfl (by assumption) ?_
    refine x_len_map rfl rfl ?_
    refine x_guard_t rfl rfl (by assumption) ?_
    refine x_eql rfl rfl ?_
    refine x_pick_f rfl (by assumption) rfl rfl ?_
    refine xr_nil ⟨nofun, [(.t 0, _), (.t 1, _), (.t 24, _), (.h 0, _)], ⟨rfl, rfl, rfl, rfl, rfl, rfl, rfl, rfl, trivial⟩, ?_⟩
    refine xa_cond rfl (fun hc => ?_) (fun hc => ?_)
    · try simp only [decide_eq_true_eq, decide_eq_false_iff_not, Bool.not_eq_true', Bool.not_eq_false', bne_iff_ne, beq_iff_eq, ne_eq, Bool.not_true, Bool.not_false, beq_eq_false_iff_ne, bne_eq_false_iff_eq, Decidable.not_not, Int.not_lt, Int.not_le, Bool.and_eq_true, Bool.and_eq_false_iff, Bool.or_eq_true, Bool.or_eq_false_iff, List.length_map] at hc
      refine xa_seq ?_
      refine xa_region ?_
      refine x_assign rfl rfl rfl ?_
      refine xr_nil ⟨nofun, [(.t 4, _), (.h 0, _)], ⟨rfl, rfl, rfl, rfl, trivial⟩, ?_⟩
      refine xa_ret ?_
      refine ⟨_, _, ?_, ret_val rfl rfl (outs_one rfl rfl)⟩
      refine ⟨_, rfl, rfl, fun h => ?_, fun h => ?_⟩
      · omega
      · omega
    · try simp only [decide_eq_true_eq, decide_eq_false_iff_not, Bool.not_eq_true', Bool.not_eq_false', bne_iff_ne, beq_iff_eq, ne_eq, Bool.not_true, Bool.not_false, beq_eq_false_iff_ne, bne_eq_false_iff_eq, Decidable.not_not, Int.not_lt, Int.not_le, Bool.and_eq_true, Bool.and_eq_false_iff, Bool.or_eq_true, Bool.or_eq_false_iff, List.length_map] at hc
      refine xa_skip ?_
      refine xa_seq ?_
      refine xa_region ?_
      refine x_move rfl rfl ?_
      refine x_nilCheck rfl rfl rfl ?_
      refine x_fieldAddr rfl rfl (by decide) rfl rfl ?_
      refine x_load_ptrN rfl rfl rfl rfl rfl rfl ?_
      refine x_sub rfl rfl (inI64 (by omega)) ?_
      refine x_assign rfl rfl rfl ?_
      refine xr_nil ⟨nofun, [(.t 0, _), (.t 1, _), (.t 5, _), (.h 0, _)], ⟨rfl, rfl, rfl, rfl, rfl, rfl, rfl, rfl, trivial⟩, ?_⟩
      refine xa_seq ?_
      refine xa_seq ?_
      refine xa_region ?_
      refine x_move rfl rfl ?_
      refine x_move rfl rfl ?_
      refine x_nilCheck rfl rfl rfl ?_
      refine x_fieldAddr rfl rfl (by decide) rfl rfl ?_
      refine x_load_ptrN rfl rfl rfl rfl rfl rfl ?_
      refine x_len_map rfl rfl ?_
      refine x_lss rfl rfl ?_
      refine xr_nil ⟨nofun, [(.t 0, _), (.t 1, _), (.t 5, _), (.t 36, _), (.h 0, _)], ⟨rfl, rfl, rfl, rfl, rfl, rfl, rfl, rfl, rfl, rfl, trivial⟩, ?_⟩
      refine xa_cond rfl (fun hc => ?_) (fun hc => ?_)
      · try simp only [decide_eq_true_eq, decide_eq_false_iff_not, Bool.not_eq_true', Bool.not_eq_false', bne_iff_ne, beq_iff_eq, ne_eq, Bool.not_true, Bool.not_false, beq_eq_false_iff_ne, bne_eq_false_iff_eq, Decidable.not_not, Int.not_lt, Int.not_le, Bool.and_eq_true, Bool.and_eq_false_iff, Bool.or_eq_true, Bool.or_eq_false_iff, List.length_map] at hc
        refine xa_seq ?_
        refine xa_region ?_
        refine x_move rfl rfl ?_
        refine x_nilCheck rfl rfl rfl ?_
        refine x_fieldAddr rfl rfl (by decide) rfl rfl ?_
        refine x_load_ptrN rfl rfl rfl rfl rfl rfl ?_
        refine x_move rfl rfl ?_
        refine x_index_list rfl rfl rfl (fun _ => rfl) (by omega) ?_
        refine x_load_iptV rfl rfl rfl ?_
        refine x_conv rfl rfl rfl (inI64 (by have := hbs.getD (p + 1 - 1).toNat; omega)) ?_
        refine x_move rfl rfl ?_
        have hk := hbs.getD (p + 1 - 1).toNat
        refine x_rem rfl rfl (by omega) ?_
        refine x_assign rfl rfl rfl ?_
        refine xr_nil ⟨nofun, [(.t 4, _), (.h 0, _)], ⟨rfl, rfl, rfl, rfl, trivial⟩, ?_⟩
        refine xa_ret ?_
        refine ⟨_, _, ?_, ret_val rfl rfl (outs_one rfl rfl)⟩
        refine ⟨_, rfl, rfl, fun h => ?_, fun h => ?_⟩
        · exact tmod_in (by omega) (by omega)
        · omega
      · try simp only [decide_eq_true_eq, decide_eq_false_iff_not, Bool.not_eq_true', Bool.not_eq_false', bne_iff_ne, beq_iff_eq, ne_eq, Bool.not_true, Bool.not_false, beq_eq_false_iff_ne, bne_eq_false_iff_eq, Decidable.not_not, Int.not_lt, Int.not_le, Bool.and_eq_true, Bool.and_eq_false_iff, Bool.or_eq_true, Bool.or_eq_false_iff, List.length_map] at hc
        refine xa_skip ?_
        refine xa_seq ?_
        refine xa_region ?_
        refine x_move rfl rfl ?_
        refine x_nilCheck rfl rfl rfl ?_
        refine x_fieldAddr rfl rfl (by decide) rfl rfl ?_
        refine x_load_ptrN rfl rfl rfl rfl rfl rfl ?_
        refine x_move rfl rfl ?_
        refine x_move rfl rfl ?_
        refine x_nilCheck rfl rfl rfl ?_
        refine x_fieldAddr rfl rfl (by decide) rfl rfl ?_
        refine x_load_ptrN rfl rfl rfl rfl rfl rfl ?_
        refine x_len_map rfl rfl ?_
        have hlen : 0 < (bs.length : Int) := by omega
        refine x_rem rfl rfl (by omega) ?_
        have hm1 := tmod_in (a := p + 1 - 1) (by omega) hlen
        refine x_index_list rfl rfl rfl (fun _ => rfl) (by omega) ?_
        refine x_load_iptV rfl rfl rfl ?_
        refine x_conv rfl rfl rfl (inI64 (by have := hbs.getD ((p + 1 - 1).tmod bs.length).toNat; omega)) ?_
        have hk := hbs.getD ((p + 1 - 1).tmod bs.length).toNat
        refine x_mul rfl rfl (inI64 (by omega)) ?_
        refine x_move rfl rfl ?_
        refine x_nilCheck rfl rfl rfl ?_
        refine x_fieldAddr rfl rfl (by decide) rfl rfl ?_
        refine x_load_ptrN rfl rfl rfl rfl rfl rfl ?_
        refine x_move rfl rfl ?_
        refine x_mul rfl rfl (inI64 (by omega)) ?_
        refine x_add rfl rfl (inI64 (by omega)) ?_
        refine x_move rfl rfl ?_
        refine x_nilCheck rfl rfl rfl ?_
        refine x_fieldAddr rfl rfl (by decide) rfl rfl ?_
        refine x_load_ptrN rfl rfl rfl rfl rfl rfl ?_
        refine x_len_map rfl rfl ?_
        refine x_rem rfl rfl (by omega) ?_
        have hm2 := tmod_in (a := (p + 1 - 1) * 7 + 3) (by omega) hlen
        refine x_index_list rfl rfl rfl (fun _ => rfl) (by omega) ?_
        refine x_load_iptV rfl rfl rfl ?_
        refine x_conv rfl rfl rfl (inI64 (by have := hbs.getD (((p + 1 - 1) * 7 + 3).tmod bs.length).toNat; omega)) ?_
        have hk2 := hbs.getD (((p + 1 - 1) * 7 + 3).tmod bs.length).toNat
        refine x_mul rfl rfl (inI64 (by omega)) ?_
        refine x_add rfl rfl (inI64 (by omega)) ?_
        refine x_move rfl rfl ?_
        refine x_mul rfl rfl (inI64 (by omega)) ?_
        refine x_add rfl rfl (inI64 (by omega)) ?_
        refine x_move rfl rfl ?_
        refine x_move rfl rfl ?_
        refine x_nilCheck rfl rfl rfl ?_
        refine x_fieldAddr rfl rfl (by decide) rfl rfl ?_
        refine x_load_ptrN rfl rfl rfl rfl rfl rfl ?_
        refine x_len_map rfl rfl ?_
        have hd := tdiv_in (a := p + 1 - 1) (b := bs.length) (by omega) (by omega)
        refine x_quo rfl rfl ⟨by omega, inI64 (by omega)⟩ ?_
        refine x_mul rfl rfl (inI64 (by omega)) ?_
        refine x_add rfl rfl (inI64 (by omega)) ?_
        refine x_assign rfl rfl rfl ?_
        refine xr_nil ⟨fun _ => ⟨by decide +kernel, by decide +kernel⟩, [(.t 1, _), (.t 6, _), (.h 0, _)], ⟨rfl, rfl, rfl, rfl, rfl, rfl, trivial⟩, ?_⟩
        refine xa_seq ?_
        refine xa_region ?_
        refine x_move rfl rfl ?_
        refine x_move rfl rfl ?_
        have hd2 := tdiv_in (a := (bs.getD ((p + 1 - 1).tmod bs.length).toNat default * 131 + bs.getD (((p + 1 - 1) * 7 + 3).tmod bs.length).toNat default * 1117 + (p + 1 - 1) * 29 + (p + 1 - 1).tdiv bs.length * 53)) (b := 64) (by omega) (by decide)
        refine x_quo rfl rfl ⟨by omega, inI64 (by omega)⟩ ?_
        have hx := xor_in (x := (bs.getD ((p + 1 - 1).tmod bs.length).toNat default * 131 + bs.getD (((p + 1 - 1) * 7 + 3).tmod bs.length).toNat default * 1117 + (p + 1 - 1) * 29 + (p + 1 - 1).tdiv bs.length * 53)) (by omega) (y := (bs.getD ((p + 1 - 1).tmod bs.length).toNat default * 131 + bs.getD (((p + 1 - 1) * 7 + 3).tmod bs.length).toNat default * 1117 + (p + 1 - 1) * 29 + (p + 1 - 1).tdiv bs.length * 53).tdiv 64) (by omega)
        refine x_xor rfl rfl ?_
        refine x_assign rfl rfl rfl ?_
        refine xr_nil ⟨nofun, [(.t 1, _), (.t 6, _), (.h 0, _)], ⟨rfl, rfl, rfl, rfl, rfl, rfl, trivial⟩, ?_⟩
        refine xa_seq ?_
        refine xa_region ?_
        refine x_move rfl rfl ?_
        refine x_move rfl rfl ?_
        refine x_rem rfl rfl (by omega) ?_
        refine x_assign rfl rfl rfl ?_
        refine xr_nil ⟨nofun, [(.t 4, _), (.h 0, _)], ⟨rfl, rfl, rfl, rfl, trivial⟩, ?_⟩
        refine xa_ret ?_
        refine ⟨_, _, ?_, ret_val rfl rfl (outs_one rfl rfl)⟩
        refine ⟨_, rfl, rfl, fun h => ?_, fun h => ?_⟩
        · exact tmod_in (by omega) (by omega)
        · omega
  · have hg := hg0; try simp only [decide_eq_true_eq, decide_eq_false_iff_not, Bool.not_eq_true', Bool.not_eq_false', bne_iff_ne, beq_iff_eq, ne_eq, Bool.not_true, Bool.not_false, beq_eq_false_iff_ne, bne_eq_false_iff_eq, Decidable.not_not, Int.not_lt, Int.not_le, Bool.and_eq_true, Bool.and_eq_false_iff, Bool.or_eq_true, Bool.or_eq_false_iff] at hg
    refine x_guard_f rfl rfl (by assumption) ?_
    refine x_guard_f rfl rfl (by assumption) ?_
    refine x_guard_f rfl rfl (by assumption) ?_
    refine x_guard_f rfl rfl (by assumption) ?_
    refine x_guard_f rfl rfl (by assumption) ?_
    refine x_pick_t rfl (by assumption) rfl rfl ?_
    refine xr_nil ⟨nofun, [(.t 0, _), (.t 1, _), (.t 24, _), (.h 0, _)], ⟨rfl, rfl, rfl, rfl, rfl, rfl, rfl, rfl, trivial⟩, ?_⟩
    refine xa_cond rfl (fun hc => ?_) (fun hc => absurd hc (by decide))
    refine xa_seq ?_
    refine xa_region ?_
    refine x_assign rfl rfl rfl ?_
    refine xr_nil ⟨nofun, [(.t 4, _), (.h 0, _)], ⟨rfl, rfl, rfl, rfl, trivial⟩, ?_⟩
    refine xa_ret ?_
    refine ⟨_, _, ?_, ret_val rfl rfl (outs_one rfl rfl)⟩
    refine ⟨_, rfl, rfl, fun h => ?_, fun h => ?_⟩
    · omega
    · omega

theorem keep_s_one : keepOf Try.f57 = [0, 1, 4] := by kernel_rfl
set_option maxHeartbeats 20000000 in
theorem s_one (bs : List Int) (p : Int) (hbs : Bytes bs) (hl : bs.length ≤ 1048576) (hp : 0 ≤ p ∧ p ≤ 1000000000) (xs : List Int) (hx : 1 ≤ xs.length ∧ xs.length ≤ 1000) : ∃ res outs, (fun res outs => ∃ k, res = iV k ∧ outs = [[rdr bs (p + 1)]] ∧ k ∈ xs) res outs ∧ CW cxT 57 [.ownp [rdr bs p] 0 0, L xs] = some (res, outs) := by
  refine fn_introP rfl Try.func57 rfl ⟨by kernel_rfl, rfl, of_decide_eq_true rfl, of_decide_eq_true rfl, by decide⟩ keep_s_one ?_
  refine xa_seq ?_
  refine xa_region ?_
  refine x_assign rfl rfl rfl ?_
  refine xr_nil ⟨nofun, [(.t 0, _), (.t 1, _), (.h 0, _)], ⟨rfl, rfl, rfl, rfl, rfl, rfl, trivial⟩, ?_⟩
  refine xa_seq ?_
  refine xa_region ?_
  refine x_move rfl rfl ?_
  refine x_move rfl rfl ?_
  refine x_move rfl rfl ?_
  refine x_len_map rfl rfl ?_
  obtain ⟨_, _, ⟨k, rfl, rfl, hk1, hk2⟩, hC⟩ := s_pick bs p hbs hl hp xs.length (by omega)
  have hk1 := hk1 (by omega)
  apply x_call rfl
  · apply pa_cons
    · exact pa_box rfl (by decide) rfl
    apply pa_cons
    · exact pa_plain rfl
    exact pa_nil
  · exact hC
  · exact ⟨rfl, rfl, rfl, of_decide_eq_true rfl, rfl⟩
  · exact .inl rfl
  · exact back_cons rfl rfl rfl back_nil
  · exact inst_plain rfl
  · exact fun _ => rfl
  intro g9
  refine x_index_list rfl rfl rfl (fun _ => rfl) (by omega) ?_
  refine x_load_iptV rfl rfl rfl ?_
  refine x_assign rfl rfl rfl ?_
  refine xr_nil ⟨nofun, [(.t 4, _), (.h 0, _)], ⟨rfl, rfl, rfl, rfl, trivial⟩, ?_⟩
  refine xa_ret ?_
  refine ⟨_, _, ?_, ret_val rfl rfl (outs_one rfl rfl)⟩
  refine ⟨_, rfl, rfl, getD_mem (by omega)⟩

theorem keep_s_newReader : keepOf Try.f55 = [0, 2, 5] := by kernel_rfl
set_option maxHeartbeats 20000000 in
theorem s_newReader (bs : List Int) (hl : bs.length ≤ 1048576) : ∃ res outs, (fun res outs => res = .ownp [rdr (bs.take 2000) 0] 0 0 ∧ outs = []) res outs ∧ CW cxT 55 [.list (bs.map uV)] = some (res, outs) := by
  refine fn_introP rfl Try.func55 rfl ⟨by kernel_rfl, rfl, of_decide_eq_true rfl, of_decide_eq_true rfl, by decide⟩ keep_s_newReader ?_
  refine xa_seq ?_
  refine xa_region ?_
  refine x_assign rfl rfl rfl ?_
  refine xr_nil ⟨nofun, [(.t 0, _)], ⟨rfl, rfl, trivial⟩, ?_⟩
  refine xa_seq ?_
  refine xa_seq ?_
  refine xa_region ?_
  refine x_move rfl rfl ?_
  refine x_len_map rfl rfl ?_
  refine x_gtr rfl rfl ?_
  refine xr_nil ⟨nofun, [(.t 0, _), (.t 5, _)], ⟨rfl, rfl, rfl, rfl, trivial⟩, ?_⟩
  refine xa_cond rfl (fun hc => ?_) (fun hc => ?_)
  · try simp only [decide_eq_true_eq, decide_eq_false_iff_not, Bool.not_eq_true', Bool.not_eq_false', bne_iff_ne, beq_iff_eq, ne_eq, Bool.not_true, Bool.not_false, beq_eq_false_iff_ne, bne_eq_false_iff_eq, Decidable.not_not, Int.not_lt, Int.not_le, Bool.and_eq_true, Bool.and_eq_false_iff, Bool.or_eq_true, Bool.or_eq_false_iff, List.length_map] at hc
    refine xa_region ?_
    refine x_move rfl rfl ?_
    refine x_slice_list rfl rfl rfl (sized_map fun _ => rfl) (optNat_someN rfl) optNat_none (by (simp; omega)) ?_
    refine x_assign rfl rfl rfl ?_
    refine xr_nil ⟨nofun, [(.t 0, _)], ⟨rfl, rfl, trivial⟩, ?_⟩
    refine xa_seq ?_
    refine xa_region ?_
    refine x_move rfl rfl ?_
    refine x_build (fs := [_, _]) rfl rfl rfl rfl rfl ?_
    refine x_box rfl rfl rfl (fun _ => slot_box rfl) (fun _ => rfl) ?_
    intro g10
    (refine x_assign_box rfl rfl rfl rfl (fun _ => slot_box rfl) (fun _ => rfl) ?_; intro g2)
    refine xr_nil ⟨nofun, [(.t 2, _), (.h 2, _)], ⟨rfl, rfl, rfl, rfl, trivial⟩, ?_⟩
    refine xa_ret ?_
    refine ⟨_, _, ?_, ret_box rfl rfl rfl outs_nil⟩
    have e : rdr (bs.take 2000) 0 = .agg [.list ((bs.map uV).take 2000), iV 0] := by unfold rdr; rw [List.map_take]
    rw [e]
    exact ⟨rfl, rfl⟩
  · try simp only [decide_eq_true_eq, decide_eq_false_iff_not, Bool.not_eq_true', Bool.not_eq_false', bne_iff_ne, beq_iff_eq, ne_eq, Bool.not_true, Bool.not_false, beq_eq_false_iff_ne, bne_eq_false_iff_eq, Decidable.not_not, Int.not_lt, Int.not_le, Bool.and_eq_true, Bool.and_eq_false_iff, Bool.or_eq_true, Bool.or_eq_false_iff, List.length_map] at hc
    refine xa_skip ?_
    refine xa_seq ?_
    refine xa_region ?_
    refine x_move rfl rfl ?_
    refine x_build (fs := [_, _]) rfl rfl rfl rfl rfl ?_
    refine x_box rfl rfl rfl (fun _ => slot_box rfl) (fun _ => rfl) ?_
    intro g10
    (refine x_assign_box rfl rfl rfl rfl (fun _ => slot_box rfl) (fun _ => rfl) ?_; intro g2)
    refine xr_nil ⟨nofun, [(.t 2, _), (.h 2, _)], ⟨rfl, rfl, rfl, rfl, trivial⟩, ?_⟩
    refine xa_ret ?_
    refine ⟨_, _, ?_, ret_box rfl rfl rfl outs_nil⟩
    have e : bs.take 2000 = bs := List.take_of_length_le (by omega)
    rw [e]
    exact ⟨rfl, rfl⟩

theorem keep_s_IndexFunc2 : keepOf Try.f134 = [0, 1, 4, 8, 7, 9, 5, 16] := by kernel_rfl
set_option maxHeartbeats 20000000 in
theorem s_IndexFunc2 (xs : List Int) (hl : xs.length ≤ 1000) (k : Nat) (a b : AV) (q : Int → Bool) (hq : ∀ x, CW cxT k [iV x, .ipt a 0, .ipt b 0] = some (bV (q x), [])) : ∃ res outs, (fun res outs => ∃ r : Int, res = iV r ∧ outs = [] ∧ decide (0 ≤ r) = xs.any q) res outs ∧ CW cxT 134 [L xs, .clo k [.ipt a 0, .ipt b 0]] = some (res, outs) := by
  refine fn_introP rfl Try.func134 rfl ⟨by kernel_rfl, rfl, of_decide_eq_true rfl, of_decide_eq_true rfl, by decide⟩ keep_s_IndexFunc2 ?_
  refine xa_seq ?_
  refine xa_region ?_
  refine x_assign rfl rfl rfl ?_
  refine xr_nil ⟨nofun, [(.t 0, _), (.t 1, _)], ⟨rfl, rfl, rfl, rfl, trivial⟩, ?_⟩
  refine xa_seq ?_
  refine xa_seq ?_
  refine xa_region ?_
  refine x_move rfl rfl ?_
  refine x_len_map rfl rfl ?_
  refine x_move rfl rfl ?_
  refine xr_nil ⟨nofun, [(.t 0, _), (.t 1, _), (.t 7, _), (.t 8, _)], ⟨rfl, rfl, rfl, rfl, rfl, rfl, rfl, rfl, trivial⟩, ?_⟩
  refine xa_block ?_
  refine xa_loopK (β := Nat) [(.t 0, _), (.t 1, _), (.t 7, _)] (fun (i : Nat) => [(.t 8, iV i)]) (fun (i : Nat) => i ≤ xs.length ∧ ∀ j, j < i → q (xs.getD j default) = false) (fun (i : Nat) => xs.length - i) 0 ⟨rfl, rfl, rfl, rfl, trivial⟩ ⟨Nat.zero_le _, fun j h => by omega⟩ ?_
  intro i hb
  obtain ⟨hi1, hi2⟩ := hb
  refine xa_seq ?_
  refine xa_region ?_
  refine x_lss rfl rfl ?_
  refine xr_nil ⟨nofun, [(.t 0, _), (.t 1, _), (.t 7, _), (.t 8, _), (.t 9, _)], ⟨rfl, rfl, rfl, rfl, rfl, rfl, rfl, rfl, rfl, rfl, trivial⟩, ?_⟩
  refine xa_seq ?_
  refine xa_cond rfl (fun hc => ?_) (fun hc => ?_)
  · try simp only [decide_eq_true_eq, decide_eq_false_iff_not, Bool.not_eq_true', Bool.not_eq_false', bne_iff_ne, beq_iff_eq, ne_eq, Bool.not_true, Bool.not_false, beq_eq_false_iff_ne, bne_eq_false_iff_eq, Decidable.not_not, Int.not_lt, Int.not_le, Bool.and_eq_true, Bool.and_eq_false_iff, Bool.or_eq_true, Bool.or_eq_false_iff, List.length_map] at hc
    refine xa_skip ?_
    refine xa_seq ?_
    refine xa_block ?_
    refine xa_seq ?_
    refine xa_region ?_
    refine x_move rfl rfl ?_
    refine x_assign rfl rfl rfl ?_
    refine xr_nil ⟨nofun, [(.t 0, _), (.t 1, _), (.t 5, _), (.t 7, _), (.t 8, _)], ⟨rfl, rfl, rfl, rfl, rfl, rfl, rfl, rfl, rfl, rfl, trivial⟩, ?_⟩
    refine xa_seq ?_
    refine xa_region ?_
    refine x_move rfl rfl ?_
    refine x_move rfl rfl ?_
    refine x_move rfl rfl ?_
    refine x_index_listN rfl rfl rfl (fun _ => rfl) (by omega) ?_
    refine x_load_iptV rfl rfl rfl ?_
    apply x_callV rfl rfl
    · apply pa_cons
      · exact pa_plain rfl
      apply pa_cons
      · exact pa_plain rfl
      apply pa_cons
      · exact pa_plain rfl
      exact pa_nil
    · exact hq (xs.getD i default)
    · exact ⟨rfl, rfl, rfl, of_decide_eq_true rfl, rfl⟩
    · exact .inl rfl
    · exact back_nil
    · exact inst_plain rfl
    · exact fun _ => rfl
    intro g16
    refine xr_nil ⟨nofun, [(.t 0, _), (.t 1, _), (.t 5, _), (.t 7, _), (.t 8, _), (.t 16, _)], ⟨rfl, rfl, rfl, rfl, rfl, rfl, rfl, rfl, rfl, rfl, rfl, rfl, trivial⟩, ?_⟩
    refine xa_cond rfl (fun hc => ?_) (fun hc => ?_)
    · try simp only [decide_eq_true_eq, decide_eq_false_iff_not, Bool.not_eq_true', Bool.not_eq_false', bne_iff_ne, beq_iff_eq, ne_eq, Bool.not_true, Bool.not_false, beq_eq_false_iff_ne, bne_eq_false_iff_eq, Decidable.not_not, Int.not_lt, Int.not_le, Bool.and_eq_true, Bool.and_eq_false_iff, Bool.or_eq_true, Bool.or_eq_false_iff, List.length_map] at hc
      refine xa_seq ?_
      refine xa_region ?_
      refine x_move rfl rfl ?_
      refine x_assign rfl rfl rfl ?_
      refine xr_nil ⟨nofun, [(.t 4, _)], ⟨rfl, rfl, trivial⟩, ?_⟩
      refine xa_ret ?_
      refine ⟨_, _, ?_, ret_val rfl rfl outs_nil⟩
      exact ⟨_, rfl, rfl, any_hit (by omega) hc⟩
    · try simp only [decide_eq_true_eq, decide_eq_false_iff_not, Bool.not_eq_true', Bool.not_eq_false', bne_iff_ne, beq_iff_eq, ne_eq, Bool.not_true, Bool.not_false, beq_eq_false_iff_ne, bne_eq_false_iff_eq, Decidable.not_not, Int.not_lt, Int.not_le, Bool.and_eq_true, Bool.and_eq_false_iff, Bool.or_eq_true, Bool.or_eq_false_iff, List.length_map] at hc
      refine xa_skip ?_
      refine xa_region ?_
      refine x_add rfl rfl (inI64 (by omega)) ?_
      refine x_move rfl rfl ?_
      refine xr_nil ⟨nofun, [(.t 0, _), (.t 1, _), (.t 7, _), (.t 8, _)], ⟨rfl, rfl, rfl, rfl, rfl, rfl, rfl, rfl, trivial⟩, ?_⟩
      refine ⟨i + 1, ⟨by omega, fun a ha => by rcases Nat.lt_succ_iff_lt_or_eq.1 ha with h | h; exact hi2 a h; subst h; exact hc⟩, (by omega), ⟨rfl, rfl, rfl, rfl, trivial⟩⟩
  · try simp only [decide_eq_true_eq, decide_eq_false_iff_not, Bool.not_eq_true', Bool.not_eq_false', bne_iff_ne, beq_iff_eq, ne_eq, Bool.not_true, Bool.not_false, beq_eq_false_iff_ne, bne_eq_false_iff_eq, Decidable.not_not, Int.not_lt, Int.not_le, Bool.and_eq_true, Bool.and_eq_false_iff, Bool.or_eq_true, Bool.or_eq_false_iff, List.length_map] at hc
    refine xa_exit ?_
    refine xa_seq ?_
    refine xa_region ?_
    refine x_assign rfl rfl rfl ?_
    refine xr_nil ⟨nofun, [(.t 4, _)], ⟨rfl, rfl, trivial⟩, ?_⟩
    refine xa_ret ?_
    refine ⟨_, _, ?_, ret_val rfl rfl outs_nil⟩
    exact ⟨-1, rfl, rfl, any_miss fun j hj => hi2 j (by omega)⟩

theorem keep_s_ContainsFunc2 : keepOf Try.f121 = [0, 1, 4] := by kernel_rfl
set_option maxHeartbeats 20000000 in
theorem s_ContainsFunc2 (xs : List Int) (hl : xs.length ≤ 1000) (k : Nat) (a b : AV) (q : Int → Bool) (hq : ∀ x, CW cxT k [iV x, .ipt a 0, .ipt b 0] = some (bV (q x), [])) : CW cxT 121 [L xs, .clo k [.ipt a 0, .ipt b 0]] = some (bV (xs.any q), []) := by
  obtain ⟨_, _, ⟨r, rfl, rfl, hr⟩, hC⟩ := s_IndexFunc2 xs hl k a b q hq
  refine fn_intro rfl Try.func121 rfl ⟨by kernel_rfl, rfl, of_decide_eq_true rfl, of_decide_eq_true rfl, by decide⟩ keep_s_ContainsFunc2 ?_
  refine xa_seq ?_
  refine xa_region ?_
  refine x_assign rfl rfl rfl ?_
  refine xr_nil ⟨nofun, [(.t 0, _), (.t 1, _)], ⟨rfl, rfl, rfl, rfl, trivial⟩, ?_⟩
  refine xa_seq ?_
  refine xa_region ?_
  refine x_move rfl rfl ?_
  refine x_move rfl rfl ?_
  apply x_call rfl
  · apply pa_cons
    · exact pa_plain rfl
    apply pa_cons
    · exact pa_clo rfl (pc_ipt (pc_ipt pc_nil))
    exact pa_nil
  · exact hC
  · exact ⟨rfl, rfl, rfl, of_decide_eq_true rfl, rfl⟩
  · exact .inl rfl
  · exact back_nil
  · exact inst_plain rfl
  · exact fun _ => rfl
  intro g7
  refine x_geq rfl rfl ?_
  refine x_assign rfl rfl rfl ?_
  refine xr_nil ⟨nofun, [(.t 4, _)], ⟨rfl, rfl, trivial⟩, ?_⟩
  refine xa_ret ?_
  refine ret_val' rfl rfl trivial ?_
  rw [← hr]

theorem keep_s_allIn1 : keepOf Try.f122 = [0, 1, 2, 4] := by kernel_rfl
set_option maxHeartbeats 20000000 in
theorem s_allIn1 (x lo hi : Int) : CW cxT 122 [iV x, .ipt (iV lo) 0, .ipt (iV hi) 0] = some (bV (!(decide (lo ≤ x) && decide (x ≤ hi))), []) := by
  refine fn_intro rfl Try.func122 rfl ⟨by kernel_rfl, rfl, of_decide_eq_true rfl, of_decide_eq_true rfl, by decide⟩ keep_s_allIn1 ?_
  refine xa_seq ?_
  refine xa_region ?_
  refine x_assign rfl rfl rfl ?_
  refine xr_nil ⟨nofun, [(.t 0, _), (.t 1, _), (.t 2, _)], ⟨rfl, rfl, rfl, rfl, rfl, rfl, trivial⟩, ?_⟩
  refine xa_seq ?_
  refine xa_region ?_
  refine x_move rfl rfl ?_
  refine x_load_iptV rfl rfl rfl ?_
  refine x_load_iptV rfl rfl rfl ?_
  apply x_call rfl
  · apply pa_cons
    · exact pa_plain rfl
    apply pa_cons
    · exact pa_plain rfl
    apply pa_cons
    · exact pa_plain rfl
    exact pa_nil
  · exact s_in _ _ _
  · exact ⟨rfl, rfl, rfl, of_decide_eq_true rfl, rfl⟩
  · exact .inl rfl
  · exact back_nil
  · exact inst_plain rfl
  · exact fun _ => rfl
  intro g8
  refine x_not rfl ?_
  refine x_assign rfl rfl rfl ?_
  refine xr_nil ⟨nofun, [(.t 4, _)], ⟨rfl, rfl, trivial⟩, ?_⟩
  refine xa_ret ?_
  refine ret_val' rfl rfl trivial ?_
  rfl

theorem keep_s_allIn : keepOf Try.f115 = [0, 1, 2, 6, 4, 5] := by kernel_rfl
set_option maxHeartbeats 20000000 in
theorem s_allIn (xs : List Int) (hl : xs.length ≤ 1000) (lo hi : Int) : CW cxT 115 [L xs, iV lo, iV hi] = some (bV (allB lo hi xs), []) := by
  refine fn_intro rfl Try.func115 rfl ⟨by kernel_rfl, rfl, of_decide_eq_true rfl, of_decide_eq_true rfl, by decide⟩ keep_s_allIn ?_
  refine xa_seq ?_
  refine xa_region ?_
  refine x_box rfl rfl rfl (fun _ => slot_box rfl) (fun _ => rfl) ?_
  intro g4
  refine x_box rfl rfl rfl (fun _ => slot_box rfl) (fun _ => rfl) ?_
  intro g5
  refine x_assign rfl rfl rfl ?_
  refine xr_nil ⟨nofun, [(.t 0, _), (.t 4, _), (.t 5, _), (.h 4, _), (.h 5, _)], ⟨rfl, rfl, rfl, rfl, rfl, rfl, rfl, rfl, rfl, rfl, trivial⟩, ?_⟩
  refine xa_seq ?_
  refine xa_region ?_
  refine x_move rfl rfl ?_
  refine x_makeFunc rfl rfl ?_
  apply x_call rfl
  · apply pa_cons
    · exact pa_plain rfl
    apply pa_cons
    · exact pa_clo rfl (pc_box rfl rfl (pc_box rfl rfl pc_nil))
    exact pa_nil
  · exact s_ContainsFunc2 xs hl 122 (iV lo) (iV hi) _ (fun x => s_allIn1 x lo hi)
  · exact ⟨rfl, rfl, rfl, of_decide_eq_true rfl, rfl⟩
  · exact .inr ⟨rfl, rfl⟩
  · exact back_nil
  · exact inst_plain rfl
  · exact fun _ => rfl
  intro g9
  refine x_not rfl ?_
  refine x_assign rfl rfl rfl ?_
  refine xr_nil ⟨nofun, [(.t 6, _)], ⟨rfl, rfl, trivial⟩, ?_⟩
  refine xa_ret ?_
  refine ret_val' rfl rfl trivial ?_
  exact congrArg bV (allB_any lo hi xs)

theorem keep_s_gcdS : keepOf Try.f93 = [0, 1, 4, 7, 5] := by kernel_rfl
set_option maxHeartbeats 20000000 in
theorem s_gcdS (a b : Int) (ha : -4611686018427387904 ≤ a ∧ a ≤ 4611686018427387904) (hb : -4611686018427387904 ≤ b ∧ b ≤ 4611686018427387904) : CW cxT 93 [iV a, iV b] = some (iV (Int.gcd a b : Int), []) := by
  refine fn_intro rfl Try.func93 rfl ⟨by kernel_rfl, rfl, of_decide_eq_true rfl, of_decide_eq_true rfl, by decide⟩ keep_s_gcdS ?_
  refine xa_seq ?_
  refine xa_region ?_
  refine x_assign rfl rfl rfl ?_
  refine xr_nil ⟨nofun, [(.t 0, _), (.t 1, _)], ⟨rfl, rfl, rfl, rfl, trivial⟩, ?_⟩
  refine xa_seq ?_
  refine xa_block ?_
  refine xa_loop (β := Int × Int) (fun (z : Int × Int) => match z with | (x, y) => [(.t 0, iV x), (.t 1, iV y)]) (fun (z : Int × Int) => match z with | (x, y) => Int.gcd x y = Int.gcd a b ∧ (-4611686018427387904 ≤ x ∧ x ≤ 4611686018427387904) ∧ (-4611686018427387904 ≤ y ∧ y ≤ 4611686018427387904)) (fun (z : Int × Int) => match z with | (x, y) => y.natAbs) (a, b) ⟨rfl, rfl, trivial⟩ ⟨rfl, ha, hb⟩ ?_
  intro z hb
  obtain ⟨x, y⟩ := z
  try dsimp only at hb
  obtain ⟨hg, hx, hy⟩ := hb
  refine xa_seq ?_
  refine xa_seq ?_
  refine xa_region ?_
  refine x_move rfl rfl ?_
  refine x_neq rfl rfl ?_
  refine xr_nil ⟨nofun, [(.t 0, _), (.t 1, _), (.t 7, _)], ⟨rfl, rfl, rfl, rfl, rfl, rfl, trivial⟩, ?_⟩
  refine xa_cond rfl (fun hc => ?_) (fun hc => ?_)
  · try simp only [decide_eq_true_eq, decide_eq_false_iff_not, Bool.not_eq_true', Bool.not_eq_false', bne_iff_ne, beq_iff_eq, ne_eq, Bool.not_true, Bool.not_false, beq_eq_false_iff_ne, bne_eq_false_iff_eq, Decidable.not_not, Int.not_lt, Int.not_le, Bool.and_eq_true, Bool.and_eq_false_iff, Bool.or_eq_true, Bool.or_eq_false_iff, List.length_map] at hc
    refine xa_skip ?_
    refine xa_block ?_
    refine xa_seq ?_
    refine xa_region ?_
    refine x_move rfl rfl ?_
    refine x_move rfl rfl ?_
    refine x_rem rfl rfl (by omega) ?_
    refine x_assign rfl rfl rfl ?_
    refine xr_nil ⟨nofun, [(.t 1, _), (.t 5, _)], ⟨rfl, rfl, rfl, rfl, trivial⟩, ?_⟩
    refine xa_seq ?_
    refine xa_region ?_
    refine x_move rfl rfl ?_
    refine x_assign rfl rfl rfl ?_
    refine xr_nil ⟨nofun, [(.t 0, _), (.t 5, _)], ⟨rfl, rfl, rfl, rfl, trivial⟩, ?_⟩
    refine xa_region ?_
    refine x_move rfl rfl ?_
    refine x_assign rfl rfl rfl ?_
    refine xr_nil ⟨nofun, [(.t 0, _), (.t 1, _)], ⟨rfl, rfl, rfl, rfl, trivial⟩, ?_⟩
    refine ⟨(y, x.tmod y), ⟨by rw [gcd_step]; exact hg, hy, by have := tmod_bd x y; omega⟩, (by have := tmod_lt x hc; simp only; omega), ⟨rfl, rfl, trivial⟩⟩
  · try simp only [decide_eq_true_eq, decide_eq_false_iff_not, Bool.not_eq_true', Bool.not_eq_false', bne_iff_ne, beq_iff_eq, ne_eq, Bool.not_true, Bool.not_false, beq_eq_false_iff_ne, bne_eq_false_iff_eq, Decidable.not_not, Int.not_lt, Int.not_le, Bool.and_eq_true, Bool.and_eq_false_iff, Bool.or_eq_true, Bool.or_eq_false_iff, List.length_map] at hc
    refine xa_exit ?_
    refine xa_seq ?_
    refine xa_region ?_
    refine x_move rfl rfl ?_
    refine x_move rfl rfl ?_
    refine x_neg rfl (inI64 (by omega)) ?_
    refine x_max rfl rfl ?_
    refine x_assign rfl rfl rfl ?_
    refine xr_nil ⟨nofun, [(.t 4, _)], ⟨rfl, rfl, trivial⟩, ?_⟩
    refine xa_ret ?_
    refine ret_val' rfl rfl trivial ?_
    subst hc
    rw [gcd_end, hg]

theorem keep_s_gcdI : keepOf Try.f99 = [0, 1, 4, 6] := by kernel_rfl
set_option maxHeartbeats 20000000 in
theorem s_gcdI (a b : Int) (ha : -4611686018427387904 ≤ a ∧ a ≤ 4611686018427387904) (hb : -4611686018427387904 ≤ b ∧ b ≤ 4611686018427387904) : CW cxT 99 [iV a, iV b] = some (iV (Int.gcd a b : Int), []) := by
  refine fn_intro rfl Try.func99 rfl ⟨by kernel_rfl, rfl, of_decide_eq_true rfl, of_decide_eq_true rfl, by decide⟩ keep_s_gcdI ?_
  refine xa_seq ?_
  refine xa_region ?_
  refine x_assign rfl rfl rfl ?_
  refine xr_nil ⟨nofun, [(.t 0, _), (.t 1, _)], ⟨rfl, rfl, rfl, rfl, trivial⟩, ?_⟩
  refine xa_seq ?_
  refine xa_block ?_
  refine xa_loop (β := Int × Int) (fun (z : Int × Int) => match z with | (x, y) => [(.t 0, iV x), (.t 1, iV y)]) (fun (z : Int × Int) => match z with | (x, y) => Int.gcd x y = Int.gcd a b ∧ (-4611686018427387904 ≤ x ∧ x ≤ 4611686018427387904) ∧ (-4611686018427387904 ≤ y ∧ y ≤ 4611686018427387904)) (fun (z : Int × Int) => match z with | (x, y) => y.natAbs) (a, b) ⟨rfl, rfl, trivial⟩ ⟨rfl, ha, hb⟩ ?_
  intro z hb
  obtain ⟨x, y⟩ := z
  try dsimp only at hb
  obtain ⟨hg, hx, hy⟩ := hb
  refine xa_seq ?_
  refine xa_seq ?_
  refine xa_region ?_
  refine x_move rfl rfl ?_
  refine x_neq rfl rfl ?_
  refine xr_nil ⟨nofun, [(.t 0, _), (.t 1, _), (.t 6, _)], ⟨rfl, rfl, rfl, rfl, rfl, rfl, trivial⟩, ?_⟩
  refine xa_cond rfl (fun hc => ?_) (fun hc => ?_)
  · try simp only [decide_eq_true_eq, decide_eq_false_iff_not, Bool.not_eq_true', Bool.not_eq_false', bne_iff_ne, beq_iff_eq, ne_eq, Bool.not_true, Bool.not_false, beq_eq_false_iff_ne, bne_eq_false_iff_eq, Decidable.not_not, Int.not_lt, Int.not_le, Bool.and_eq_true, Bool.and_eq_false_iff, Bool.or_eq_true, Bool.or_eq_false_iff, List.length_map] at hc
    refine xa_skip ?_
    refine xa_block ?_
    refine xa_region ?_
    refine x_move rfl rfl ?_
    refine x_move rfl rfl ?_
    refine x_move rfl rfl ?_
    refine x_rem rfl rfl (by omega) ?_
    refine x_assign rfl rfl rfl ?_
    refine x_assign rfl rfl rfl ?_
    refine xr_nil ⟨fun _ => ⟨by decide +kernel, by decide +kernel⟩, [(.t 0, _), (.t 1, _)], ⟨rfl, rfl, rfl, rfl, trivial⟩, ?_⟩
    refine ⟨(y, x.tmod y), ⟨by rw [gcd_step]; exact hg, hy, by have := tmod_bd x y; omega⟩, (by have := tmod_lt x hc; simp only; omega), ⟨rfl, rfl, trivial⟩⟩
  · try simp only [decide_eq_true_eq, decide_eq_false_iff_not, Bool.not_eq_true', Bool.not_eq_false', bne_iff_ne, beq_iff_eq, ne_eq, Bool.not_true, Bool.not_false, beq_eq_false_iff_ne, bne_eq_false_iff_eq, Decidable.not_not, Int.not_lt, Int.not_le, Bool.and_eq_true, Bool.and_eq_false_iff, Bool.or_eq_true, Bool.or_eq_false_iff, List.length_map] at hc
    refine xa_exit ?_
    refine xa_seq ?_
    refine xa_region ?_
    refine x_move rfl rfl ?_
    refine x_move rfl rfl ?_
    refine x_neg rfl (inI64 (by omega)) ?_
    refine x_max rfl rfl ?_
    refine x_assign rfl rfl rfl ?_
    refine xr_nil ⟨nofun, [(.t 4, _)], ⟨rfl, rfl, trivial⟩, ?_⟩
    refine xa_ret ?_
    refine ret_val' rfl rfl trivial ?_
    subst hc
    rw [gcd_end, hg]

theorem keep_s_fracS : keepOf Try.f50 = [0, 1, 4, 7, 5] := by kernel_rfl
set_option maxHeartbeats 20000000 in
theorem s_fracS (u d : Int) (hu : -4611686018427387904 ≤ u ∧ u ≤ 4611686018427387904) (hd : -4611686018427387904 ≤ d ∧ d ≤ 4611686018427387904) (h0 : d ≠ 0) : CW cxT 50 [iV u, iV d] = some (qV (Rat.divInt u d), []) := by
  refine fn_intro rfl Try.func50 rfl ⟨by kernel_rfl, rfl, of_decide_eq_true rfl, of_decide_eq_true rfl, by decide⟩ keep_s_fracS ?_
  refine xa_seq ?_
  refine xa_region ?_
  refine x_alloc rfl (fun _ => slot_box rfl) (fun _ => rfl) ?_
  intro g4
  refine xr_nil ⟨nofun, [(.t 0, _), (.t 1, _), (.t 4, _), (.h 4, _)], ⟨rfl, rfl, rfl, rfl, rfl, rfl, rfl, rfl, trivial⟩, ?_⟩
  refine xa_seq ?_
  refine xa_seq ?_
  refine xa_region ?_
  refine x_move rfl rfl ?_
  refine x_lss rfl rfl ?_
  refine xr_nil ⟨nofun, [(.t 0, _), (.t 1, _), (.t 4, _), (.t 7, _), (.h 4, _)], ⟨rfl, rfl, rfl, rfl, rfl, rfl, rfl, rfl, rfl, rfl, trivial⟩, ?_⟩
  refine xa_cond rfl (fun hc => ?_) (fun hc => ?_)
  · try simp only [decide_eq_true_eq, decide_eq_false_iff_not, Bool.not_eq_true', Bool.not_eq_false', bne_iff_ne, beq_iff_eq, ne_eq, Bool.not_true, Bool.not_false, beq_eq_false_iff_ne, bne_eq_false_iff_eq, Decidable.not_not, Int.not_lt, Int.not_le, Bool.and_eq_true, Bool.and_eq_false_iff, Bool.or_eq_true, Bool.or_eq_false_iff, List.length_map] at hc
    refine xa_seq ?_
    refine xa_region ?_
    refine x_move rfl rfl ?_
    refine x_neg rfl (inI64 (by omega)) ?_
    refine x_assign rfl rfl rfl ?_
    refine xr_nil ⟨nofun, [(.t 0, _), (.t 1, _), (.t 4, _), (.h 4, _)], ⟨rfl, rfl, rfl, rfl, rfl, rfl, rfl, rfl, trivial⟩, ?_⟩
    refine xa_region ?_
    refine x_move rfl rfl ?_
    refine x_neg rfl (inI64 (by omega)) ?_
    refine x_assign rfl rfl rfl ?_
    refine xr_nil ⟨nofun, [(.t 0, _), (.t 1, _), (.t 4, _), (.h 4, _)], ⟨rfl, rfl, rfl, rfl, rfl, rfl, rfl, rfl, trivial⟩, ?_⟩
    refine xa_seq ?_
    refine xa_region ?_
    refine x_move rfl rfl ?_
    refine x_move rfl rfl ?_
    apply x_call rfl
    · apply pa_cons
      · exact pa_plain rfl
      apply pa_cons
      · exact pa_plain rfl
      exact pa_nil
    · exact (by exact s_gcdS (-u) (-d) (by omega) (by omega))
    · exact ⟨rfl, rfl, rfl, of_decide_eq_true rfl, rfl⟩
    · exact .inl rfl
    · exact back_nil
    · exact inst_plain rfl
    · exact fun _ => rfl
    intro g14
    refine x_assign rfl rfl rfl ?_
    refine xr_nil ⟨nofun, [(.t 0, _), (.t 1, _), (.t 4, _), (.t 5, _), (.h 4, _)], ⟨rfl, rfl, rfl, rfl, rfl, rfl, rfl, rfl, rfl, rfl, trivial⟩, ?_⟩
    refine xa_seq ?_
    refine xa_region ?_
    refine x_move rfl rfl ?_
    refine x_move rfl rfl ?_
    (have hf := fr_pos (u := -u) (d := -d) (by omega); have hbd := fr_bd (u := -u) (d := -d) (by omega); have hgp := gcd_posI (u := -u) (d := -d) (by omega))
    refine x_quo rfl rfl ⟨by omega, inI64 (by rw [← hf.1]; omega)⟩ ?_
    refine x_move rfl rfl ?_
    refine x_move rfl rfl ?_
    refine x_quo rfl rfl ⟨by omega, inI64 (by rw [← hf.2]; omega)⟩ ?_
    refine x_build (fs := [_, _]) rfl rfl rfl rfl rfl ?_
    refine x_store_boxV rfl rfl rfl rfl ⟨by decide, rfl, of_decide_eq_true rfl, of_decide_eq_true rfl, rfl⟩ rfl (by exact slot_box rfl) ?_
    refine xr_nil ⟨fun _ => ⟨by decide +kernel, by decide +kernel⟩, [(.t 4, _), (.h 4, _)], ⟨rfl, rfl, rfl, rfl, trivial⟩, ?_⟩
    refine xa_ret ?_
    refine ret_tup (rl_cell rfl rfl rfl rfl rfl (rl_nil outs_nil)) ?_
    rw [← hf.1, ← hf.2]
    (rw [Rat.neg_divInt_neg]; rfl)
  · try simp only [decide_eq_true_eq, decide_eq_false_iff_not, Bool.not_eq_true', Bool.not_eq_false', bne_iff_ne, beq_iff_eq, ne_eq, Bool.not_true, Bool.not_false, beq_eq_false_iff_ne, bne_eq_false_iff_eq, Decidable.not_not, Int.not_lt, Int.not_le, Bool.and_eq_true, Bool.and_eq_false_iff, Bool.or_eq_true, Bool.or_eq_false_iff, List.length_map] at hc
    refine xa_skip ?_
    refine xa_seq ?_
    refine xa_region ?_
    refine x_move rfl rfl ?_
    refine x_move rfl rfl ?_
    apply x_call rfl
    · apply pa_cons
      · exact pa_plain rfl
      apply pa_cons
      · exact pa_plain rfl
      exact pa_nil
    · exact (by exact s_gcdS u d hu hd)
    · exact ⟨rfl, rfl, rfl, of_decide_eq_true rfl, rfl⟩
    · exact .inl rfl
    · exact back_nil
    · exact inst_plain rfl
    · exact fun _ => rfl
    intro g14
    refine x_assign rfl rfl rfl ?_
    refine xr_nil ⟨nofun, [(.t 0, _), (.t 1, _), (.t 4, _), (.t 5, _), (.h 4, _)], ⟨rfl, rfl, rfl, rfl, rfl, rfl, rfl, rfl, rfl, rfl, trivial⟩, ?_⟩
    refine xa_seq ?_
    refine xa_region ?_
    refine x_move rfl rfl ?_
    refine x_move rfl rfl ?_
    (have hf := fr_pos (u := u) (d := d) (by omega); have hbd := fr_bd (u := u) (d := d) (by omega); have hgp := gcd_posI (u := u) (d := d) (by omega))
    refine x_quo rfl rfl ⟨by omega, inI64 (by rw [← hf.1]; omega)⟩ ?_
    refine x_move rfl rfl ?_
    refine x_move rfl rfl ?_
    refine x_quo rfl rfl ⟨by omega, inI64 (by rw [← hf.2]; omega)⟩ ?_
    refine x_build (fs := [_, _]) rfl rfl rfl rfl rfl ?_
    refine x_store_boxV rfl rfl rfl rfl ⟨by decide, rfl, of_decide_eq_true rfl, of_decide_eq_true rfl, rfl⟩ rfl (by exact slot_box rfl) ?_
    refine xr_nil ⟨fun _ => ⟨by decide +kernel, by decide +kernel⟩, [(.t 4, _), (.h 4, _)], ⟨rfl, rfl, rfl, rfl, trivial⟩, ?_⟩
    refine xa_ret ?_
    refine ret_tup (rl_cell rfl rfl rfl rfl rfl (rl_nil outs_nil)) ?_
    rw [← hf.1, ← hf.2]
    rfl

theorem keep_s_fracI : keepOf Try.f100 = [0, 1, 4, 10, 5] := by kernel_rfl
set_option maxHeartbeats 20000000 in
theorem s_fracI (u d : Int) (hu : -4611686018427387904 ≤ u ∧ u ≤ 4611686018427387904) (hd : -4611686018427387904 ≤ d ∧ d ≤ 4611686018427387904) (h0 : d ≠ 0) : CW cxT 100 [iV u, iV d] = some (qV (Rat.divInt u d), []) := by
  have hbd := fr_bd (u := u) h0
  have hgp := gcd_posI (u := u) h0
  have hgl := gcd_leI (u := u) h0
  refine fn_intro rfl Try.func100 rfl ⟨by kernel_rfl, rfl, of_decide_eq_true rfl, of_decide_eq_true rfl, by decide⟩ keep_s_fracI ?_
  refine xa_seq ?_
  refine xa_region ?_
  refine x_alloc rfl (fun _ => slot_box rfl) (fun _ => rfl) ?_
  intro g4
  refine xr_nil ⟨nofun, [(.t 0, _), (.t 1, _), (.t 4, _), (.h 4, _)], ⟨rfl, rfl, rfl, rfl, rfl, rfl, rfl, rfl, trivial⟩, ?_⟩
  refine xa_seq ?_
  refine xa_region ?_
  refine x_move rfl rfl ?_
  refine x_move rfl rfl ?_
  apply x_call rfl
  · apply pa_cons
    · exact pa_plain rfl
    apply pa_cons
    · exact pa_plain rfl
    exact pa_nil
  · exact s_gcdI u d hu hd
  · exact ⟨rfl, rfl, rfl, of_decide_eq_true rfl, rfl⟩
  · exact .inl rfl
  · exact back_nil
  · exact inst_plain rfl
  · exact fun _ => rfl
  intro g8
  refine x_assign rfl rfl rfl ?_
  refine xr_nil ⟨nofun, [(.t 0, _), (.t 1, _), (.t 4, _), (.t 5, _), (.h 4, _)], ⟨rfl, rfl, rfl, rfl, rfl, rfl, rfl, rfl, rfl, rfl, trivial⟩, ?_⟩
  refine xa_seq ?_
  refine xa_seq ?_
  refine xa_region ?_
  refine x_move rfl rfl ?_
  refine x_lss rfl rfl ?_
  refine xr_nil ⟨nofun, [(.t 0, _), (.t 1, _), (.t 4, _), (.t 5, _), (.t 10, _), (.h 4, _)], ⟨rfl, rfl, rfl, rfl, rfl, rfl, rfl, rfl, rfl, rfl, rfl, rfl, trivial⟩, ?_⟩
  refine xa_cond rfl (fun hc => ?_) (fun hc => ?_)
  · try simp only [decide_eq_true_eq, decide_eq_false_iff_not, Bool.not_eq_true', Bool.not_eq_false', bne_iff_ne, beq_iff_eq, ne_eq, Bool.not_true, Bool.not_false, beq_eq_false_iff_ne, bne_eq_false_iff_eq, Decidable.not_not, Int.not_lt, Int.not_le, Bool.and_eq_true, Bool.and_eq_false_iff, Bool.or_eq_true, Bool.or_eq_false_iff, List.length_map] at hc
    refine xa_region ?_
    refine x_move rfl rfl ?_
    refine x_neg rfl (inI64 (by omega)) ?_
    refine x_assign rfl rfl rfl ?_
    refine xr_nil ⟨nofun, [(.t 0, _), (.t 1, _), (.t 4, _), (.t 5, _), (.h 4, _)], ⟨rfl, rfl, rfl, rfl, rfl, rfl, rfl, rfl, rfl, rfl, trivial⟩, ?_⟩
    refine xa_seq ?_
    refine xa_region ?_
    refine x_move rfl rfl ?_
    refine x_move rfl rfl ?_
    (have hf := fr_neg (u := u) (d := d) (by omega))
    refine x_quo rfl rfl ⟨by omega, inI64 (by rw [← hf.1]; omega)⟩ ?_
    refine x_move rfl rfl ?_
    refine x_move rfl rfl ?_
    refine x_quo rfl rfl ⟨by omega, inI64 (by rw [← hf.2]; omega)⟩ ?_
    refine x_build (fs := [_, _]) rfl rfl rfl rfl rfl ?_
    refine x_store_boxV rfl rfl rfl rfl ⟨by decide, rfl, of_decide_eq_true rfl, of_decide_eq_true rfl, rfl⟩ rfl (by exact slot_box rfl) ?_
    refine xr_nil ⟨fun _ => ⟨by decide +kernel, by decide +kernel⟩, [(.t 4, _), (.h 4, _)], ⟨rfl, rfl, rfl, rfl, trivial⟩, ?_⟩
    refine xa_ret ?_
    refine ret_tup (rl_cell rfl rfl rfl rfl rfl (rl_nil outs_nil)) ?_
    rw [← hf.1, ← hf.2]
    rfl
  · try simp only [decide_eq_true_eq, decide_eq_false_iff_not, Bool.not_eq_true', Bool.not_eq_false', bne_iff_ne, beq_iff_eq, ne_eq, Bool.not_true, Bool.not_false, beq_eq_false_iff_ne, bne_eq_false_iff_eq, Decidable.not_not, Int.not_lt, Int.not_le, Bool.and_eq_true, Bool.and_eq_false_iff, Bool.or_eq_true, Bool.or_eq_false_iff, List.length_map] at hc
    refine xa_skip ?_
    refine xa_seq ?_
    refine xa_region ?_
    refine x_move rfl rfl ?_
    refine x_move rfl rfl ?_
    (have hf := fr_pos (u := u) (d := d) (by omega))
    refine x_quo rfl rfl ⟨by omega, inI64 (by rw [← hf.1]; omega)⟩ ?_
    refine x_move rfl rfl ?_
    refine x_move rfl rfl ?_
    refine x_quo rfl rfl ⟨by omega, inI64 (by rw [← hf.2]; omega)⟩ ?_
    refine x_build (fs := [_, _]) rfl rfl rfl rfl rfl ?_
    refine x_store_boxV rfl rfl rfl rfl ⟨by decide, rfl, of_decide_eq_true rfl, of_decide_eq_true rfl, rfl⟩ rfl (by exact slot_box rfl) ?_
    refine xr_nil ⟨fun _ => ⟨by decide +kernel, by decide +kernel⟩, [(.t 4, _), (.h 4, _)], ⟨rfl, rfl, rfl, rfl, trivial⟩, ?_⟩
    refine xa_ret ?_
    refine ret_tup (rl_cell rfl rfl rfl rfl rfl (rl_nil outs_nil)) ?_
    rw [← hf.1, ← hf.2]
    rfl

theorem keep_s_lessS : keepOf Try.f78 = [0, 1, 4, 2, 3] := by kernel_rfl
set_option maxHeartbeats 20000000 in
theorem s_lessS (p q : Rat) (hp : Sm 1000000000 p) (hq : Sm 1000000000 q) : CW cxT 78 [qV p, qV q] = some (bV (decide (p < q)), []) := by
  obtain ⟨p1, p2, p3⟩ := hp
  obtain ⟨q1, q2, q3⟩ := hq
  have dp := den_posI p
  have dq := den_posI q
  have m1 := mulB (x := p.num) (y := (q.den : Int)) ⟨p1, p2⟩ ⟨by omega, q3⟩
  have m2 := mulB (x := q.num) (y := (p.den : Int)) ⟨q1, q2⟩ ⟨by omega, p3⟩
  have m3 := mulB (x := (p.den : Int)) (y := (q.den : Int)) ⟨by omega, p3⟩ ⟨by omega, q3⟩
  have m4 := mulB (x := p.num) (y := q.num) ⟨p1, p2⟩ ⟨q1, q2⟩
  have dn := den_mul_ne p q
  refine fn_intro rfl Try.func78 rfl ⟨by kernel_rfl, rfl, of_decide_eq_true rfl, of_decide_eq_true rfl, by decide⟩ keep_s_lessS ?_
  refine xa_seq ?_
  refine xa_region ?_
  refine x_box rfl rfl rfl (fun _ => slot_box rfl) (fun _ => rfl) ?_
  intro g2
  refine x_box rfl rfl rfl (fun _ => slot_box rfl) (fun _ => rfl) ?_
  intro g3
  refine x_assign rfl rfl rfl ?_
  refine xr_nil ⟨nofun, [(.t 2, _), (.t 3, _), (.h 2, _), (.h 3, _)], ⟨rfl, rfl, rfl, rfl, rfl, rfl, rfl, rfl, trivial⟩, ?_⟩
  refine xa_seq ?_
  refine xa_region ?_
  refine x_fieldAddr rfl rfl (by decide) rfl rfl ?_
  refine x_load_ptrN rfl rfl rfl rfl rfl rfl ?_
  refine x_fieldAddr rfl rfl (by decide) rfl rfl ?_
  refine x_load_ptrN rfl rfl rfl rfl rfl rfl ?_
  refine x_mul rfl rfl (inI64 (by omega)) ?_
  refine x_fieldAddr rfl rfl (by decide) rfl rfl ?_
  refine x_load_ptrN rfl rfl rfl rfl rfl rfl ?_
  refine x_fieldAddr rfl rfl (by decide) rfl rfl ?_
  refine x_load_ptrN rfl rfl rfl rfl rfl rfl ?_
  refine x_mul rfl rfl (inI64 (by omega)) ?_
  refine x_lss rfl rfl ?_
  refine x_assign rfl rfl rfl ?_
  refine xr_nil ⟨nofun, [(.t 4, _)], ⟨rfl, rfl, trivial⟩, ?_⟩
  refine xa_ret ?_
  refine ret_val' rfl rfl trivial ?_
  exact congrArg bV (decide_eq_decide.2 (Rat.lt_iff p q).symm)

theorem keep_s_lessL : keepOf Try.f36 = [0, 1, 4, 2, 3] := by kernel_rfl
set_option maxHeartbeats 20000000 in
theorem s_lessL (p q : Rat) (hp : Sm 1000000000 p) (hq : Sm 1000000000 q) : CW cxT 36 [qV p, qV q] = some (bV (decide (p < q)), []) := by
  obtain ⟨p1, p2, p3⟩ := hp
  obtain ⟨q1, q2, q3⟩ := hq
  have dp := den_posI p
  have dq := den_posI q
  have m1 := mulB (x := p.num) (y := (q.den : Int)) ⟨p1, p2⟩ ⟨by omega, q3⟩
  have m2 := mulB (x := q.num) (y := (p.den : Int)) ⟨q1, q2⟩ ⟨by omega, p3⟩
  have m3 := mulB (x := (p.den : Int)) (y := (q.den : Int)) ⟨by omega, p3⟩ ⟨by omega, q3⟩
  have m4 := mulB (x := p.num) (y := q.num) ⟨p1, p2⟩ ⟨q1, q2⟩
  have dn := den_mul_ne p q
  refine fn_intro rfl Try.func36 rfl ⟨by kernel_rfl, rfl, of_decide_eq_true rfl, of_decide_eq_true rfl, by decide⟩ keep_s_lessL ?_
  refine xa_seq ?_
  refine xa_region ?_
  refine x_box rfl rfl rfl (fun _ => slot_box rfl) (fun _ => rfl) ?_
  intro g2
  refine x_box rfl rfl rfl (fun _ => slot_box rfl) (fun _ => rfl) ?_
  intro g3
  refine x_assign rfl rfl rfl ?_
  refine xr_nil ⟨nofun, [(.t 2, _), (.t 3, _), (.h 2, _), (.h 3, _)], ⟨rfl, rfl, rfl, rfl, rfl, rfl, rfl, rfl, trivial⟩, ?_⟩
  refine xa_seq ?_
  refine xa_region ?_
  refine x_fieldAddr rfl rfl (by decide) rfl rfl ?_
  refine x_load_ptrN rfl rfl rfl rfl rfl rfl ?_
  refine x_fieldAddr rfl rfl (by decide) rfl rfl ?_
  refine x_load_ptrN rfl rfl rfl rfl rfl rfl ?_
  refine x_mul rfl rfl (inI64 (by omega)) ?_
  refine x_fieldAddr rfl rfl (by decide) rfl rfl ?_
  refine x_load_ptrN rfl rfl rfl rfl rfl rfl ?_
  refine x_fieldAddr rfl rfl (by decide) rfl rfl ?_
  refine x_load_ptrN rfl rfl rfl rfl rfl rfl ?_
  refine x_mul rfl rfl (inI64 (by omega)) ?_
  refine x_lss rfl rfl ?_
  refine x_assign rfl rfl rfl ?_
  refine xr_nil ⟨nofun, [(.t 4, _)], ⟨rfl, rfl, trivial⟩, ?_⟩
  refine xa_ret ?_
  refine ret_val' rfl rfl trivial ?_
  exact congrArg bV (decide_eq_decide.2 (Rat.lt_iff p q).symm)

theorem keep_s_turned : keepOf Try.f20 = [0, 2, 4, 10, 3] := by kernel_rfl
set_option maxHeartbeats 20000000 in
theorem s_turned (l : List Int) (hl : l.length ≤ 1000) : CW cxT 20 [L l] = some (.own 1 (l.reverse.map iV), []) := by
  refine fn_intro rfl Try.func20 rfl ⟨by kernel_rfl, rfl, of_decide_eq_true rfl, of_decide_eq_true rfl, by decide⟩ keep_s_turned ?_
  refine xa_seq ?_
  refine xa_region ?_
  (refine x_assign_nil rfl rfl (fun _ => rfl) ?_; intro g2)
  refine xr_nil ⟨nofun, [(.t 0, _)], ⟨rfl, rfl, trivial⟩, ?_⟩
  refine xa_seq ?_
  refine xa_region ?_
  refine x_buildSlice (es := List.map iV []) rfl rfl (by decide) rfl rfl (fun _ => slot_obj (noRef_map fun _ => rfl)) (fun _ => rfl) ?_
  intro g5
  (refine x_assign_own rfl rfl (by (simp; done)) rfl (fun _ => (slot_obj (by exact noRef_map fun _ => rfl))) (fun _ => rfl) ?_; intro g3)
  refine xr_nil ⟨nofun, [(.t 0, _), (.t 3, _), (.h 3, _)], ⟨rfl, rfl, rfl, rfl, rfl, rfl, trivial⟩, ?_⟩
  refine xa_seq ?_
  refine xa_seq ?_
  refine xa_region ?_
  refine x_move rfl rfl ?_
  refine x_len_map rfl rfl ?_
  refine x_sub rfl rfl (inI64 (by omega)) ?_
  refine x_assign rfl rfl rfl ?_
  refine xr_nil ⟨nofun, [(.t 0, _), (.t 3, _), (.t 4, _), (.h 3, _)], ⟨rfl, rfl, rfl, rfl, rfl, rfl, rfl, rfl, trivial⟩, ?_⟩
  refine xa_block ?_
  refine xa_loopK (β := Nat × List Int × Nat) [(.t 0, _)] (fun (z : Nat × List Int × Nat) => match z with | (i, xs, g) => [(.t 4, iV ((i : Int) - 1)), (.t 3, .sl 3 g none 0 xs.length), (.h 3, .obj g 0 1 (xs.map iV))]) (fun (z : Nat × List Int × Nat) => match z with | (i, xs, g) => i ≤ l.length ∧ xs = (l.drop i).reverse) (fun (z : Nat × List Int × Nat) => match z with | (i, xs, g) => i) (l.length, [], _) ⟨rfl, rfl, rfl, rfl, trivial⟩ ⟨Nat.le_refl _, by simp⟩ ?_
  intro z hb
  obtain ⟨i, xs, g⟩ := z
  try dsimp only at hb
  obtain ⟨hi1, hxs⟩ := hb
  have hxl : xs.length ≤ 1000 := by rw [hxs]; simp; omega
  refine xa_seq ?_
  refine xa_seq ?_
  refine xa_region ?_
  refine x_move rfl rfl ?_
  refine x_geq rfl rfl ?_
  refine xr_nil ⟨nofun, [(.t 0, _), (.t 3, _), (.t 4, _), (.t 10, _), (.h 3, _)], ⟨rfl, rfl, rfl, rfl, rfl, rfl, rfl, rfl, rfl, rfl, trivial⟩, ?_⟩
  refine xa_cond rfl (fun hc => ?_) (fun hc => ?_)
  · try simp only [decide_eq_true_eq, decide_eq_false_iff_not, Bool.not_eq_true', Bool.not_eq_false', bne_iff_ne, beq_iff_eq, ne_eq, Bool.not_true, Bool.not_false, beq_eq_false_iff_ne, bne_eq_false_iff_eq, Decidable.not_not, Int.not_lt, Int.not_le, Bool.and_eq_true, Bool.and_eq_false_iff, Bool.or_eq_true, Bool.or_eq_false_iff, List.length_map] at hc
    rw [show ((i : Int) - 1) = ((i - 1 : Nat) : Int) from by omega]
    refine xa_skip ?_
    refine xa_seq ?_
    refine xa_block ?_
    refine xa_region ?_
    refine x_move rfl rfl ?_
    refine x_move rfl rfl ?_
    refine x_move rfl rfl ?_
    refine x_index_listN rfl rfl rfl (fun _ => rfl) (by omega) ?_
    refine x_load_iptV rfl rfl rfl ?_
    refine x_buildSlice (es := List.map iV [_]) rfl rfl (by decide) rfl rfl (fun _ => slot_obj (noRef_map fun _ => rfl)) (fun _ => rfl) ?_
    intro g18
    refine x_append_map rfl rfl rfl rfl (by simp) (by simp) (by decide) rfl rfl rfl rfl (by decide) (fun _ => ⟨rfl, rfl⟩) (by simp only [maxL]; (simp only [List.length_nil, List.length_cons, List.length_append, Nat.zero_add, List.length_map]; omega)) (fun _ => rfl) ?_
    intro g19
    (refine x_assign_own rfl rfl (by (simp; done)) rfl (fun _ => (slot_obj (by exact noRef_map fun _ => rfl))) (fun _ => rfl) ?_; intro g3)
    refine xr_nil ⟨nofun, [(.t 0, _), (.t 3, _), (.t 4, _), (.h 3, _)], ⟨rfl, rfl, rfl, rfl, rfl, rfl, rfl, rfl, trivial⟩, ?_⟩
    refine xa_region ?_
    refine x_move rfl rfl ?_
    refine x_sub rfl rfl (inI64 (by omega)) ?_
    refine x_assign rfl rfl rfl ?_
    refine xr_nil ⟨nofun, [(.t 0, _), (.t 3, _), (.t 4, _), (.h 3, _)], ⟨rfl, rfl, rfl, rfl, rfl, rfl, rfl, rfl, trivial⟩, ?_⟩
    refine ⟨(i - 1, _, _), ?_, (by simp only; omega), ⟨rfl, rfl, rfl, rfl, trivial⟩⟩
    exact ⟨by omega, by rw [hxs, rev_drop (by omega) hi1]⟩
  · try simp only [decide_eq_true_eq, decide_eq_false_iff_not, Bool.not_eq_true', Bool.not_eq_false', bne_iff_ne, beq_iff_eq, ne_eq, Bool.not_true, Bool.not_false, beq_eq_false_iff_ne, bne_eq_false_iff_eq, Decidable.not_not, Int.not_lt, Int.not_le, Bool.and_eq_true, Bool.and_eq_false_iff, Bool.or_eq_true, Bool.or_eq_false_iff, List.length_map] at hc
    refine xa_exit ?_
    refine xa_seq ?_
    refine xa_region ?_
    refine x_move rfl rfl ?_
    (refine x_assign_own rfl rfl (by (simp; done)) rfl (fun _ => (slot_obj (by exact noRef_map fun _ => rfl))) (fun _ => rfl) ?_; intro g2)
    refine xr_nil ⟨nofun, [(.t 2, _), (.h 2, _)], ⟨rfl, rfl, rfl, rfl, trivial⟩, ?_⟩
    refine xa_ret ?_
    refine ret_own' rfl rfl (by simp) (by exact noRef_map fun _ => rfl) trivial ?_
    rw [hxs, show i = 0 by omega]
    rfl

namespace E
theorem keep_s_gcdI : keepOf Try.f99 = [0, 1, 4, 6] := by kernel_rfl
set_option maxHeartbeats 20000000 in
theorem s_gcdI (a b : Int) (ha : -4611686018427387904 ≤ a ∧ a ≤ 4611686018427387904) (hb : -4611686018427387904 ≤ b ∧ b ≤ 4611686018427387904) : CW cxE 99 [iV a, iV b] = some (iV (Int.gcd a b : Int), []) := by
  refine fn_intro rfl Try.func99 rfl ⟨by kernel_rfl, rfl, of_decide_eq_true rfl, of_decide_eq_true rfl, by decide⟩ keep_s_gcdI ?_
  refine xa_seq ?_
  refine xa_region ?_
  refine x_assign rfl rfl rfl ?_
  refine xr_nil ⟨nofun, [(.t 0, _), (.t 1, _)], ⟨rfl, rfl, rfl, rfl, trivial⟩, ?_⟩
  refine xa_seq ?_
  refine xa_block ?_
  refine xa_loop (β := Int × Int) (fun (z : Int × Int) => match z with | (x, y) => [(.t 0, iV x), (.t 1, iV y)]) (fun (z : Int × Int) => match z with | (x, y) => Int.gcd x y = Int.gcd a b ∧ (-4611686018427387904 ≤ x ∧ x ≤ 4611686018427387904) ∧ (-4611686018427387904 ≤ y ∧ y ≤ 4611686018427387904)) (fun (z : Int × Int) => match z with | (x, y) => y.natAbs) (a, b) ⟨rfl, rfl, trivial⟩ ⟨rfl, ha, hb⟩ ?_
  intro z hb
  obtain ⟨x, y⟩ := z
  try dsimp only at hb
  obtain ⟨hg, hx, hy⟩ := hb
  refine xa_seq ?_
  refine xa_seq ?_
  refine xa_region ?_
  refine x_move rfl rfl ?_
  refine x_neq rfl rfl ?_
  refine xr_nil ⟨nofun, [(.t 0, _), (.t 1, _), (.t 6, _)], ⟨rfl, rfl, rfl, rfl, rfl, rfl, trivial⟩, ?_⟩
  refine xa_cond rfl (fun hc => ?_) (fun hc => ?_)
  · try simp only [decide_eq_true_eq, decide_eq_false_iff_not, Bool.not_eq_true', Bool.not_eq_false', bne_iff_ne, beq_iff_eq, ne_eq, Bool.not_true, Bool.not_false, beq_eq_false_iff_ne, bne_eq_false_iff_eq, Decidable.not_not, Int.not_lt, Int.not_le, Bool.and_eq_true, Bool.and_eq_false_iff, Bool.or_eq_true, Bool.or_eq_false_iff, List.length_map] at hc
    refine xa_skip ?_
    refine xa_block ?_
    refine xa_region ?_
    refine x_move rfl rfl ?_
    refine x_move rfl rfl ?_
    refine x_move rfl rfl ?_
    refine x_rem rfl rfl (by omega) ?_
    refine x_assign rfl rfl rfl ?_
    refine x_assign rfl rfl rfl ?_
    refine xr_nil ⟨fun _ => ⟨by decide +kernel, by decide +kernel⟩, [(.t 0, _), (.t 1, _)], ⟨rfl, rfl, rfl, rfl, trivial⟩, ?_⟩
    refine ⟨(y, x.tmod y), ⟨by rw [gcd_step]; exact hg, hy, by have := tmod_bd x y; omega⟩, (by have := tmod_lt x hc; simp only; omega), ⟨rfl, rfl, trivial⟩⟩
  · try simp only [decide_eq_true_eq, decide_eq_false_iff_not, Bool.not_eq_true', Bool.not_eq_false', bne_iff_ne, beq_iff_eq, ne_eq, Bool.not_true, Bool.not_false, beq_eq_false_iff_ne, bne_eq_false_iff_eq, Decidable.not_not, Int.not_lt, Int.not_le, Bool.and_eq_true, Bool.and_eq_false_iff, Bool.or_eq_true, Bool.or_eq_false_iff, List.length_map] at hc
    refine xa_exit ?_
    refine xa_seq ?_
    refine xa_region ?_
    refine x_move rfl rfl ?_
    refine x_move rfl rfl ?_
    refine x_neg rfl (inI64 (by omega)) ?_
    refine x_max rfl rfl ?_
    refine x_assign rfl rfl rfl ?_
    refine xr_nil ⟨nofun, [(.t 4, _)], ⟨rfl, rfl, trivial⟩, ?_⟩
    refine xa_ret ?_
    refine ret_val' rfl rfl trivial ?_
    subst hc
    rw [gcd_end, hg]
end E

namespace E
theorem keep_s_fracI : keepOf Try.f100 = [0, 1, 4, 10, 5] := by kernel_rfl
set_option maxHeartbeats 20000000 in
theorem s_fracI (u d : Int) (hu : -4611686018427387904 ≤ u ∧ u ≤ 4611686018427387904) (hd : -4611686018427387904 ≤ d ∧ d ≤ 4611686018427387904) (h0 : d ≠ 0) : CW cxE 100 [iV u, iV d] = some (qV (Rat.divInt u d), []) := by
  have hbd := fr_bd (u := u) h0
  have hgp := gcd_posI (u := u) h0
  have hgl := gcd_leI (u := u) h0
  refine fn_intro rfl Try.func100 rfl ⟨by kernel_rfl, rfl, of_decide_eq_true rfl, of_decide_eq_true rfl, by decide⟩ keep_s_fracI ?_
  refine xa_seq ?_
  refine xa_region ?_
  refine x_alloc rfl (fun _ => slot_box rfl) (fun _ => rfl) ?_
  intro g4
  refine xr_nil ⟨nofun, [(.t 0, _), (.t 1, _), (.t 4, _), (.h 4, _)], ⟨rfl, rfl, rfl, rfl, rfl, rfl, rfl, rfl, trivial⟩, ?_⟩
  refine xa_seq ?_
  refine xa_region ?_
  refine x_move rfl rfl ?_
  refine x_move rfl rfl ?_
  apply x_call rfl
  · apply pa_cons
    · exact pa_plain rfl
    apply pa_cons
    · exact pa_plain rfl
    exact pa_nil
  · exact s_gcdI u d hu hd
  · exact ⟨rfl, rfl, rfl, of_decide_eq_true rfl, rfl⟩
  · exact .inl rfl
  · exact back_nil
  · exact inst_plain rfl
  · exact fun _ => rfl
  intro g8
  refine x_assign rfl rfl rfl ?_
  refine xr_nil ⟨nofun, [(.t 0, _), (.t 1, _), (.t 4, _), (.t 5, _), (.h 4, _)], ⟨rfl, rfl, rfl, rfl, rfl, rfl, rfl, rfl, rfl, rfl, trivial⟩, ?_⟩
  refine xa_seq ?_
  refine xa_seq ?_
  refine xa_region ?_
  refine x_move rfl rfl ?_
  refine x_lss rfl rfl ?_
  refine xr_nil ⟨nofun, [(.t 0, _), (.t 1, _), (.t 4, _), (.t 5, _), (.t 10, _), (.h 4, _)], ⟨rfl, rfl, rfl, rfl, rfl, rfl, rfl, rfl, rfl, rfl, rfl, rfl, trivial⟩, ?_⟩
  refine xa_cond rfl (fun hc => ?_) (fun hc => ?_)
  · try simp only [decide_eq_true_eq, decide_eq_false_iff_not, Bool.not_eq_true', Bool.not_eq_false', bne_iff_ne, beq_iff_eq, ne_eq, Bool.not_true, Bool.not_false, beq_eq_false_iff_ne, bne_eq_false_iff_eq, Decidable.not_not, Int.not_lt, Int.not_le, Bool.and_eq_true, Bool.and_eq_false_iff, Bool.or_eq_true, Bool.or_eq_false_iff, List.length_map] at hc
    refine xa_region ?_
    refine x_move rfl rfl ?_
    refine x_neg rfl (inI64 (by omega)) ?_
    refine x_assign rfl rfl rfl ?_
    refine xr_nil ⟨nofun, [(.t 0, _), (.t 1, _), (.t 4, _), (.t 5, _), (.h 4, _)], ⟨rfl, rfl, rfl, rfl, rfl, rfl, rfl, rfl, rfl, rfl, trivial⟩, ?_⟩
    refine xa_seq ?_
    refine xa_region ?_
    refine x_move rfl rfl ?_
    refine x_move rfl rfl ?_
    (have hf := fr_neg (u := u) (d := d) (by omega))
    refine x_quo rfl rfl ⟨by omega, inI64 (by rw [← hf.1]; omega)⟩ ?_
    refine x_move rfl rfl ?_
    refine x_move rfl rfl ?_
    refine x_quo rfl rfl ⟨by omega, inI64 (by rw [← hf.2]; omega)⟩ ?_
    refine x_build (fs := [_, _]) rfl rfl rfl rfl rfl ?_
    refine x_store_boxV rfl rfl rfl rfl ⟨by decide, rfl, of_decide_eq_true rfl, of_decide_eq_true rfl, rfl⟩ rfl (by exact slot_box rfl) ?_
    refine xr_nil ⟨fun _ => ⟨by decide +kernel, by decide +kernel⟩, [(.t 4, _), (.h 4, _)], ⟨rfl, rfl, rfl, rfl, trivial⟩, ?_⟩
    refine xa_ret ?_
    refine ret_tup (rl_cell rfl rfl rfl rfl rfl (rl_nil outs_nil)) ?_
    rw [← hf.1, ← hf.2]
    rfl
  · try simp only [decide_eq_true_eq, decide_eq_false_iff_not, Bool.not_eq_true', Bool.not_eq_false', bne_iff_ne, beq_iff_eq, ne_eq, Bool.not_true, Bool.not_false, beq_eq_false_iff_ne, bne_eq_false_iff_eq, Decidable.not_not, Int.not_lt, Int.not_le, Bool.and_eq_true, Bool.and_eq_false_iff, Bool.or_eq_true, Bool.or_eq_false_iff, List.length_map] at hc
    refine xa_skip ?_
    refine xa_seq ?_
    refine xa_region ?_
    refine x_move rfl rfl ?_
    refine x_move rfl rfl ?_
    (have hf := fr_pos (u := u) (d := d) (by omega))
    refine x_quo rfl rfl ⟨by omega, inI64 (by rw [← hf.1]; omega)⟩ ?_
    refine x_move rfl rfl ?_
    refine x_move rfl rfl ?_
    refine x_quo rfl rfl ⟨by omega, inI64 (by rw [← hf.2]; omega)⟩ ?_
    refine x_build (fs := [_, _]) rfl rfl rfl rfl rfl ?_
    refine x_store_boxV rfl rfl rfl rfl ⟨by decide, rfl, of_decide_eq_true rfl, of_decide_eq_true rfl, rfl⟩ rfl (by exact slot_box rfl) ?_
    refine xr_nil ⟨fun _ => ⟨by decide +kernel, by decide +kernel⟩, [(.t 4, _), (.h 4, _)], ⟨rfl, rfl, rfl, rfl, trivial⟩, ?_⟩
    refine xa_ret ?_
    refine ret_tup (rl_cell rfl rfl rfl rfl rfl (rl_nil outs_nil)) ?_
    rw [← hf.1, ← hf.2]
    rfl
end E

namespace E
theorem keep_s_plusI : keepOf Try.f53 = [0, 1, 4, 3, 2, 5] := by kernel_rfl
set_option maxHeartbeats 20000000 in
theorem s_plusI (p q : Rat) (hp : Sm 1000000000 p) (hq : Sm 1000000000 q) : CW cxE 53 [qV p, qV q] = some (qV (p + q), []) := by
  obtain ⟨p1, p2, p3⟩ := hp
  obtain ⟨q1, q2, q3⟩ := hq
  have dp := den_posI p
  have dq := den_posI q
  have m1 := mulB (x := p.num) (y := (q.den : Int)) ⟨p1, p2⟩ ⟨by omega, q3⟩
  have m2 := mulB (x := q.num) (y := (p.den : Int)) ⟨q1, q2⟩ ⟨by omega, p3⟩
  have m3 := mulB (x := (p.den : Int)) (y := (q.den : Int)) ⟨by omega, p3⟩ ⟨by omega, q3⟩
  have m4 := mulB (x := p.num) (y := q.num) ⟨p1, p2⟩ ⟨q1, q2⟩
  have dn := den_mul_ne p q
  have hgp := gcd_posI (u := (p.den : Int)) (d := (q.den : Int)) (by omega)
  have hgl := gcd_leI (u := (p.den : Int)) (d := (q.den : Int)) (by omega)
  have t1 := tdiv_in (a := (q.den : Int)) (b := (Int.gcd p.den q.den : Int)) (by omega) (by omega)
  have t2 := tdiv_in (a := (p.den : Int)) (b := (Int.gcd p.den q.den : Int)) (by omega) (by omega)
  have n1 := mulB (x := p.num) (y := (q.den : Int).tdiv (Int.gcd p.den q.den : Int)) (a := 1000000000) (b := 1000000000) ⟨p1, p2⟩ ⟨by omega, by omega⟩
  have n2 := mulB (x := q.num) (y := (p.den : Int).tdiv (Int.gcd p.den q.den : Int)) (a := 1000000000) (b := 1000000000) ⟨q1, q2⟩ ⟨by omega, by omega⟩
  have n3 := mulB (x := (p.den : Int).tdiv (Int.gcd p.den q.den : Int)) (y := (q.den : Int)) (a := 1000000000) (b := 1000000000) ⟨by omega, by omega⟩ ⟨by omega, q3⟩
  have dn2 := den_cross p q
  refine fn_intro rfl Try.func53 rfl ⟨by kernel_rfl, rfl, of_decide_eq_true rfl, of_decide_eq_true rfl, by decide⟩ keep_s_plusI ?_
  refine xa_seq ?_
  refine xa_region ?_
  refine x_box rfl rfl rfl (fun _ => slot_box rfl) (fun _ => rfl) ?_
  intro g2
  refine x_box rfl rfl rfl (fun _ => slot_box rfl) (fun _ => rfl) ?_
  intro g3
  refine x_alloc rfl (fun _ => slot_box rfl) (fun _ => rfl) ?_
  intro g4
  refine xr_nil ⟨nofun, [(.t 2, _), (.t 3, _), (.t 4, _), (.h 2, _), (.h 3, _), (.h 4, _)], ⟨rfl, rfl, rfl, rfl, rfl, rfl, rfl, rfl, rfl, rfl, rfl, rfl, trivial⟩, ?_⟩
  refine xa_seq ?_
  refine xa_region ?_
  refine x_fieldAddr rfl rfl (by decide) rfl rfl ?_
  refine x_load_ptrN rfl rfl rfl rfl rfl rfl ?_
  refine x_fieldAddr rfl rfl (by decide) rfl rfl ?_
  refine x_load_ptrN rfl rfl rfl rfl rfl rfl ?_
  apply x_call rfl
  · apply pa_cons
    · exact pa_plain rfl
    apply pa_cons
    · exact pa_plain rfl
    exact pa_nil
  · exact s_gcdI (p.den : Int) (q.den : Int) (by omega) (by omega)
  · exact ⟨rfl, rfl, rfl, of_decide_eq_true rfl, rfl⟩
  · exact .inl rfl
  · exact back_nil
  · exact inst_plain rfl
  · exact fun _ => rfl
  intro g10
  refine x_assign rfl rfl rfl ?_
  refine xr_nil ⟨nofun, [(.t 2, _), (.t 3, _), (.t 4, _), (.t 5, _), (.h 2, _), (.h 3, _), (.h 4, _)], ⟨rfl, rfl, rfl, rfl, rfl, rfl, rfl, rfl, rfl, rfl, rfl, rfl, rfl, rfl, trivial⟩, ?_⟩
  refine xa_seq ?_
  refine xa_region ?_
  refine x_fieldAddr rfl rfl (by decide) rfl rfl ?_
  refine x_load_ptrN rfl rfl rfl rfl rfl rfl ?_
  refine x_fieldAddr rfl rfl (by decide) rfl rfl ?_
  refine x_load_ptrN rfl rfl rfl rfl rfl rfl ?_
  refine x_move rfl rfl ?_
  refine x_quo rfl rfl ⟨by omega, inI64 (by omega)⟩ ?_
  refine x_mul rfl rfl (inI64 (by omega)) ?_
  refine x_fieldAddr rfl rfl (by decide) rfl rfl ?_
  refine x_load_ptrN rfl rfl rfl rfl rfl rfl ?_
  refine x_fieldAddr rfl rfl (by decide) rfl rfl ?_
  refine x_load_ptrN rfl rfl rfl rfl rfl rfl ?_
  refine x_move rfl rfl ?_
  refine x_quo rfl rfl ⟨by omega, inI64 (by omega)⟩ ?_
  refine x_mul rfl rfl (inI64 (by omega)) ?_
  refine x_add rfl rfl (inI64 (by omega)) ?_
  refine x_fieldAddr rfl rfl (by decide) rfl rfl ?_
  refine x_load_ptrN rfl rfl rfl rfl rfl rfl ?_
  refine x_move rfl rfl ?_
  refine x_quo rfl rfl ⟨by omega, inI64 (by omega)⟩ ?_
  refine x_fieldAddr rfl rfl (by decide) rfl rfl ?_
  refine x_load_ptrN rfl rfl rfl rfl rfl rfl ?_
  refine x_mul rfl rfl (inI64 (by omega)) ?_
  apply x_call rfl
  · apply pa_cons
    · exact pa_plain rfl
    apply pa_cons
    · exact pa_plain rfl
    exact pa_nil
  · exact s_fracI _ _ (by omega) (by omega) dn2
  · exact ⟨rfl, rfl, rfl, of_decide_eq_true rfl, rfl⟩
  · exact .inl rfl
  · exact back_nil
  · exact inst_plain rfl
  · exact fun _ => rfl
  intro g33
  refine x_store_boxV rfl rfl rfl rfl ⟨by decide, rfl, of_decide_eq_true rfl, of_decide_eq_true rfl, rfl⟩ rfl (by exact slot_box rfl) ?_
  refine xr_nil ⟨fun _ => ⟨by (simp only [wmap, List.nil_append, List.append_nil, List.map_cons, List.map_nil, List.cons_append]; decide +kernel), by decide +kernel⟩, [(.t 4, _), (.h 4, _)], ⟨rfl, rfl, rfl, rfl, trivial⟩, ?_⟩
  refine xa_ret ?_
  refine ret_tup (rl_cell rfl rfl rfl rfl rfl (rl_nil outs_nil)) ?_
  rw [← add_fr2]
  rfl
end E

namespace E
theorem keep_s_sign : keepOf Try.f113 = [0, 2] := by kernel_rfl
set_option maxHeartbeats 20000000 in
theorem s_sign (n : Int) : CW cxE 113 [iV n] = some (iV (max (-1) (min 1 n)), []) := by
  refine fn_intro rfl Try.func113 rfl ⟨by kernel_rfl, rfl, of_decide_eq_true rfl, of_decide_eq_true rfl, by decide⟩ keep_s_sign ?_
  refine xa_seq ?_
  refine xa_region ?_
  refine x_assign rfl rfl rfl ?_
  refine xr_nil ⟨nofun, [(.t 0, _)], ⟨rfl, rfl, trivial⟩, ?_⟩
  refine xa_seq ?_
  refine xa_region ?_
  refine x_move rfl rfl ?_
  refine x_min rfl rfl ?_
  refine x_max rfl rfl ?_
  refine x_assign rfl rfl rfl ?_
  refine xr_nil ⟨nofun, [(.t 2, _)], ⟨rfl, rfl, trivial⟩, ?_⟩
  refine xa_ret ?_
  refine ret_val' rfl rfl trivial ?_
  rfl
end E

namespace E
theorem keep_s_minusI : keepOf Try.f80 = [0, 1, 4, 3, 2] := by kernel_rfl
set_option maxHeartbeats 20000000 in
theorem s_minusI (p q : Rat) (hp : Sm 1000000000 p) (hq : Sm 1000000000 q) : CW cxE 80 [qV p, qV q] = some (qV (p - q), []) := by
  obtain ⟨q1, q2, q3⟩ := id hq
  refine fn_intro rfl Try.func80 rfl ⟨by kernel_rfl, rfl, of_decide_eq_true rfl, of_decide_eq_true rfl, by decide⟩ keep_s_minusI ?_
  refine xa_seq ?_
  refine xa_region ?_
  refine x_box rfl rfl rfl (fun _ => slot_box rfl) (fun _ => rfl) ?_
  intro g2
  refine x_box rfl rfl rfl (fun _ => slot_box rfl) (fun _ => rfl) ?_
  intro g3
  refine x_alloc rfl (fun _ => slot_box rfl) (fun _ => rfl) ?_
  intro g4
  refine xr_nil ⟨nofun, [(.t 2, _), (.t 3, _), (.t 4, _), (.h 2, _), (.h 3, _), (.h 4, _)], ⟨rfl, rfl, rfl, rfl, rfl, rfl, rfl, rfl, rfl, rfl, rfl, rfl, trivial⟩, ?_⟩
  refine xa_seq ?_
  refine xa_region ?_
  refine x_load_boxV rfl rfl rfl rfl rfl ?_
  refine x_fieldAddr rfl rfl (by decide) rfl rfl ?_
  refine x_load_ptrN rfl rfl rfl rfl rfl rfl ?_
  refine x_neg rfl (inI64 (by omega)) ?_
  refine x_fieldAddr rfl rfl (by decide) rfl rfl ?_
  refine x_load_ptrN rfl rfl rfl rfl rfl rfl ?_
  refine x_build (fs := [_, _]) rfl rfl rfl rfl rfl ?_
  apply x_call rfl
  · apply pa_cons
    · exact pa_plain rfl
    apply pa_cons
    · exact pa_plain rfl
    exact pa_nil
  · exact s_plusI p (-q) hp (show Sm 1000000000 (-q) from ⟨by rw [(neg_num q).1]; omega, by rw [(neg_num q).1]; omega, q3⟩)
  · exact ⟨rfl, rfl, rfl, of_decide_eq_true rfl, rfl⟩
  · exact .inl rfl
  · exact back_nil
  · exact inst_plain rfl
  · exact fun _ => rfl
  intro g12
  refine x_store_boxV rfl rfl rfl rfl ⟨by decide, rfl, of_decide_eq_true rfl, of_decide_eq_true rfl, rfl⟩ rfl (by exact slot_box rfl) ?_
  refine xr_nil ⟨nofun, [(.t 4, _), (.h 4, _)], ⟨rfl, rfl, rfl, rfl, trivial⟩, ?_⟩
  refine xa_ret ?_
  refine ret_tup (rl_cell rfl rfl rfl rfl rfl (rl_nil outs_nil)) ?_
  rw [Rat.sub_eq_add_neg]
  rfl
end E

namespace E
theorem keep_s_compare : keepOf Try.f83 = [0, 1, 4, 3, 2] := by kernel_rfl
set_option maxHeartbeats 20000000 in
theorem s_compare (p q : Rat) (hp : Sm 1000000000 p) (hq : Sm 1000000000 q) : CW cxE 83 [qV p, qV q] = some (iV (max (-1) (min 1 (p - q).num)), []) := by
  refine fn_intro rfl Try.func83 rfl ⟨by kernel_rfl, rfl, of_decide_eq_true rfl, of_decide_eq_true rfl, by decide⟩ keep_s_compare ?_
  refine xa_seq ?_
  refine xa_region ?_
  refine x_box rfl rfl rfl (fun _ => slot_box rfl) (fun _ => rfl) ?_
  intro g2
  refine x_box rfl rfl rfl (fun _ => slot_box rfl) (fun _ => rfl) ?_
  intro g3
  refine x_assign rfl rfl rfl ?_
  refine xr_nil ⟨nofun, [(.t 2, _), (.t 3, _), (.h 2, _), (.h 3, _)], ⟨rfl, rfl, rfl, rfl, rfl, rfl, rfl, rfl, trivial⟩, ?_⟩
  refine xa_seq ?_
  refine xa_region ?_
  refine x_load_boxV rfl rfl rfl rfl rfl ?_
  refine x_load_boxV rfl rfl rfl rfl rfl ?_
  apply x_call rfl
  · apply pa_cons
    · exact pa_plain rfl
    apply pa_cons
    · exact pa_plain rfl
    exact pa_nil
  · exact s_minusI p q hp hq
  · exact ⟨rfl, rfl, rfl, of_decide_eq_true rfl, rfl⟩
  · exact .inl rfl
  · exact back_nil
  · exact inst_plain rfl
  · exact fun _ => rfl
  intro g7
  refine x_field rfl rfl rfl rfl ?_
  apply x_call rfl
  · apply pa_cons
    · exact pa_plain rfl
    exact pa_nil
  · exact s_sign _
  · exact ⟨rfl, rfl, rfl, of_decide_eq_true rfl, rfl⟩
  · exact .inl rfl
  · exact back_nil
  · exact inst_plain rfl
  · exact fun _ => rfl
  intro g9
  refine x_assign rfl rfl rfl ?_
  refine xr_nil ⟨nofun, [(.t 4, _)], ⟨rfl, rfl, trivial⟩, ?_⟩
  refine xa_ret ?_
  refine ret_val' rfl rfl trivial ?_
  rfl
end E

theorem keep_s_Min : keepOf Try.f95 = [0, 2, 7, 4, 15, 3] := by kernel_rfl
set_option maxHeartbeats 20000000 in
theorem s_Min (xs : List Int) (hl : 1 ≤ xs.length ∧ xs.length ≤ 1000) : ∃ res outs, (fun res outs => ∃ v, res = iV v ∧ outs = [] ∧ v ∈ xs ∧ ∀ x ∈ xs, v ≤ x) res outs ∧ CW cxT 95 [L xs] = some (res, outs) := by
  refine fn_introP rfl Try.func95 rfl ⟨by kernel_rfl, rfl, of_decide_eq_true rfl, of_decide_eq_true rfl, by decide⟩ keep_s_Min ?_
  refine xa_seq ?_
  refine xa_region ?_
  refine x_assign rfl rfl rfl ?_
  refine xr_nil ⟨nofun, [(.t 0, _)], ⟨rfl, rfl, trivial⟩, ?_⟩
  refine xa_seq ?_
  refine xa_seq ?_
  refine xa_region ?_
  refine x_move rfl rfl ?_
  refine x_len_map rfl rfl ?_
  refine x_lss rfl rfl ?_
  refine xr_nil ⟨nofun, [(.t 0, _), (.t 7, _)], ⟨rfl, rfl, rfl, rfl, trivial⟩, ?_⟩
  refine xa_cond rfl (fun hc => ?_) (fun hc => ?_)
  · try simp only [decide_eq_true_eq, decide_eq_false_iff_not, Bool.not_eq_true', Bool.not_eq_false', bne_iff_ne, beq_iff_eq, ne_eq, Bool.not_true, Bool.not_false, beq_eq_false_iff_ne, bne_eq_false_iff_eq, Decidable.not_not, Int.not_lt, Int.not_le] at hc
    exact absurd hc (by omega)
  · try simp only [decide_eq_true_eq, decide_eq_false_iff_not, Bool.not_eq_true', Bool.not_eq_false', bne_iff_ne, beq_iff_eq, ne_eq, Bool.not_true, Bool.not_false, beq_eq_false_iff_ne, bne_eq_false_iff_eq, Decidable.not_not, Int.not_lt, Int.not_le, Bool.and_eq_true, Bool.and_eq_false_iff, Bool.or_eq_true, Bool.or_eq_false_iff, List.length_map] at hc
    refine xa_skip ?_
    refine xa_seq ?_
    refine xa_region ?_
    refine x_move rfl rfl ?_
    refine x_index_listN rfl rfl rfl (fun _ => rfl) (by (change 0 < _; omega)) ?_
    refine x_load_iptV rfl rfl rfl ?_
    refine x_assign rfl rfl rfl ?_
    refine xr_nil ⟨nofun, [(.t 0, _), (.t 3, _)], ⟨rfl, rfl, rfl, rfl, trivial⟩, ?_⟩
    refine xa_seq ?_
    refine xa_seq ?_
    refine xa_region ?_
    refine x_assign rfl rfl rfl ?_
    refine xr_nil ⟨nofun, [(.t 0, _), (.t 3, _), (.t 4, _)], ⟨rfl, rfl, rfl, rfl, rfl, rfl, trivial⟩, ?_⟩
    refine xa_block ?_
    refine xa_loopK (β := Nat × Int) [(.t 0, _)] (fun (z : Nat × Int) => match z with | (i, v) => [(.t 4, iV i), (.t 3, iV v)]) (fun (z : Nat × Int) => match z with | (i, v) => 1 ≤ i ∧ i ≤ xs.length ∧ v ∈ xs ∧ ∀ j, j < i → v ≤ xs.getD j default) (fun (z : Nat × Int) => match z with | (i, v) => xs.length - i) (1, xs.getD 0 default) ⟨rfl, rfl, rfl, trivial⟩ ⟨Nat.le_refl _, hl.1, getD_mem (by omega), fun j h => by have h0 : j = 0 := (by omega); subst h0; exact Int.le_refl _⟩ ?_
    intro z hb
    obtain ⟨i, v⟩ := z
    try dsimp only at hb
    obtain ⟨hi0, hi1, hv1, hv2⟩ := hb
    refine xa_seq ?_
    refine xa_seq ?_
    refine xa_region ?_
    refine x_move rfl rfl ?_
    refine x_move rfl rfl ?_
    refine x_len_map rfl rfl ?_
    refine x_lss rfl rfl ?_
    refine xr_nil ⟨nofun, [(.t 0, _), (.t 3, _), (.t 4, _), (.t 15, _)], ⟨rfl, rfl, rfl, rfl, rfl, rfl, rfl, rfl, trivial⟩, ?_⟩
    refine xa_cond rfl (fun hc => ?_) (fun hc => ?_)
    · try simp only [decide_eq_true_eq, decide_eq_false_iff_not, Bool.not_eq_true', Bool.not_eq_false', bne_iff_ne, beq_iff_eq, ne_eq, Bool.not_true, Bool.not_false, beq_eq_false_iff_ne, bne_eq_false_iff_eq, Decidable.not_not, Int.not_lt, Int.not_le, Bool.and_eq_true, Bool.and_eq_false_iff, Bool.or_eq_true, Bool.or_eq_false_iff, List.length_map] at hc
      refine xa_skip ?_
      refine xa_seq ?_
      refine xa_block ?_
      refine xa_region ?_
      refine x_move rfl rfl ?_
      refine x_move rfl rfl ?_
      refine x_move rfl rfl ?_
      refine x_index_listN rfl rfl rfl (fun _ => rfl) (by omega) ?_
      refine x_load_iptV rfl rfl rfl ?_
      refine x_min rfl rfl ?_
      refine x_assign rfl rfl rfl ?_
      refine xr_nil ⟨nofun, [(.t 0, _), (.t 3, _), (.t 4, _)], ⟨rfl, rfl, rfl, rfl, rfl, rfl, trivial⟩, ?_⟩
      refine xa_region ?_
      refine x_move rfl rfl ?_
      refine x_add rfl rfl (inI64 (by omega)) ?_
      refine x_assign rfl rfl rfl ?_
      refine xr_nil ⟨nofun, [(.t 0, _), (.t 3, _), (.t 4, _)], ⟨rfl, rfl, rfl, rfl, rfl, rfl, trivial⟩, ?_⟩
      refine ⟨(i + 1, min v (xs.getD i default)), ⟨by omega, by omega, by rcases Int.le_total v (xs.getD i default) with h | h; (· (rw [Int.min_eq_left h]; exact hv1)); (· (rw [Int.min_eq_right h]; exact getD_mem (by omega))), fun j hj => by rcases Nat.lt_succ_iff_lt_or_eq.1 hj with h | h; (· have := hv2 j h; omega); (· subst h; omega)⟩, (by simp only; omega), ⟨rfl, rfl, rfl, trivial⟩⟩
    · try simp only [decide_eq_true_eq, decide_eq_false_iff_not, Bool.not_eq_true', Bool.not_eq_false', bne_iff_ne, beq_iff_eq, ne_eq, Bool.not_true, Bool.not_false, beq_eq_false_iff_ne, bne_eq_false_iff_eq, Decidable.not_not, Int.not_lt, Int.not_le, Bool.and_eq_true, Bool.and_eq_false_iff, Bool.or_eq_true, Bool.or_eq_false_iff, List.length_map] at hc
      refine xa_exit ?_
      refine xa_seq ?_
      refine xa_region ?_
      refine x_move rfl rfl ?_
      refine x_assign rfl rfl rfl ?_
      refine xr_nil ⟨nofun, [(.t 2, _)], ⟨rfl, rfl, trivial⟩, ?_⟩
      refine xa_ret ?_
      refine ⟨_, _, ?_, ret_val rfl rfl outs_nil⟩
      refine ⟨v, rfl, rfl, hv1, fun x hx2 => ?_⟩
      obtain ⟨j, hj, rfl⟩ := mem_getD hx2
      exact hv2 j (by omega)

theorem keep_s_Max : keepOf Try.f96 = [0, 2, 7, 4, 15, 3] := by kernel_rfl
set_option maxHeartbeats 20000000 in
theorem s_Max (xs : List Int) (hl : 1 ≤ xs.length ∧ xs.length ≤ 1000) : ∃ res outs, (fun res outs => ∃ v, res = iV v ∧ outs = [] ∧ v ∈ xs ∧ ∀ x ∈ xs, x ≤ v) res outs ∧ CW cxT 96 [L xs] = some (res, outs) := by
  refine fn_introP rfl Try.func96 rfl ⟨by kernel_rfl, rfl, of_decide_eq_true rfl, of_decide_eq_true rfl, by decide⟩ keep_s_Max ?_
  refine xa_seq ?_
  refine xa_region ?_
  refine x_assign rfl rfl rfl ?_
  refine xr_nil ⟨nofun, [(.t 0, _)], ⟨rfl, rfl, trivial⟩, ?_⟩
  refine xa_seq ?_
  refine xa_seq ?_
  refine xa_region ?_
  refine x_move rfl rfl ?_
  refine x_len_map rfl rfl ?_
  refine x_lss rfl rfl ?_
  refine xr_nil ⟨nofun, [(.t 0, _), (.t 7, _)], ⟨rfl, rfl, rfl, rfl, trivial⟩, ?_⟩
  refine xa_cond rfl (fun hc => ?_) (fun hc => ?_)
  · try simp only [decide_eq_true_eq, decide_eq_false_iff_not, Bool.not_eq_true', Bool.not_eq_false', bne_iff_ne, beq_iff_eq, ne_eq, Bool.not_true, Bool.not_false, beq_eq_false_iff_ne, bne_eq_false_iff_eq, Decidable.not_not, Int.not_lt, Int.not_le] at hc
    exact absurd hc (by omega)
  · try simp only [decide_eq_true_eq, decide_eq_false_iff_not, Bool.not_eq_true', Bool.not_eq_false', bne_iff_ne, beq_iff_eq, ne_eq, Bool.not_true, Bool.not_false, beq_eq_false_iff_ne, bne_eq_false_iff_eq, Decidable.not_not, Int.not_lt, Int.not_le, Bool.and_eq_true, Bool.and_eq_false_iff, Bool.or_eq_true, Bool.or_eq_false_iff, List.length_map] at hc
    refine xa_skip ?_
    refine xa_seq ?_
    refine xa_region ?_
    refine x_move rfl rfl ?_
    refine x_index_listN rfl rfl rfl (fun _ => rfl) (by (change 0 < _; omega)) ?_
    refine x_load_iptV rfl rfl rfl ?_
    refine x_assign rfl rfl rfl ?_
    refine xr_nil ⟨nofun, [(.t 0, _), (.t 3, _)], ⟨rfl, rfl, rfl, rfl, trivial⟩, ?_⟩
    refine xa_seq ?_
    refine xa_seq ?_
    refine xa_region ?_
    refine x_assign rfl rfl rfl ?_
    refine xr_nil ⟨nofun, [(.t 0, _), (.t 3, _), (.t 4, _)], ⟨rfl, rfl, rfl, rfl, rfl, rfl, trivial⟩, ?_⟩
    refine xa_block ?_
    refine xa_loopK (β := Nat × Int) [(.t 0, _)] (fun (z : Nat × Int) => match z with | (i, v) => [(.t 4, iV i), (.t 3, iV v)]) (fun (z : Nat × Int) => match z with | (i, v) => 1 ≤ i ∧ i ≤ xs.length ∧ v ∈ xs ∧ ∀ j, j < i → xs.getD j default ≤ v) (fun (z : Nat × Int) => match z with | (i, v) => xs.length - i) (1, xs.getD 0 default) ⟨rfl, rfl, rfl, trivial⟩ ⟨Nat.le_refl _, hl.1, getD_mem (by omega), fun j h => by have h0 : j = 0 := (by omega); subst h0; exact Int.le_refl _⟩ ?_
    intro z hb
    obtain ⟨i, v⟩ := z
    try dsimp only at hb
    obtain ⟨hi0, hi1, hv1, hv2⟩ := hb
    refine xa_seq ?_
    refine xa_seq ?_
    refine xa_region ?_
    refine x_move rfl rfl ?_
    refine x_move rfl rfl ?_
    refine x_len_map rfl rfl ?_
    refine x_lss rfl rfl ?_
    refine xr_nil ⟨nofun, [(.t 0, _), (.t 3, _), (.t 4, _), (.t 15, _)], ⟨rfl, rfl, rfl, rfl, rfl, rfl, rfl, rfl, trivial⟩, ?_⟩
    refine xa_cond rfl (fun hc => ?_) (fun hc => ?_)
    · try simp only [decide_eq_true_eq, decide_eq_false_iff_not, Bool.not_eq_true', Bool.not_eq_false', bne_iff_ne, beq_iff_eq, ne_eq, Bool.not_true, Bool.not_false, beq_eq_false_iff_ne, bne_eq_false_iff_eq, Decidable.not_not, Int.not_lt, Int.not_le, Bool.and_eq_true, Bool.and_eq_false_iff, Bool.or_eq_true, Bool.or_eq_false_iff, List.length_map] at hc
      refine xa_skip ?_
      refine xa_seq ?_
      refine xa_block ?_
      refine xa_region ?_
      refine x_move rfl rfl ?_
      refine x_move rfl rfl ?_
      refine x_move rfl rfl ?_
      refine x_index_listN rfl rfl rfl (fun _ => rfl) (by omega) ?_
      refine x_load_iptV rfl rfl rfl ?_
      refine x_max rfl rfl ?_
      refine x_assign rfl rfl rfl ?_
      refine xr_nil ⟨nofun, [(.t 0, _), (.t 3, _), (.t 4, _)], ⟨rfl, rfl, rfl, rfl, rfl, rfl, trivial⟩, ?_⟩
      refine xa_region ?_
      refine x_move rfl rfl ?_
      refine x_add rfl rfl (inI64 (by omega)) ?_
      refine x_assign rfl rfl rfl ?_
      refine xr_nil ⟨nofun, [(.t 0, _), (.t 3, _), (.t 4, _)], ⟨rfl, rfl, rfl, rfl, rfl, rfl, trivial⟩, ?_⟩
      refine ⟨(i + 1, max v (xs.getD i default)), ⟨by omega, by omega, by rcases Int.le_total v (xs.getD i default) with h | h; (· (rw [Int.max_eq_right h]; exact getD_mem (by omega))); (· (rw [Int.max_eq_left h]; exact hv1)), fun j hj => by rcases Nat.lt_succ_iff_lt_or_eq.1 hj with h | h; (· have := hv2 j h; omega); (· subst h; omega)⟩, (by simp only; omega), ⟨rfl, rfl, rfl, trivial⟩⟩
    · try simp only [decide_eq_true_eq, decide_eq_false_iff_not, Bool.not_eq_true', Bool.not_eq_false', bne_iff_ne, beq_iff_eq, ne_eq, Bool.not_true, Bool.not_false, beq_eq_false_iff_ne, bne_eq_false_iff_eq, Decidable.not_not, Int.not_lt, Int.not_le, Bool.and_eq_true, Bool.and_eq_false_iff, Bool.or_eq_true, Bool.or_eq_false_iff, List.length_map] at hc
      refine xa_exit ?_
      refine xa_seq ?_
      refine xa_region ?_
      refine x_move rfl rfl ?_
      refine x_assign rfl rfl rfl ?_
      refine xr_nil ⟨nofun, [(.t 2, _)], ⟨rfl, rfl, trivial⟩, ?_⟩
      refine xa_ret ?_
      refine ⟨_, _, ?_, ret_val rfl rfl outs_nil⟩
      refine ⟨v, rfl, rfl, hv1, fun x hx2 => ?_⟩
      obtain ⟨j, hj, rfl⟩ := mem_getD hx2
      exact hv2 j (by omega)

theorem keep_s_placesValid : keepOf Try.f94 = [0, 1, 2, 6] := by kernel_rfl
set_option maxHeartbeats 20000000 in
theorem s_placesValid (xs ys : List Int) (hl : xs.length ≤ 1048576) (hl2 : ys.length ≤ 1048576) : CW cxT 94 [L xs, L ys, iV 7] = some (bV (vpS xs ys && decide (1 ≤ xs.length)), []) := by
  refine fn_intro rfl Try.func94 rfl ⟨by kernel_rfl, rfl, of_decide_eq_true rfl, of_decide_eq_true rfl, by decide⟩ keep_s_placesValid ?_
  refine xa_seq ?_
  refine xa_region ?_
  refine x_assign rfl rfl rfl ?_
  refine xr_nil ⟨nofun, [(.t 0, _), (.t 1, _), (.t 2, _)], ⟨rfl, rfl, rfl, rfl, rfl, rfl, trivial⟩, ?_⟩
  refine xa_seq ?_
  refine xa_region ?_
  refine x_move rfl rfl ?_
  refine x_len_map rfl rfl ?_
  refine x_move rfl rfl ?_
  refine x_len_map rfl rfl ?_
  refine x_eql rfl rfl ?_
  refine x_move rfl rfl ?_
  refine x_guard_split rfl rfl (fun hg0 => ?_) (fun hg0 => ?_)
  · have hg := hg0; try simp only [decide_eq_true_eq, decide_eq_false_iff_not, Bool.not_eq_true', Bool.not_eq_false', bne_iff_ne, beq_iff_eq, ne_eq, Bool.not_true, Bool.not_false, beq_eq_false_iff_ne, bne_eq_false_iff_eq, Decidable.not_not, Int.not_lt, Int.not_le, Bool.and_eq_true, Bool.and_eq_false_iff, Bool.or_eq_true, Bool.or_eq_false_iff] at hg
    refine x_move rfl rfl ?_
    refine x_guard_t rfl rfl (by assumption) ?_
    refine x_len_map rfl rfl ?_
    refine x_guard_t rfl rfl (by assumption) ?_
    refine x_move rfl rfl ?_
    refine x_guard_t rfl rfl (by assumption) ?_
    apply x_call rfl
    · apply pa_cons
      · exact pa_plain rfl
      apply pa_cons
      · exact pa_plain rfl
      apply pa_cons
      · exact pa_plain rfl
      exact pa_nil
    · exact s_in _ _ _
    · exact ⟨rfl, rfl, rfl, of_decide_eq_true rfl, rfl⟩
    · exact .inl rfl
    · exact back_nil
    · exact inst_plain rfl
    · exact fun _ => rfl
    intro g16
    refine x_pick_t rfl (by assumption) rfl rfl ?_
    refine x_move rfl rfl ?_
    refine x_guard_split rfl rfl (fun hg0 => ?_) (fun hg0 => ?_)
    · have hg := hg0; try simp only [decide_eq_true_eq, decide_eq_false_iff_not, Bool.not_eq_true', Bool.not_eq_false', bne_iff_ne, beq_iff_eq, ne_eq, Bool.not_true, Bool.not_false, beq_eq_false_iff_ne, bne_eq_false_iff_eq, Decidable.not_not, Int.not_lt, Int.not_le, Bool.and_eq_true, Bool.and_eq_false_iff, Bool.or_eq_true, Bool.or_eq_false_iff] at hg
      refine x_move rfl rfl ?_
      refine x_guard_t rfl rfl (by assumption) ?_
      apply x_call rfl
      · apply pa_cons
        · exact pa_plain rfl
        apply pa_cons
        · exact pa_plain rfl
        apply pa_cons
        · exact pa_plain rfl
        exact pa_nil
      · exact s_allIn xs (by omega) (-12) 12
      · exact ⟨rfl, rfl, rfl, of_decide_eq_true rfl, rfl⟩
      · exact .inl rfl
      · exact back_nil
      · exact inst_plain rfl
      · exact fun _ => rfl
      intro g20
      refine x_pick_t rfl (by assumption) rfl rfl ?_
      refine x_move rfl rfl ?_
      refine x_guard_split rfl rfl (fun hg0 => ?_) (fun hg0 => ?_)
      · have hg := hg0; try simp only [decide_eq_true_eq, decide_eq_false_iff_not, Bool.not_eq_true', Bool.not_eq_false', bne_iff_ne, beq_iff_eq, ne_eq, Bool.not_true, Bool.not_false, beq_eq_false_iff_ne, bne_eq_false_iff_eq, Decidable.not_not, Int.not_lt, Int.not_le, Bool.and_eq_true, Bool.and_eq_false_iff, Bool.or_eq_true, Bool.or_eq_false_iff] at hg
        refine x_move rfl rfl ?_
        refine x_guard_t rfl rfl (by assumption) ?_
        apply x_call rfl
        · apply pa_cons
          · exact pa_plain rfl
          apply pa_cons
          · exact pa_plain rfl
          apply pa_cons
          · exact pa_plain rfl
          exact pa_nil
        · exact s_allIn ys (by omega) (-12) 12
        · exact ⟨rfl, rfl, rfl, of_decide_eq_true rfl, rfl⟩
        · exact .inl rfl
        · exact back_nil
        · exact inst_plain rfl
        · exact fun _ => rfl
        intro g24
        refine x_pick_t rfl (by assumption) rfl rfl ?_
        refine x_assign rfl rfl rfl ?_
        refine xr_nil ⟨nofun, [(.t 6, _)], ⟨rfl, rfl, trivial⟩, ?_⟩
        refine xa_ret ?_
        refine ret_val' rfl rfl trivial ?_
        (rw [pl_t (by omega) (by omega) (by omega)]; simp_all [ofConst])
      · have hg := hg0; try simp only [decide_eq_true_eq, decide_eq_false_iff_not, Bool.not_eq_true', Bool.not_eq_false', bne_iff_ne, beq_iff_eq, ne_eq, Bool.not_true, Bool.not_false, beq_eq_false_iff_ne, bne_eq_false_iff_eq, Decidable.not_not, Int.not_lt, Int.not_le, Bool.and_eq_true, Bool.and_eq_false_iff, Bool.or_eq_true, Bool.or_eq_false_iff] at hg
        refine x_guard_f rfl rfl (by assumption) ?_
        refine x_pick_f rfl (by assumption) rfl rfl ?_
        refine x_assign rfl rfl rfl ?_
        refine xr_nil ⟨nofun, [(.t 6, _)], ⟨rfl, rfl, trivial⟩, ?_⟩
        refine xa_ret ?_
        refine ret_val' rfl rfl trivial ?_
        (rw [pl_t (by omega) (by omega) (by omega)]; simp_all [ofConst])
    · have hg := hg0; try simp only [decide_eq_true_eq, decide_eq_false_iff_not, Bool.not_eq_true', Bool.not_eq_false', bne_iff_ne, beq_iff_eq, ne_eq, Bool.not_true, Bool.not_false, beq_eq_false_iff_ne, bne_eq_false_iff_eq, Decidable.not_not, Int.not_lt, Int.not_le, Bool.and_eq_true, Bool.and_eq_false_iff, Bool.or_eq_true, Bool.or_eq_false_iff] at hg
      refine x_guard_f rfl rfl (by assumption) ?_
      refine x_pick_f rfl (by assumption) rfl rfl ?_
      refine x_move rfl rfl ?_
      refine x_guard_f rfl rfl (by rfl) ?_
      refine x_guard_f rfl rfl (by rfl) ?_
      refine x_pick_f rfl (by rfl) rfl rfl ?_
      refine x_assign rfl rfl rfl ?_
      refine xr_nil ⟨nofun, [(.t 6, _)], ⟨rfl, rfl, trivial⟩, ?_⟩
      refine xa_ret ?_
      refine ret_val' rfl rfl trivial ?_
      (rw [pl_f (by omega)]; rfl)
  · have hg := hg0; try simp only [decide_eq_true_eq, decide_eq_false_iff_not, Bool.not_eq_true', Bool.not_eq_false', bne_iff_ne, beq_iff_eq, ne_eq, Bool.not_true, Bool.not_false, beq_eq_false_iff_ne, bne_eq_false_iff_eq, Decidable.not_not, Int.not_lt, Int.not_le, Bool.and_eq_true, Bool.and_eq_false_iff, Bool.or_eq_true, Bool.or_eq_false_iff] at hg
    refine x_guard_f rfl rfl (by assumption) ?_
    refine x_guard_f rfl rfl (by assumption) ?_
    refine x_guard_f rfl rfl (by assumption) ?_
    refine x_pick_f rfl (by assumption) rfl rfl ?_
    refine x_move rfl rfl ?_
    refine x_guard_f rfl rfl (by rfl) ?_
    refine x_guard_f rfl rfl (by rfl) ?_
    refine x_pick_f rfl (by rfl) rfl rfl ?_
    refine x_move rfl rfl ?_
    refine x_guard_f rfl rfl (by rfl) ?_
    refine x_guard_f rfl rfl (by rfl) ?_
    refine x_pick_f rfl (by rfl) rfl rfl ?_
    refine x_assign rfl rfl rfl ?_
    refine xr_nil ⟨nofun, [(.t 6, _)], ⟨rfl, rfl, trivial⟩, ?_⟩
    refine xa_ret ?_
    refine ret_val' rfl rfl trivial ?_
    (rw [pl_f (by omega)]; rfl)

theorem keep_s_validPoints : keepOf Try.f91 = [0, 1, 4, 5, 9, 31] := by kernel_rfl
set_option maxHeartbeats 20000000 in
theorem s_validPoints (xs ys : List Int) (hl : xs.length ≤ 1048576) (hl2 : ys.length ≤ 1048576) : CW cxT 91 [L xs, L ys] = some (bV (vpS xs ys), []) := by
  refine fn_intro rfl Try.func91 rfl ⟨by kernel_rfl, rfl, of_decide_eq_true rfl, of_decide_eq_true rfl, by decide⟩ keep_s_validPoints ?_
  refine xa_seq ?_
  refine xa_region ?_
  refine x_assign rfl rfl rfl ?_
  refine xr_nil ⟨nofun, [(.t 0, _), (.t 1, _)], ⟨rfl, rfl, rfl, rfl, trivial⟩, ?_⟩
  refine xa_seq ?_
  refine xa_seq ?_
  refine xa_region ?_
  refine x_assign rfl rfl rfl ?_
  refine xr_nil ⟨nofun, [(.t 0, _), (.t 1, _), (.t 5, _)], ⟨rfl, rfl, rfl, rfl, rfl, rfl, trivial⟩, ?_⟩
  refine xa_block ?_
  refine xa_loopK (β := Nat) [(.t 0, _), (.t 1, _)] (fun (i : Nat) => [(.t 5, iV i)]) (fun (i : Nat) => i ≤ xs.length ∧ ∀ j, j < i → j < ys.length ∧ (-12 ≤ xs.getD j default ∧ xs.getD j default ≤ 12) ∧ (-12 ≤ ys.getD j default ∧ ys.getD j default ≤ 12)) (fun (i : Nat) => xs.length - i) 0 ⟨rfl, rfl, rfl, trivial⟩ ⟨Nat.zero_le _, fun j h => by omega⟩ ?_
  intro i hb
  obtain ⟨hi1, hi2⟩ := hb
  refine xa_seq ?_
  refine xa_seq ?_
  refine xa_region ?_
  refine x_move rfl rfl ?_
  refine x_move rfl rfl ?_
  refine x_len_map rfl rfl ?_
  refine x_lss rfl rfl ?_
  refine xr_nil ⟨nofun, [(.t 0, _), (.t 1, _), (.t 5, _), (.t 9, _)], ⟨rfl, rfl, rfl, rfl, rfl, rfl, rfl, rfl, trivial⟩, ?_⟩
  refine xa_cond rfl (fun hc => ?_) (fun hc => ?_)
  · try simp only [decide_eq_true_eq, decide_eq_false_iff_not, Bool.not_eq_true', Bool.not_eq_false', bne_iff_ne, beq_iff_eq, ne_eq, Bool.not_true, Bool.not_false, beq_eq_false_iff_ne, bne_eq_false_iff_eq, Decidable.not_not, Int.not_lt, Int.not_le, Bool.and_eq_true, Bool.and_eq_false_iff, Bool.or_eq_true, Bool.or_eq_false_iff, List.length_map] at hc
    refine xa_skip ?_
    refine xa_seq ?_
    refine xa_block ?_
    refine xa_seq ?_
    refine xa_region ?_
    refine x_move rfl rfl ?_
    refine x_move rfl rfl ?_
    refine x_len_map rfl rfl ?_
    refine x_geq rfl rfl ?_
    refine x_move rfl rfl ?_
    refine x_guard_split rfl rfl (fun hg0 => ?_) (fun hg0 => ?_)
    · have hg := hg0; try simp only [decide_eq_true_eq, decide_eq_false_iff_not, Bool.not_eq_true', Bool.not_eq_false', bne_iff_ne, beq_iff_eq, ne_eq, Bool.not_true, Bool.not_false, beq_eq_false_iff_ne, bne_eq_false_iff_eq, Decidable.not_not, Int.not_lt, Int.not_le, Bool.and_eq_true, Bool.and_eq_false_iff, Bool.or_eq_true, Bool.or_eq_false_iff] at hg
      refine x_move rfl rfl ?_
      refine x_guard_t rfl rfl (by assumption) ?_
      refine x_move rfl rfl ?_
      refine x_guard_t rfl rfl (by assumption) ?_
      refine x_index_listN rfl rfl rfl (fun _ => rfl) (by omega) ?_
      refine x_guard_t rfl rfl (by assumption) ?_
      refine x_load_iptV rfl rfl rfl ?_
      refine x_guard_t rfl rfl (by assumption) ?_
      apply x_call rfl
      · apply pa_cons
        · exact pa_plain rfl
        apply pa_cons
        · exact pa_plain rfl
        apply pa_cons
        · exact pa_plain rfl
        exact pa_nil
      · exact s_inRange _ _ _
      · exact ⟨rfl, rfl, rfl, of_decide_eq_true rfl, rfl⟩
      · exact .inl rfl
      · exact back_nil
      · exact inst_plain rfl
      · exact fun _ => rfl
      intro g21
      refine x_guard_t rfl rfl (by assumption) ?_
      refine x_not rfl ?_
      refine x_pick_f rfl (by assumption) rfl rfl ?_
      refine x_move rfl rfl ?_
      refine x_guard_split rfl rfl (fun hg0 => ?_) (fun hg0 => ?_)
      · have hg := hg0; try simp only [decide_eq_true_eq, decide_eq_false_iff_not, Bool.not_eq_true', Bool.not_eq_false', bne_iff_ne, beq_iff_eq, ne_eq, Bool.not_true, Bool.not_false, beq_eq_false_iff_ne, bne_eq_false_iff_eq, Decidable.not_not, Int.not_lt, Int.not_le, Bool.and_eq_true, Bool.and_eq_false_iff, Bool.or_eq_true, Bool.or_eq_false_iff] at hg
        refine x_move rfl rfl ?_
        refine x_guard_t rfl rfl (by assumption) ?_
        refine x_move rfl rfl ?_
        refine x_guard_t rfl rfl (by assumption) ?_
        refine x_index_listN rfl rfl rfl (fun _ => rfl) (by omega) ?_
        refine x_guard_t rfl rfl (by assumption) ?_
        refine x_load_iptV rfl rfl rfl ?_
        refine x_guard_t rfl rfl (by assumption) ?_
        apply x_call rfl
        · apply pa_cons
          · exact pa_plain rfl
          apply pa_cons
          · exact pa_plain rfl
          apply pa_cons
          · exact pa_plain rfl
          exact pa_nil
        · exact s_inRange _ _ _
        · exact ⟨rfl, rfl, rfl, of_decide_eq_true rfl, rfl⟩
        · exact .inl rfl
        · exact back_nil
        · exact inst_plain rfl
        · exact fun _ => rfl
        intro g29
        refine x_guard_t rfl rfl (by assumption) ?_
        refine x_not rfl ?_
        refine x_pick_f rfl (by assumption) rfl rfl ?_
        refine xr_nil ⟨nofun, [(.t 0, _), (.t 1, _), (.t 5, _), (.t 31, _)], ⟨rfl, rfl, rfl, rfl, rfl, rfl, rfl, rfl, trivial⟩, ?_⟩
        refine xa_cond rfl (fun hc => ?_) (fun hc => ?_)
        · try simp only [decide_eq_true_eq, decide_eq_false_iff_not, Bool.not_eq_true', Bool.not_eq_false', bne_iff_ne, beq_iff_eq, ne_eq, Bool.not_true, Bool.not_false, beq_eq_false_iff_ne, bne_eq_false_iff_eq, Decidable.not_not, Int.not_lt, Int.not_le, Bool.and_eq_true, Bool.and_eq_false_iff, Bool.or_eq_true, Bool.or_eq_false_iff, List.length_map] at hc
          refine xa_seq ?_
          refine xa_region ?_
          refine x_assign rfl rfl rfl ?_
          refine xr_nil ⟨nofun, [(.t 4, _)], ⟨rfl, rfl, trivial⟩, ?_⟩
          refine xa_ret ?_
          refine ret_val' rfl rfl trivial ?_
          exact congrArg bV (vpS_bad (show i < xs.length by omega) (by simp_all; omega)).symm
        · try simp only [decide_eq_true_eq, decide_eq_false_iff_not, Bool.not_eq_true', Bool.not_eq_false', bne_iff_ne, beq_iff_eq, ne_eq, Bool.not_true, Bool.not_false, beq_eq_false_iff_ne, bne_eq_false_iff_eq, Decidable.not_not, Int.not_lt, Int.not_le, Bool.and_eq_true, Bool.and_eq_false_iff, Bool.or_eq_true, Bool.or_eq_false_iff, List.length_map] at hc
          refine xa_skip ?_
          refine xa_region ?_
          refine x_move rfl rfl ?_
          refine x_add rfl rfl (inI64 (by omega)) ?_
          refine x_assign rfl rfl rfl ?_
          refine xr_nil ⟨nofun, [(.t 0, _), (.t 1, _), (.t 5, _)], ⟨rfl, rfl, rfl, rfl, rfl, rfl, trivial⟩, ?_⟩
          refine ⟨i + 1, ⟨by omega, fun j hj => by rcases Nat.lt_succ_iff_lt_or_eq.1 hj with h | h; (· exact hi2 j h); (· subst h; (simp_all; done))⟩, (by omega), ⟨rfl, rfl, rfl, trivial⟩⟩
      · have hg := hg0; try simp only [decide_eq_true_eq, decide_eq_false_iff_not, Bool.not_eq_true', Bool.not_eq_false', bne_iff_ne, beq_iff_eq, ne_eq, Bool.not_true, Bool.not_false, beq_eq_false_iff_ne, bne_eq_false_iff_eq, Decidable.not_not, Int.not_lt, Int.not_le, Bool.and_eq_true, Bool.and_eq_false_iff, Bool.or_eq_true, Bool.or_eq_false_iff] at hg
        refine x_guard_f rfl rfl (by assumption) ?_
        refine x_guard_f rfl rfl (by assumption) ?_
        refine x_guard_f rfl rfl (by assumption) ?_
        refine x_guard_f rfl rfl (by assumption) ?_
        refine x_guard_f rfl rfl (by assumption) ?_
        refine x_pick_t rfl (by assumption) rfl rfl ?_
        refine xr_nil ⟨nofun, [(.t 0, _), (.t 1, _), (.t 5, _), (.t 31, _)], ⟨rfl, rfl, rfl, rfl, rfl, rfl, rfl, rfl, trivial⟩, ?_⟩
        refine xa_cond rfl (fun hc => ?_) (fun hc => absurd hc (by decide))
        refine xa_seq ?_
        refine xa_region ?_
        refine x_assign rfl rfl rfl ?_
        refine xr_nil ⟨nofun, [(.t 4, _)], ⟨rfl, rfl, trivial⟩, ?_⟩
        refine xa_ret ?_
        refine ret_val' rfl rfl trivial ?_
        exact congrArg bV (vpS_bad (show i < xs.length by omega) (by simp_all; omega)).symm
    · have hg := hg0; try simp only [decide_eq_true_eq, decide_eq_false_iff_not, Bool.not_eq_true', Bool.not_eq_false', bne_iff_ne, beq_iff_eq, ne_eq, Bool.not_true, Bool.not_false, beq_eq_false_iff_ne, bne_eq_false_iff_eq, Decidable.not_not, Int.not_lt, Int.not_le, Bool.and_eq_true, Bool.and_eq_false_iff, Bool.or_eq_true, Bool.or_eq_false_iff] at hg
      refine x_guard_f rfl rfl (by assumption) ?_
      refine x_guard_f rfl rfl (by assumption) ?_
      refine x_guard_f rfl rfl (by assumption) ?_
      refine x_guard_f rfl rfl (by assumption) ?_
      refine x_guard_f rfl rfl (by assumption) ?_
      refine x_pick_t rfl (by assumption) rfl rfl ?_
      refine x_move rfl rfl ?_
      refine x_guard_f rfl rfl (by rfl) ?_
      refine x_guard_f rfl rfl (by rfl) ?_
      refine x_guard_f rfl rfl (by rfl) ?_
      refine x_guard_f rfl rfl (by rfl) ?_
      refine x_guard_f rfl rfl (by rfl) ?_
      refine x_guard_f rfl rfl (by rfl) ?_
      refine x_pick_t rfl (by rfl) rfl rfl ?_
      refine xr_nil ⟨nofun, [(.t 0, _), (.t 1, _), (.t 5, _), (.t 31, _)], ⟨rfl, rfl, rfl, rfl, rfl, rfl, rfl, rfl, trivial⟩, ?_⟩
      refine xa_cond rfl (fun hc => ?_) (fun hc => absurd hc (by decide))
      refine xa_seq ?_
      refine xa_region ?_
      refine x_assign rfl rfl rfl ?_
      refine xr_nil ⟨nofun, [(.t 4, _)], ⟨rfl, rfl, trivial⟩, ?_⟩
      refine xa_ret ?_
      refine ret_val' rfl rfl trivial ?_
      exact congrArg bV (vpS_bad (show i < xs.length by omega) (by simp_all; omega)).symm
  · try simp only [decide_eq_true_eq, decide_eq_false_iff_not, Bool.not_eq_true', Bool.not_eq_false', bne_iff_ne, beq_iff_eq, ne_eq, Bool.not_true, Bool.not_false, beq_eq_false_iff_ne, bne_eq_false_iff_eq, Decidable.not_not, Int.not_lt, Int.not_le, Bool.and_eq_true, Bool.and_eq_false_iff, Bool.or_eq_true, Bool.or_eq_false_iff, List.length_map] at hc
    refine xa_exit ?_
    refine xa_seq ?_
    refine xa_region ?_
    refine x_move rfl rfl ?_
    refine x_len_map rfl rfl ?_
    refine x_move rfl rfl ?_
    refine x_len_map rfl rfl ?_
    refine x_eql rfl rfl ?_
    refine x_move rfl rfl ?_
    refine x_guard_split rfl rfl (fun hg0 => ?_) (fun hg0 => ?_)
    · have hg := hg0; try simp only [decide_eq_true_eq, decide_eq_false_iff_not, Bool.not_eq_true', Bool.not_eq_false', bne_iff_ne, beq_iff_eq, ne_eq, Bool.not_true, Bool.not_false, beq_eq_false_iff_ne, bne_eq_false_iff_eq, Decidable.not_not, Int.not_lt, Int.not_le, Bool.and_eq_true, Bool.and_eq_false_iff, Bool.or_eq_true, Bool.or_eq_false_iff] at hg
      refine x_move rfl rfl ?_
      refine x_guard_t rfl rfl (by assumption) ?_
      refine x_len_map rfl rfl ?_
      refine x_guard_t rfl rfl (by assumption) ?_
      refine x_leq rfl rfl ?_
      refine x_pick_t rfl (by assumption) rfl rfl ?_
      refine x_assign rfl rfl rfl ?_
      refine xr_nil ⟨nofun, [(.t 4, _)], ⟨rfl, rfl, trivial⟩, ?_⟩
      refine xa_ret ?_
      refine ret_val' rfl rfl trivial ?_
      (rw [vpS_good fun j hj => hi2 j (by omega)]; simp_all [ofConst])
    · have hg := hg0; try simp only [decide_eq_true_eq, decide_eq_false_iff_not, Bool.not_eq_true', Bool.not_eq_false', bne_iff_ne, beq_iff_eq, ne_eq, Bool.not_true, Bool.not_false, beq_eq_false_iff_ne, bne_eq_false_iff_eq, Decidable.not_not, Int.not_lt, Int.not_le, Bool.and_eq_true, Bool.and_eq_false_iff, Bool.or_eq_true, Bool.or_eq_false_iff] at hg
      refine x_guard_f rfl rfl (by assumption) ?_
      refine x_guard_f rfl rfl (by assumption) ?_
      refine x_pick_f rfl (by assumption) rfl rfl ?_
      refine x_assign rfl rfl rfl ?_
      refine xr_nil ⟨nofun, [(.t 4, _)], ⟨rfl, rfl, trivial⟩, ?_⟩
      refine xa_ret ?_
      refine ret_val' rfl rfl trivial ?_
      (rw [vpS_good fun j hj => hi2 j (by omega)]; simp_all [ofConst])

theorem keep_s_wide : keepOf Try.f92 = [0, 2, 3, 7, 17] := by kernel_rfl
set_option maxHeartbeats 20000000 in
theorem s_wide (xs : List Int) (hl : xs.length ≤ 1048576) : CW cxT 92 [L xs] = some (bV (wd xs), []) := by
  refine fn_intro rfl Try.func92 rfl ⟨by kernel_rfl, rfl, of_decide_eq_true rfl, of_decide_eq_true rfl, by decide⟩ keep_s_wide ?_
  refine xa_seq ?_
  refine xa_region ?_
  refine x_assign rfl rfl rfl ?_
  refine xr_nil ⟨nofun, [(.t 0, _)], ⟨rfl, rfl, trivial⟩, ?_⟩
  refine xa_seq ?_
  refine xa_seq ?_
  refine xa_region ?_
  refine x_assign rfl rfl rfl ?_
  refine xr_nil ⟨nofun, [(.t 0, _), (.t 3, _)], ⟨rfl, rfl, rfl, rfl, trivial⟩, ?_⟩
  refine xa_block ?_
  refine xa_loopK (β := Nat) [(.t 0, _)] (fun (i : Nat) => [(.t 3, iV i)]) (fun (i : Nat) => 1 ≤ i ∧ (i ≤ xs.length ∨ i = 1) ∧ ∀ j, j < i → xs.getD j default = xs.getD 0 default) (fun (i : Nat) => xs.length - i) 1 ⟨rfl, rfl, trivial⟩ ⟨Nat.le_refl _, .inr rfl, fun j h => by have h0 : j = 0 := (by omega); rw [h0]⟩ ?_
  intro i hb
  obtain ⟨hi0, hi1, hi2⟩ := hb
  refine xa_seq ?_
  refine xa_seq ?_
  refine xa_region ?_
  refine x_move rfl rfl ?_
  refine x_move rfl rfl ?_
  refine x_len_map rfl rfl ?_
  refine x_lss rfl rfl ?_
  refine xr_nil ⟨nofun, [(.t 0, _), (.t 3, _), (.t 7, _)], ⟨rfl, rfl, rfl, rfl, rfl, rfl, trivial⟩, ?_⟩
  refine xa_cond rfl (fun hc => ?_) (fun hc => ?_)
  · try simp only [decide_eq_true_eq, decide_eq_false_iff_not, Bool.not_eq_true', Bool.not_eq_false', bne_iff_ne, beq_iff_eq, ne_eq, Bool.not_true, Bool.not_false, beq_eq_false_iff_ne, bne_eq_false_iff_eq, Decidable.not_not, Int.not_lt, Int.not_le, Bool.and_eq_true, Bool.and_eq_false_iff, Bool.or_eq_true, Bool.or_eq_false_iff, List.length_map] at hc
    refine xa_skip ?_
    refine xa_seq ?_
    refine xa_block ?_
    refine xa_seq ?_
    refine xa_region ?_
    refine x_move rfl rfl ?_
    refine x_move rfl rfl ?_
    refine x_index_listN rfl rfl rfl (fun _ => rfl) (by omega) ?_
    refine x_load_iptV rfl rfl rfl ?_
    refine x_move rfl rfl ?_
    refine x_index_listN rfl rfl rfl (fun _ => rfl) (by (change 0 < _; omega)) ?_
    refine x_load_iptV rfl rfl rfl ?_
    refine x_neq rfl rfl ?_
    refine xr_nil ⟨fun _ => ⟨by decide +kernel, by decide +kernel⟩, [(.t 0, _), (.t 3, _), (.t 17, _)], ⟨rfl, rfl, rfl, rfl, rfl, rfl, trivial⟩, ?_⟩
    refine xa_cond rfl (fun hc => ?_) (fun hc => ?_)
    · try simp only [decide_eq_true_eq, decide_eq_false_iff_not, Bool.not_eq_true', Bool.not_eq_false', bne_iff_ne, beq_iff_eq, ne_eq, Bool.not_true, Bool.not_false, beq_eq_false_iff_ne, bne_eq_false_iff_eq, Decidable.not_not, Int.not_lt, Int.not_le, Bool.and_eq_true, Bool.and_eq_false_iff, Bool.or_eq_true, Bool.or_eq_false_iff, List.length_map] at hc
      refine xa_seq ?_
      refine xa_region ?_
      refine x_assign rfl rfl rfl ?_
      refine xr_nil ⟨nofun, [(.t 2, _)], ⟨rfl, rfl, trivial⟩, ?_⟩
      refine xa_ret ?_
      refine ret_val' rfl rfl trivial ?_
      exact congrArg bV (wd_t (show i < xs.length by omega) hc).symm
    · try simp only [decide_eq_true_eq, decide_eq_false_iff_not, Bool.not_eq_true', Bool.not_eq_false', bne_iff_ne, beq_iff_eq, ne_eq, Bool.not_true, Bool.not_false, beq_eq_false_iff_ne, bne_eq_false_iff_eq, Decidable.not_not, Int.not_lt, Int.not_le, Bool.and_eq_true, Bool.and_eq_false_iff, Bool.or_eq_true, Bool.or_eq_false_iff, List.length_map] at hc
      refine xa_skip ?_
      refine xa_region ?_
      refine x_move rfl rfl ?_
      refine x_add rfl rfl (inI64 (by omega)) ?_
      refine x_assign rfl rfl rfl ?_
      refine xr_nil ⟨nofun, [(.t 0, _), (.t 3, _)], ⟨rfl, rfl, rfl, rfl, trivial⟩, ?_⟩
      refine ⟨i + 1, ⟨by omega, .inl (by omega), fun j hj => by rcases Nat.lt_succ_iff_lt_or_eq.1 hj with h | h; (· exact hi2 j h); (· subst h; exact hc)⟩, (by omega), ⟨rfl, rfl, trivial⟩⟩
  · try simp only [decide_eq_true_eq, decide_eq_false_iff_not, Bool.not_eq_true', Bool.not_eq_false', bne_iff_ne, beq_iff_eq, ne_eq, Bool.not_true, Bool.not_false, beq_eq_false_iff_ne, bne_eq_false_iff_eq, Decidable.not_not, Int.not_lt, Int.not_le, Bool.and_eq_true, Bool.and_eq_false_iff, Bool.or_eq_true, Bool.or_eq_false_iff, List.length_map] at hc
    refine xa_exit ?_
    refine xa_seq ?_
    refine xa_region ?_
    refine x_assign rfl rfl rfl ?_
    refine xr_nil ⟨nofun, [(.t 2, _)], ⟨rfl, rfl, trivial⟩, ?_⟩
    refine xa_ret ?_
    refine ret_val' rfl rfl trivial ?_
    exact congrArg bV (wd_f fun j hj => hi2 j (by omega)).symm

theorem keep_s_validCloud : keepOf Try.f45 = [0, 1, 4] := by kernel_rfl
set_option maxHeartbeats 20000000 in
theorem s_validCloud (xs ys : List Int) (hl : xs.length ≤ 1048576) (hl2 : ys.length ≤ 1048576) : CW cxT 45 [L xs, L ys] = some (bV (vc xs ys), []) := by
  refine fn_intro rfl Try.func45 rfl ⟨by kernel_rfl, rfl, of_decide_eq_true rfl, of_decide_eq_true rfl, by decide⟩ keep_s_validCloud ?_
  refine xa_seq ?_
  refine xa_region ?_
  refine x_assign rfl rfl rfl ?_
  refine xr_nil ⟨nofun, [(.t 0, _), (.t 1, _)], ⟨rfl, rfl, rfl, rfl, trivial⟩, ?_⟩
  refine xa_seq ?_
  refine xa_region ?_
  refine x_move rfl rfl ?_
  refine x_move rfl rfl ?_
  apply x_call rfl
  · apply pa_cons
    · exact pa_plain rfl
    apply pa_cons
    · exact pa_plain rfl
    exact pa_nil
  · exact s_validPoints xs ys hl hl2
  · exact ⟨rfl, rfl, rfl, of_decide_eq_true rfl, rfl⟩
  · exact .inl rfl
  · exact back_nil
  · exact inst_plain rfl
  · exact fun _ => rfl
  intro g7
  refine x_move rfl rfl ?_
  refine x_guard_split rfl rfl (fun hg0 => ?_) (fun hg0 => ?_)
  · have hg := hg0; try simp only [decide_eq_true_eq, decide_eq_false_iff_not, Bool.not_eq_true', Bool.not_eq_false', bne_iff_ne, beq_iff_eq, ne_eq, Bool.not_true, Bool.not_false, beq_eq_false_iff_ne, bne_eq_false_iff_eq, Decidable.not_not, Int.not_lt, Int.not_le, Bool.and_eq_true, Bool.and_eq_false_iff, Bool.or_eq_true, Bool.or_eq_false_iff] at hg
    refine x_move rfl rfl ?_
    refine x_guard_t rfl rfl (by assumption) ?_
    apply x_call rfl
    · apply pa_cons
      · exact pa_plain rfl
      exact pa_nil
    · exact s_wide xs hl
    · exact ⟨rfl, rfl, rfl, of_decide_eq_true rfl, rfl⟩
    · exact .inl rfl
    · exact back_nil
    · exact inst_plain rfl
    · exact fun _ => rfl
    intro g10
    refine x_pick_t rfl (by assumption) rfl rfl ?_
    refine x_assign rfl rfl rfl ?_
    refine xr_nil ⟨nofun, [(.t 4, _)], ⟨rfl, rfl, trivial⟩, ?_⟩
    refine xa_ret ?_
    refine ret_val' rfl rfl trivial ?_
    simp_all [vc, ofConst]
  · have hg := hg0; try simp only [decide_eq_true_eq, decide_eq_false_iff_not, Bool.not_eq_true', Bool.not_eq_false', bne_iff_ne, beq_iff_eq, ne_eq, Bool.not_true, Bool.not_false, beq_eq_false_iff_ne, bne_eq_false_iff_eq, Decidable.not_not, Int.not_lt, Int.not_le, Bool.and_eq_true, Bool.and_eq_false_iff, Bool.or_eq_true, Bool.or_eq_false_iff] at hg
    refine x_guard_f rfl rfl (by assumption) ?_
    refine x_pick_f rfl (by assumption) rfl rfl ?_
    refine x_assign rfl rfl rfl ?_
    refine xr_nil ⟨nofun, [(.t 4, _)], ⟨rfl, rfl, trivial⟩, ?_⟩
    refine xa_ret ?_
    refine ret_val' rfl rfl trivial ?_
    simp_all [vc, ofConst]

theorem keep_s_validCloudI : keepOf Try.f51 = [0, 1, 4] := by kernel_rfl
set_option maxHeartbeats 20000000 in
theorem s_validCloudI (xs ys : List Int) (hl : xs.length ≤ 1048576) (hl2 : ys.length ≤ 1048576) : CW cxT 51 [L xs, L ys] = some (bV (vc xs ys), []) := by
  refine fn_intro rfl Try.func51 rfl ⟨by kernel_rfl, rfl, of_decide_eq_true rfl, of_decide_eq_true rfl, by decide⟩ keep_s_validCloudI ?_
  refine xa_seq ?_
  refine xa_region ?_
  refine x_assign rfl rfl rfl ?_
  refine xr_nil ⟨nofun, [(.t 0, _), (.t 1, _)], ⟨rfl, rfl, rfl, rfl, trivial⟩, ?_⟩
  refine xa_seq ?_
  refine xa_region ?_
  refine x_move rfl rfl ?_
  refine x_move rfl rfl ?_
  apply x_call rfl
  · apply pa_cons
    · exact pa_plain rfl
    apply pa_cons
    · exact pa_plain rfl
    apply pa_cons
    · exact pa_plain rfl
    exact pa_nil
  · exact s_placesValid xs ys hl hl2
  · exact ⟨rfl, rfl, rfl, of_decide_eq_true rfl, rfl⟩
  · exact .inl rfl
  · exact back_nil
  · exact inst_plain rfl
  · exact fun _ => rfl
  intro g7
  refine x_move rfl rfl ?_
  refine x_guard_split rfl rfl (fun hg0 => ?_) (fun hg0 => ?_)
  · have hg := hg0; try simp only [decide_eq_true_eq, decide_eq_false_iff_not, Bool.not_eq_true', Bool.not_eq_false', bne_iff_ne, beq_iff_eq, ne_eq, Bool.not_true, Bool.not_false, beq_eq_false_iff_ne, bne_eq_false_iff_eq, Decidable.not_not, Int.not_lt, Int.not_le, Bool.and_eq_true, Bool.and_eq_false_iff, Bool.or_eq_true, Bool.or_eq_false_iff] at hg
    refine x_move rfl rfl ?_
    refine x_guard_t rfl rfl (by assumption) ?_
    have hvp : vpS xs ys = true ∧ 1 ≤ xs.length := by simpa using hg0
    have h7 := (vpS_iff.1 hvp.1).2.1
    obtain ⟨_, _, ⟨mn, rfl, rfl, hmn1, hmn2⟩, hCn⟩ := s_Min xs ⟨hvp.2, by omega⟩
    obtain ⟨_, _, ⟨mx, rfl, rfl, hmx1, hmx2⟩, hCx⟩ := s_Max xs ⟨hvp.2, by omega⟩
    apply x_call rfl
    · apply pa_cons
      · exact pa_plain rfl
      exact pa_nil
    · exact hCn
    · exact ⟨rfl, rfl, rfl, of_decide_eq_true rfl, rfl⟩
    · exact .inl rfl
    · exact back_nil
    · exact inst_plain rfl
    · exact fun _ => rfl
    intro g10
    refine x_guard_t rfl rfl (by assumption) ?_
    refine x_move rfl rfl ?_
    refine x_guard_t rfl rfl (by assumption) ?_
    apply x_call rfl
    · apply pa_cons
      · exact pa_plain rfl
      exact pa_nil
    · exact hCx
    · exact ⟨rfl, rfl, rfl, of_decide_eq_true rfl, rfl⟩
    · exact .inl rfl
    · exact back_nil
    · exact inst_plain rfl
    · exact fun _ => rfl
    intro g12
    refine x_guard_t rfl rfl (by assumption) ?_
    refine x_lss rfl rfl ?_
    refine x_pick_t rfl (by assumption) rfl rfl ?_
    refine x_assign rfl rfl rfl ?_
    refine xr_nil ⟨nofun, [(.t 4, _)], ⟨rfl, rfl, trivial⟩, ?_⟩
    refine xa_ret ?_
    refine ret_val' rfl rfl trivial ?_
    (rw [wd_minmax hmn1 hmn2 hmx1 hmx2]; simp_all [vc, ofConst]; done)
  · have hg := hg0; try simp only [decide_eq_true_eq, decide_eq_false_iff_not, Bool.not_eq_true', Bool.not_eq_false', bne_iff_ne, beq_iff_eq, ne_eq, Bool.not_true, Bool.not_false, beq_eq_false_iff_ne, bne_eq_false_iff_eq, Decidable.not_not, Int.not_lt, Int.not_le, Bool.and_eq_true, Bool.and_eq_false_iff, Bool.or_eq_true, Bool.or_eq_false_iff] at hg
    refine x_guard_f rfl rfl (by assumption) ?_
    refine x_guard_f rfl rfl (by assumption) ?_
    refine x_guard_f rfl rfl (by assumption) ?_
    refine x_guard_f rfl rfl (by assumption) ?_
    refine x_pick_f rfl (by assumption) rfl rfl ?_
    refine x_assign rfl rfl rfl ?_
    refine xr_nil ⟨nofun, [(.t 4, _)], ⟨rfl, rfl, trivial⟩, ?_⟩
    refine xa_ret ?_
    refine ret_val' rfl rfl trivial ?_
    (simp only [vc]; cases h1 : vpS xs ys <;> simp_all [ofConst, wd]; done)

theorem keep_s_slope : keepOf Try.f90 = [0, 1, 2, 3, 8] := by kernel_rfl
set_option maxHeartbeats 20000000 in
theorem s_slope (xs ys : List Int) (hl : xs.length = ys.length) (h7 : xs.length ≤ 7) (hx : allB (-12) 12 xs = true) (hy : allB (-12) 12 ys = true) (i k : Nat) (hi : i < xs.length) (hk : k < xs.length) (hne : xs.getD i default ≠ xs.getD k default) : CW cxT 90 [L xs, L ys, nV i, nV k] = some (qV (slq xs ys i k), []) := by
  have h1 := getD_bd hx (by decide) i
  have h2 := getD_bd hx (by decide) k
  have h3 := getD_bd hy (by decide) i
  have h4 := getD_bd hy (by decide) k
  refine fn_intro rfl Try.func90 rfl ⟨by kernel_rfl, rfl, of_decide_eq_true rfl, of_decide_eq_true rfl, by decide⟩ keep_s_slope ?_
  refine xa_seq ?_
  refine xa_region ?_
  refine x_alloc rfl (fun _ => slot_box rfl) (fun _ => rfl) ?_
  intro g8
  refine xr_nil ⟨nofun, [(.t 0, _), (.t 1, _), (.t 2, _), (.t 3, _), (.t 8, _), (.h 8, _)], ⟨rfl, rfl, rfl, rfl, rfl, rfl, rfl, rfl, rfl, rfl, rfl, rfl, trivial⟩, ?_⟩
  refine xa_seq ?_
  refine xa_region ?_
  refine x_move rfl rfl ?_
  refine x_move rfl rfl ?_
  refine x_index_listN rfl rfl rfl (fun _ => rfl) (by omega) ?_
  refine x_load_iptV rfl rfl rfl ?_
  refine x_move rfl rfl ?_
  refine x_move rfl rfl ?_
  refine x_index_listN rfl rfl rfl (fun _ => rfl) (by omega) ?_
  refine x_load_iptV rfl rfl rfl ?_
  refine x_sub rfl rfl (inI64 (by omega)) ?_
  refine x_move rfl rfl ?_
  refine x_move rfl rfl ?_
  refine x_index_listN rfl rfl rfl (fun _ => rfl) (by omega) ?_
  refine x_load_iptV rfl rfl rfl ?_
  refine x_move rfl rfl ?_
  refine x_move rfl rfl ?_
  refine x_index_listN rfl rfl rfl (fun _ => rfl) (by omega) ?_
  refine x_load_iptV rfl rfl rfl ?_
  refine x_sub rfl rfl (inI64 (by omega)) ?_
  apply x_call rfl
  · apply pa_cons
    · exact pa_plain rfl
    apply pa_cons
    · exact pa_plain rfl
    exact pa_nil
  · exact s_fracI (ys.getD i default - ys.getD k default) (xs.getD i default - xs.getD k default) (by omega) (by omega) (by omega)
  · exact ⟨rfl, rfl, rfl, of_decide_eq_true rfl, rfl⟩
  · exact .inl rfl
  · exact back_nil
  · exact inst_plain rfl
  · exact fun _ => rfl
  intro g27
  refine x_store_boxV rfl rfl rfl rfl ⟨by decide, rfl, of_decide_eq_true rfl, of_decide_eq_true rfl, rfl⟩ rfl (by exact slot_box rfl) ?_
  refine xr_nil ⟨fun _ => ⟨by (simp only [wmap, List.nil_append, List.append_nil, List.map_cons, List.map_nil, List.cons_append]; decide +kernel), by decide +kernel⟩, [(.t 8, _), (.h 8, _)], ⟨rfl, rfl, rfl, rfl, trivial⟩, ?_⟩
  refine xa_ret ?_
  refine ret_tup (rl_cell rfl rfl rfl rfl rfl (rl_nil outs_nil)) ?_
  rfl

theorem keep_s_ClipF : keepOf Try.f98 = [0, 2] := by kernel_rfl
set_option maxHeartbeats 20000000 in
theorem s_ClipF (xs : List Rat) (hx : xs.length ≤ maxL) : CW cxT 98 [.own 2 (xs.map qV)] = some (.own 2 (xs.map qV), []) := by
  refine fn_intro rfl Try.func98 rfl ⟨by kernel_rfl, rfl, of_decide_eq_true rfl, of_decide_eq_true rfl, by decide⟩ keep_s_ClipF ?_
  refine xa_seq ?_
  refine xa_region ?_
  (refine x_assign_nil rfl rfl (fun _ => rfl) ?_; intro g2)
  refine xr_nil ⟨nofun, [(.t 0, _), (.h 0, _)], ⟨rfl, rfl, rfl, rfl, trivial⟩, ?_⟩
  refine xa_seq ?_
  refine xa_region ?_
  refine x_move rfl rfl ?_
  refine x_move rfl rfl ?_
  refine x_len_sl rfl rfl ?_
  refine x_move rfl rfl ?_
  refine x_len_sl rfl rfl ?_
  refine x_clip rfl rfl rfl rfl rfl rfl (fun hz => ?_) (fun hz => ?_)
  · skip
    (refine x_assign_nil rfl rfl (fun _ => rfl) ?_; intro g2)
    refine xr_nil ⟨nofun, [(.t 2, _), (.h 0, _), (.h 2, _)], ⟨rfl, rfl, rfl, rfl, rfl, rfl, trivial⟩, ?_⟩
    refine xa_ret ?_
    refine ret_own' rfl rfl (by (simp; done)) (by rfl) trivial ?_
    (have h0 : xs = [] := (by simpa using hz); subst h0; rfl)
  · skip
    (refine x_assign_own rfl rfl (by (simp; done)) rfl (fun _ => (slot_obj (by exact noRef_map fun _ => rfl))) (fun _ => rfl) ?_; intro g2)
    refine xr_nil ⟨nofun, [(.t 2, _), (.h 0, _), (.h 2, _)], ⟨rfl, rfl, rfl, rfl, rfl, rfl, trivial⟩, ?_⟩
    refine xa_ret ?_
    refine ret_own' rfl rfl (by (simp; done)) (by exact noRef_map fun _ => rfl) trivial ?_
    rfl

theorem keep_s_slopesS : keepOf Try.f47 = [0, 1, 4, 6, 12, 7, 17, 28, 5] := by kernel_rfl
set_option maxHeartbeats 20000000 in
theorem s_slopesS (xs ys : List Int) (hl : xs.length = ys.length) (h7 : xs.length ≤ 7) (hx : allB (-12) 12 xs = true) (hy : allB (-12) 12 ys = true) : CW cxT 47 [L xs, L ys] = some (.own 2 ((slA xs ys).map qV), []) := by
  refine fn_intro rfl Try.func47 rfl ⟨by kernel_rfl, rfl, of_decide_eq_true rfl, of_decide_eq_true rfl, by decide⟩ keep_s_slopesS ?_
  refine xa_seq ?_
  refine xa_region ?_
  (refine x_assign_nil rfl rfl (fun _ => rfl) ?_; intro g4)
  refine xr_nil ⟨nofun, [(.t 0, _), (.t 1, _)], ⟨rfl, rfl, rfl, rfl, trivial⟩, ?_⟩
  refine xa_seq ?_
  refine xa_region ?_
  refine x_buildSlice (es := List.map F_Frac []) rfl rfl (by decide) rfl rfl (fun _ => slot_obj (noRef_map fun _ => rfl)) (fun _ => rfl) ?_
  intro g8
  (refine x_assign_own rfl rfl (by (simp; done)) rfl (fun _ => (slot_obj (by exact noRef_map fun _ => rfl))) (fun _ => rfl) ?_; intro g5)
  refine xr_nil ⟨nofun, [(.t 0, _), (.t 1, _), (.t 5, _), (.h 5, _)], ⟨rfl, rfl, rfl, rfl, rfl, rfl, rfl, rfl, trivial⟩, ?_⟩
  refine xa_seq ?_
  refine xa_seq ?_
  refine xa_region ?_
  refine x_assign rfl rfl rfl ?_
  refine xr_nil ⟨nofun, [(.t 0, _), (.t 1, _), (.t 5, _), (.t 6, _), (.h 5, _)], ⟨rfl, rfl, rfl, rfl, rfl, rfl, rfl, rfl, rfl, rfl, trivial⟩, ?_⟩
  refine xa_block ?_
  refine xa_loopK (β := Nat × List Rat × Nat) [(.t 0, _), (.t 1, _)] (fun (z : Nat × List Rat × Nat) => match z with | (i, zs, g) => [(.t 6, iV i), (.t 5, .sl 5 g none 0 zs.length), (.h 5, .obj g 0 2 (zs.map qV))]) (fun (z : Nat × List Rat × Nat) => match z with | (i, zs, g) => i ≤ xs.length ∧ zs = slU xs ys i) (fun (z : Nat × List Rat × Nat) => match z with | (i, zs, g) => xs.length - i) (0, [], _) ⟨rfl, rfl, rfl, rfl, rfl, trivial⟩ ⟨Nat.zero_le _, rfl⟩ ?_
  intro z hb
  obtain ⟨i, zs, g⟩ := z
  try dsimp only at hb
  obtain ⟨hi1, hzs⟩ := hb
  have hzl : zs.length ≤ 49 := by have h1 := slU_len xs ys i; have h3 := Nat.mul_le_mul (show i ≤ 7 by omega) (show i ≤ 7 by omega); rw [hzs]; omega
  refine xa_seq ?_
  refine xa_seq ?_
  refine xa_region ?_
  refine x_move rfl rfl ?_
  refine x_move rfl rfl ?_
  refine x_len_map rfl rfl ?_
  refine x_lss rfl rfl ?_
  refine xr_nil ⟨nofun, [(.t 0, _), (.t 1, _), (.t 5, _), (.t 6, _), (.t 12, _), (.h 5, _)], ⟨rfl, rfl, rfl, rfl, rfl, rfl, rfl, rfl, rfl, rfl, rfl, rfl, trivial⟩, ?_⟩
  refine xa_cond rfl (fun hc => ?_) (fun hc => ?_)
  · try simp only [decide_eq_true_eq, decide_eq_false_iff_not, Bool.not_eq_true', Bool.not_eq_false', bne_iff_ne, beq_iff_eq, ne_eq, Bool.not_true, Bool.not_false, beq_eq_false_iff_ne, bne_eq_false_iff_eq, Decidable.not_not, Int.not_lt, Int.not_le, Bool.and_eq_true, Bool.and_eq_false_iff, Bool.or_eq_true, Bool.or_eq_false_iff, List.length_map] at hc
    refine xa_skip ?_
    refine xa_seq ?_
    refine xa_block ?_
    refine xa_seq ?_
    refine xa_region ?_
    refine x_assign rfl rfl rfl ?_
    refine xr_nil ⟨nofun, [(.t 0, _), (.t 1, _), (.t 5, _), (.t 6, _), (.t 7, _), (.h 5, _)], ⟨rfl, rfl, rfl, rfl, rfl, rfl, rfl, rfl, rfl, rfl, rfl, rfl, trivial⟩, ?_⟩
    refine xa_block ?_
    refine xa_loopK (β := Nat × List Rat × Nat) [(.t 0, _), (.t 1, _), (.t 6, _)] (fun (z : Nat × List Rat × Nat) => match z with | (k, zs, g) => [(.t 7, iV k), (.t 5, .sl 5 g none 0 zs.length), (.h 5, .obj g 0 2 (zs.map qV))]) (fun (z : Nat × List Rat × Nat) => match z with | (k, zs, g) => k ≤ i ∧ zs = slU xs ys i ++ slV xs ys i k) (fun (z : Nat × List Rat × Nat) => match z with | (k, zs, g) => i - k) (0, zs, g) ⟨rfl, rfl, rfl, rfl, rfl, rfl, trivial⟩ ⟨Nat.zero_le _, by rw [hzs]; simp [slV]⟩ ?_
    intro z hb
    obtain ⟨k, zs, g⟩ := z
    try dsimp only at hb
    obtain ⟨hk1, hzs⟩ := hb
    have hzl : zs.length ≤ 49 + 7 := by have h1 := slU_len xs ys i; have h2 := slV_len xs ys i k; have h3 := Nat.mul_le_mul (show i ≤ 7 by omega) (show i ≤ 7 by omega); rw [hzs, List.length_append]; omega
    refine xa_seq ?_
    refine xa_seq ?_
    refine xa_region ?_
    refine x_move rfl rfl ?_
    refine x_move rfl rfl ?_
    refine x_lss rfl rfl ?_
    refine xr_nil ⟨nofun, [(.t 0, _), (.t 1, _), (.t 5, _), (.t 6, _), (.t 7, _), (.t 17, _), (.h 5, _)], ⟨rfl, rfl, rfl, rfl, rfl, rfl, rfl, rfl, rfl, rfl, rfl, rfl, rfl, rfl, trivial⟩, ?_⟩
    refine xa_cond rfl (fun hc => ?_) (fun hc => ?_)
    · try simp only [decide_eq_true_eq, decide_eq_false_iff_not, Bool.not_eq_true', Bool.not_eq_false', bne_iff_ne, beq_iff_eq, ne_eq, Bool.not_true, Bool.not_false, beq_eq_false_iff_ne, bne_eq_false_iff_eq, Decidable.not_not, Int.not_lt, Int.not_le, Bool.and_eq_true, Bool.and_eq_false_iff, Bool.or_eq_true, Bool.or_eq_false_iff, List.length_map] at hc
      refine xa_skip ?_
      refine xa_seq ?_
      refine xa_block ?_
      refine xa_seq ?_
      refine xa_region ?_
      refine x_move rfl rfl ?_
      refine x_move rfl rfl ?_
      refine x_index_listN rfl rfl rfl (fun _ => rfl) (by omega) ?_
      refine x_load_iptV rfl rfl rfl ?_
      refine x_move rfl rfl ?_
      refine x_move rfl rfl ?_
      refine x_index_listN rfl rfl rfl (fun _ => rfl) (by omega) ?_
      refine x_load_iptV rfl rfl rfl ?_
      refine x_neq rfl rfl ?_
      refine xr_nil ⟨fun _ => ⟨by decide +kernel, by decide +kernel⟩, [(.t 0, _), (.t 1, _), (.t 5, _), (.t 6, _), (.t 7, _), (.t 28, _), (.h 5, _)], ⟨rfl, rfl, rfl, rfl, rfl, rfl, rfl, rfl, rfl, rfl, rfl, rfl, rfl, rfl, trivial⟩, ?_⟩
      refine xa_cond rfl (fun hc => ?_) (fun hc => ?_)
      · try simp only [decide_eq_true_eq, decide_eq_false_iff_not, Bool.not_eq_true', Bool.not_eq_false', bne_iff_ne, beq_iff_eq, ne_eq, Bool.not_true, Bool.not_false, beq_eq_false_iff_ne, bne_eq_false_iff_eq, Decidable.not_not, Int.not_lt, Int.not_le, Bool.and_eq_true, Bool.and_eq_false_iff, Bool.or_eq_true, Bool.or_eq_false_iff, List.length_map] at hc
        refine xa_region ?_
        refine x_move rfl rfl ?_
        refine x_move rfl rfl ?_
        refine x_move rfl rfl ?_
        refine x_index_listN rfl rfl rfl (fun _ => rfl) (by omega) ?_
        refine x_load_iptV rfl rfl rfl ?_
        refine x_move rfl rfl ?_
        refine x_move rfl rfl ?_
        refine x_index_listN rfl rfl rfl (fun _ => rfl) (by omega) ?_
        refine x_load_iptV rfl rfl rfl ?_
        have h1 := getD_bd hx (by decide) i
        have h2 := getD_bd hx (by decide) k
        have h3 := getD_bd hy (by decide) i
        have h4 := getD_bd hy (by decide) k
        refine x_sub rfl rfl (inI64 (by omega)) ?_
        refine x_move rfl rfl ?_
        refine x_move rfl rfl ?_
        refine x_index_listN rfl rfl rfl (fun _ => rfl) (by omega) ?_
        refine x_load_iptV rfl rfl rfl ?_
        refine x_move rfl rfl ?_
        refine x_move rfl rfl ?_
        refine x_index_listN rfl rfl rfl (fun _ => rfl) (by omega) ?_
        refine x_load_iptV rfl rfl rfl ?_
        refine x_sub rfl rfl (inI64 (by omega)) ?_
        apply x_call rfl
        · apply pa_cons
          · exact pa_plain rfl
          apply pa_cons
          · exact pa_plain rfl
          exact pa_nil
        · exact s_fracS (ys.getD i default - ys.getD k default) (xs.getD i default - xs.getD k default) (by omega) (by omega) (by omega)
        · exact ⟨rfl, rfl, rfl, of_decide_eq_true rfl, rfl⟩
        · exact .inl rfl
        · exact back_nil
        · exact inst_plain rfl
        · exact fun _ => rfl
        intro g48
        refine x_buildSlice (es := List.map qV [slq xs ys i k]) rfl rfl (by decide) rfl rfl (fun _ => slot_obj (noRef_map fun _ => rfl)) (fun _ => rfl) ?_
        intro g49
        refine x_append_map rfl rfl rfl rfl (by simp) (by simp) (by decide) rfl rfl rfl rfl (by decide) (fun _ => ⟨rfl, rfl⟩) (by simp only [maxL]; (simp only [List.length_nil, List.length_cons, List.length_append, Nat.zero_add, List.length_map]; omega)) (fun _ => rfl) ?_
        intro g50
        (refine x_assign_own rfl rfl (by (simp; done)) rfl (fun _ => (slot_obj (by exact noRef_map fun _ => rfl))) (fun _ => rfl) ?_; intro g5)
        refine xr_nil ⟨fun _ => ⟨by (simp only [wmap, List.nil_append, List.append_nil, List.map_cons, List.map_nil, List.cons_append]; decide +kernel), by decide +kernel⟩, [(.t 0, _), (.t 1, _), (.t 5, _), (.t 6, _), (.t 7, _), (.h 5, _)], ⟨rfl, rfl, rfl, rfl, rfl, rfl, rfl, rfl, rfl, rfl, rfl, rfl, trivial⟩, ?_⟩
        refine xa_region ?_
        refine x_move rfl rfl ?_
        refine x_add rfl rfl (inI64 (by omega)) ?_
        refine x_assign rfl rfl rfl ?_
        refine xr_nil ⟨nofun, [(.t 0, _), (.t 1, _), (.t 5, _), (.t 6, _), (.t 7, _), (.h 5, _)], ⟨rfl, rfl, rfl, rfl, rfl, rfl, rfl, rfl, rfl, rfl, rfl, rfl, trivial⟩, ?_⟩
        refine ⟨(k + 1, zs ++ [slq xs ys i k], _), ?_, (by simp only; omega), ⟨rfl, rfl, rfl, rfl, rfl, rfl, trivial⟩⟩
        exact ⟨by omega, by rw [slV_ne (by assumption), hzs, List.append_assoc]⟩
      · try simp only [decide_eq_true_eq, decide_eq_false_iff_not, Bool.not_eq_true', Bool.not_eq_false', bne_iff_ne, beq_iff_eq, ne_eq, Bool.not_true, Bool.not_false, beq_eq_false_iff_ne, bne_eq_false_iff_eq, Decidable.not_not, Int.not_lt, Int.not_le, Bool.and_eq_true, Bool.and_eq_false_iff, Bool.or_eq_true, Bool.or_eq_false_iff, List.length_map] at hc
        refine xa_skip ?_
        refine xa_region ?_
        refine x_move rfl rfl ?_
        refine x_add rfl rfl (inI64 (by omega)) ?_
        refine x_assign rfl rfl rfl ?_
        refine xr_nil ⟨nofun, [(.t 0, _), (.t 1, _), (.t 5, _), (.t 6, _), (.t 7, _), (.h 5, _)], ⟨rfl, rfl, rfl, rfl, rfl, rfl, rfl, rfl, rfl, rfl, rfl, rfl, trivial⟩, ?_⟩
        refine ⟨(k + 1, zs, _), ?_, (by simp only; omega), ⟨rfl, rfl, rfl, rfl, rfl, rfl, trivial⟩⟩
        exact ⟨by omega, by rw [slV_eq (by omega), hzs]⟩
    · try simp only [decide_eq_true_eq, decide_eq_false_iff_not, Bool.not_eq_true', Bool.not_eq_false', bne_iff_ne, beq_iff_eq, ne_eq, Bool.not_true, Bool.not_false, beq_eq_false_iff_ne, bne_eq_false_iff_eq, Decidable.not_not, Int.not_lt, Int.not_le, Bool.and_eq_true, Bool.and_eq_false_iff, Bool.or_eq_true, Bool.or_eq_false_iff, List.length_map] at hc
      refine xa_exit ?_
      refine xa_region ?_
      refine x_move rfl rfl ?_
      refine x_add rfl rfl (inI64 (by omega)) ?_
      refine x_assign rfl rfl rfl ?_
      refine xr_nil ⟨nofun, [(.t 0, _), (.t 1, _), (.t 5, _), (.t 6, _), (.h 5, _)], ⟨rfl, rfl, rfl, rfl, rfl, rfl, rfl, rfl, rfl, rfl, trivial⟩, ?_⟩
      refine ⟨(i + 1, zs, _), ?_, (by simp only; omega), ⟨rfl, rfl, rfl, rfl, rfl, trivial⟩⟩
      exact ⟨by omega, by rw [slU, hzs, show k = i by omega]⟩
  · try simp only [decide_eq_true_eq, decide_eq_false_iff_not, Bool.not_eq_true', Bool.not_eq_false', bne_iff_ne, beq_iff_eq, ne_eq, Bool.not_true, Bool.not_false, beq_eq_false_iff_ne, bne_eq_false_iff_eq, Decidable.not_not, Int.not_lt, Int.not_le, Bool.and_eq_true, Bool.and_eq_false_iff, Bool.or_eq_true, Bool.or_eq_false_iff, List.length_map] at hc
    refine xa_exit ?_
    refine xa_seq ?_
    refine xa_region ?_
    refine x_move rfl rfl ?_
    (refine x_assign_own rfl rfl (by (simp; done)) rfl (fun _ => (slot_obj (by exact noRef_map fun _ => rfl))) (fun _ => rfl) ?_; intro g4)
    refine xr_nil ⟨nofun, [(.t 4, _), (.h 4, _)], ⟨rfl, rfl, rfl, rfl, trivial⟩, ?_⟩
    refine xa_ret ?_
    refine ret_own' rfl rfl (by simp) (by exact noRef_map fun _ => rfl) trivial ?_
    rw [hzs, slA, show i = xs.length by omega]

theorem keep_s_sortFracs : keepOf Try.f46 = [0, 2, 4, 10, 5, 3, 28] := by kernel_rfl
set_option maxHeartbeats 20000000 in
theorem s_sortFracs (xs : List Rat) (hl : xs.length ≤ 1000) (hx : ∀ q ∈ xs, Sm 1000000000 q) : CW cxT 46 [.list (xs.map qV)] = some (.own 2 ((sortQ xs).map qV), []) := by
  refine fn_intro rfl Try.func46 rfl ⟨by kernel_rfl, rfl, of_decide_eq_true rfl, of_decide_eq_true rfl, by decide⟩ keep_s_sortFracs ?_
  refine xa_seq ?_
  refine xa_region ?_
  (refine x_assign_nil rfl rfl (fun _ => rfl) ?_; intro g2)
  refine xr_nil ⟨nofun, [(.t 0, _)], ⟨rfl, rfl, trivial⟩, ?_⟩
  refine xa_seq ?_
  refine xa_region ?_
  refine x_buildSlice (es := List.map qV []) rfl rfl (by decide) rfl rfl (fun _ => slot_obj (noRef_map fun _ => rfl)) (fun _ => rfl) ?_
  intro g6
  (refine x_assign_own rfl rfl (by (simp; done)) rfl (fun _ => (slot_obj (by exact noRef_map fun _ => rfl))) (fun _ => rfl) ?_; intro g3)
  refine xr_nil ⟨nofun, [(.t 0, _), (.t 3, _), (.h 3, _)], ⟨rfl, rfl, rfl, rfl, rfl, rfl, trivial⟩, ?_⟩
  refine xa_seq ?_
  refine xa_seq ?_
  refine xa_region ?_
  refine x_assign rfl rfl rfl ?_
  refine xr_nil ⟨nofun, [(.t 0, _), (.t 3, _), (.t 4, _), (.h 3, _)], ⟨rfl, rfl, rfl, rfl, rfl, rfl, rfl, rfl, trivial⟩, ?_⟩
  refine xa_block ?_
  refine xa_loopK (β := Nat × List Rat × Nat) [(.t 0, _)] (fun (z : Nat × List Rat × Nat) => match z with | (i, out, g) => [(.t 4, iV i), (.t 3, .sl 3 g none 0 out.length), (.h 3, .obj g 0 2 (out.map qV))]) (fun (z : Nat × List Rat × Nat) => match z with | (i, out, g) => i ≤ xs.length ∧ out = sortQ (xs.take i)) (fun (z : Nat × List Rat × Nat) => match z with | (i, out, g) => xs.length - i) (0, [], _) ⟨rfl, rfl, rfl, rfl, trivial⟩ ⟨Nat.zero_le _, by simp [sortQ]⟩ ?_
  intro z hb
  obtain ⟨i, out, g⟩ := z
  try dsimp only at hb
  obtain ⟨hi1, hi2⟩ := hb
  have hol : out.length = i := by rw [hi2, sortQ_length, List.length_take]; omega
  refine xa_seq ?_
  refine xa_seq ?_
  refine xa_region ?_
  refine x_move rfl rfl ?_
  refine x_move rfl rfl ?_
  refine x_len_map rfl rfl ?_
  refine x_lss rfl rfl ?_
  refine xr_nil ⟨nofun, [(.t 0, _), (.t 3, _), (.t 4, _), (.t 10, _), (.h 3, _)], ⟨rfl, rfl, rfl, rfl, rfl, rfl, rfl, rfl, rfl, rfl, trivial⟩, ?_⟩
  refine xa_cond rfl (fun hc => ?_) (fun hc => ?_)
  · try simp only [decide_eq_true_eq, decide_eq_false_iff_not, Bool.not_eq_true', Bool.not_eq_false', bne_iff_ne, beq_iff_eq, ne_eq, Bool.not_true, Bool.not_false, beq_eq_false_iff_ne, bne_eq_false_iff_eq, Decidable.not_not, Int.not_lt, Int.not_le, Bool.and_eq_true, Bool.and_eq_false_iff, Bool.or_eq_true, Bool.or_eq_false_iff, List.length_map] at hc
    refine xa_skip ?_
    refine xa_seq ?_
    refine xa_block ?_
    refine xa_seq ?_
    refine xa_region ?_
    refine x_assign rfl rfl rfl ?_
    refine xr_nil ⟨nofun, [(.t 0, _), (.t 3, _), (.t 4, _), (.t 5, _), (.h 3, _)], ⟨rfl, rfl, rfl, rfl, rfl, rfl, rfl, rfl, rfl, rfl, trivial⟩, ?_⟩
    refine xa_seq ?_
    refine xa_block ?_
    refine xa_loopK (β := Nat) [(.t 0, _), (.t 3, _), (.t 4, _), (.h 3, _)] (fun (k : Nat) => [(.t 5, iV k)]) (fun (k : Nat) => k ≤ out.length ∧ ∀ j, j < k → out.getD j default ≤ xs.getD i default) (fun (k : Nat) => out.length - k) 0 ⟨rfl, rfl, rfl, rfl, rfl, trivial⟩ ⟨Nat.zero_le _, fun j h => by omega⟩ ?_
    intro k hb
    obtain ⟨hk1, hk2⟩ := hb
    refine xa_seq ?_
    refine xa_seq ?_
    refine xa_region ?_
    refine x_move rfl rfl ?_
    refine x_move rfl rfl ?_
    refine x_len_sl rfl rfl ?_
    refine x_lss rfl rfl ?_
    refine x_move rfl rfl ?_
    refine x_guard_split rfl rfl (fun hg0 => ?_) (fun hg0 => ?_)
    · have hg := hg0; try simp only [decide_eq_true_eq, decide_eq_false_iff_not, Bool.not_eq_true', Bool.not_eq_false', bne_iff_ne, beq_iff_eq, ne_eq, Bool.not_true, Bool.not_false, beq_eq_false_iff_ne, bne_eq_false_iff_eq, Decidable.not_not, Int.not_lt, Int.not_le, Bool.and_eq_true, Bool.and_eq_false_iff, Bool.or_eq_true, Bool.or_eq_false_iff] at hg
      refine x_move rfl rfl ?_
      refine x_guard_t rfl rfl (by assumption) ?_
      refine x_move rfl rfl ?_
      refine x_guard_t rfl rfl (by assumption) ?_
      refine x_index_listN rfl rfl rfl (fun _ => rfl) (by omega) ?_
      refine x_guard_t rfl rfl (by assumption) ?_
      refine x_load_iptV rfl rfl rfl ?_
      refine x_guard_t rfl rfl (by assumption) ?_
      refine x_move rfl rfl ?_
      refine x_guard_t rfl rfl (by assumption) ?_
      refine x_move rfl rfl ?_
      refine x_guard_t rfl rfl (by assumption) ?_
      refine x_index_slN rfl rfl rfl rfl (by omega) (by (simp; done)) rfl ?_
      refine x_guard_t rfl rfl (by assumption) ?_
      refine x_load_mapV rfl rfl (by omega) (fun _ => rfl) (fun _ => rfl) rfl ?_
      refine x_guard_t rfl rfl (by assumption) ?_
      have hsx := hx _ (getD_memG (show i < xs.length by omega))
      have hso : Sm 1000000000 (out.getD k default) := hx _ (List.mem_of_mem_take ((sortQ_perm _).mem_iff.1 (by rw [← hi2]; exact getD_memG (show k < out.length by omega))))
      apply x_call rfl
      · apply pa_cons
        · exact pa_plain rfl
        apply pa_cons
        · exact pa_plain rfl
        exact pa_nil
      · exact s_lessS (xs.getD i default) (out.getD k default) hsx hso
      · exact ⟨rfl, rfl, rfl, of_decide_eq_true rfl, rfl⟩
      · exact .inl rfl
      · exact back_nil
      · exact inst_plain rfl
      · exact fun _ => rfl
      intro g26
      refine x_guard_t rfl rfl (by assumption) ?_
      refine x_not rfl ?_
      refine x_pick_t rfl (by assumption) rfl rfl ?_
      refine xr_nil ⟨fun _ => ⟨by (simp only [wmap, List.nil_append, List.append_nil, List.map_cons, List.map_nil, List.cons_append]; decide +kernel), by decide +kernel⟩, [(.t 0, _), (.t 3, _), (.t 4, _), (.t 5, _), (.t 28, _), (.h 3, _)], ⟨rfl, rfl, rfl, rfl, rfl, rfl, rfl, rfl, rfl, rfl, rfl, rfl, trivial⟩, ?_⟩
      refine xa_cond rfl (fun hc => ?_) (fun hc => ?_)
      · try simp only [decide_eq_true_eq, decide_eq_false_iff_not, Bool.not_eq_true', Bool.not_eq_false', bne_iff_ne, beq_iff_eq, ne_eq, Bool.not_true, Bool.not_false, beq_eq_false_iff_ne, bne_eq_false_iff_eq, Decidable.not_not, Int.not_lt, Int.not_le, Bool.and_eq_true, Bool.and_eq_false_iff, Bool.or_eq_true, Bool.or_eq_false_iff, List.length_map] at hc
        refine xa_skip ?_
        refine xa_block ?_
        refine xa_region ?_
        refine x_move rfl rfl ?_
        refine x_add rfl rfl (inI64 (by omega)) ?_
        refine x_assign rfl rfl rfl ?_
        refine xr_nil ⟨nofun, [(.t 0, _), (.t 3, _), (.t 4, _), (.t 5, _), (.h 3, _)], ⟨rfl, rfl, rfl, rfl, rfl, rfl, rfl, rfl, rfl, rfl, trivial⟩, ?_⟩
        refine ⟨k + 1, ⟨by omega, fun j hj => by rcases Nat.lt_succ_iff_lt_or_eq.1 hj with h | h; (· exact hk2 j h); (· subst h; exact Rat.not_lt.1 (by simpa using hc))⟩, (by omega), ⟨rfl, rfl, rfl, rfl, rfl, trivial⟩⟩
      · try simp only [decide_eq_true_eq, decide_eq_false_iff_not, Bool.not_eq_true', Bool.not_eq_false', bne_iff_ne, beq_iff_eq, ne_eq, Bool.not_true, Bool.not_false, beq_eq_false_iff_ne, bne_eq_false_iff_eq, Decidable.not_not, Int.not_lt, Int.not_le, Bool.and_eq_true, Bool.and_eq_false_iff, Bool.or_eq_true, Bool.or_eq_false_iff, List.length_map] at hc
        refine xa_exit ?_
        refine xa_region ?_
        refine x_buildSlice (es := List.map qV []) rfl rfl (by decide) rfl rfl (fun _ => slot_obj (noRef_map fun _ => rfl)) (fun _ => rfl) ?_
        intro g31
        refine x_move rfl rfl ?_
        refine x_move rfl rfl ?_
        refine x_slice_sl rfl rfl rfl (optNat_someN rfl) (by omega) rfl ?_
        refine x_append_rdM rfl rfl rfl rfl (by decide) rfl (by simp) (by omega) rfl rfl rfl (by decide) (fun _ => ⟨rfl, rfl, rfl⟩) (by simp only [maxL]; (simp only [List.length_nil, List.length_cons, List.length_append, Nat.zero_add, List.length_map]; omega)) (fun _ => rfl) ?_
        intro g35
        refine x_move rfl rfl ?_
        refine x_move rfl rfl ?_
        refine x_index_listN rfl rfl rfl (fun _ => rfl) (by omega) ?_
        refine x_load_iptV rfl rfl rfl ?_
        refine x_buildSlice (es := List.map qV [xs.getD i default]) rfl rfl (by decide) rfl rfl (fun _ => slot_obj (noRef_map fun _ => rfl)) (fun _ => rfl) ?_
        intro g40
        refine x_append_map rfl rfl rfl rfl (by simp) (by simp) (by decide) rfl rfl rfl rfl (by decide) (fun _ => ⟨rfl, rfl⟩) (by simp only [maxL]; (simp; omega)) (fun _ => rfl) ?_
        intro g41
        refine x_move rfl rfl ?_
        refine x_move rfl rfl ?_
        refine x_slice_slx rfl rfl rfl optNat_none (optNat_someN rfl) (by omega) rfl ?_
        refine x_append_rdM rfl rfl rfl rfl (by decide) rfl (by simp) (by omega) rfl rfl rfl (by decide) (fun _ => ⟨rfl, rfl, rfl⟩) (by simp only [maxL]; (simp; omega)) (fun _ => rfl) ?_
        intro g45
        (refine x_assign_own rfl rfl (by (simp; done)) rfl (fun _ => (slot_obj (by exact noRef_map fun _ => rfl))) (fun _ => rfl) ?_; intro g3)
        refine xr_nil ⟨fun _ => ⟨by decide +kernel, by decide +kernel⟩, [(.t 0, _), (.t 3, _), (.t 4, _), (.h 3, _)], ⟨rfl, rfl, rfl, rfl, rfl, rfl, rfl, rfl, trivial⟩, ?_⟩
        refine xa_region ?_
        refine x_move rfl rfl ?_
        refine x_add rfl rfl (inI64 (by omega)) ?_
        refine x_assign rfl rfl rfl ?_
        refine xr_nil ⟨nofun, [(.t 0, _), (.t 3, _), (.t 4, _), (.h 3, _)], ⟨rfl, rfl, rfl, rfl, rfl, rfl, rfl, rfl, trivial⟩, ?_⟩
        refine ⟨(i + 1, _, _), ?_, (by simp only; omega), ⟨rfl, rfl, rfl, rfl, trivial⟩⟩
        exact ⟨by omega, by rw [take_succ_getD (by omega)]; exact insertQ hi2 hk1 hk2 fun h => by (simp_all; exact Rat.le_of_lt (by assumption))⟩
    · have hg := hg0; try simp only [decide_eq_true_eq, decide_eq_false_iff_not, Bool.not_eq_true', Bool.not_eq_false', bne_iff_ne, beq_iff_eq, ne_eq, Bool.not_true, Bool.not_false, beq_eq_false_iff_ne, bne_eq_false_iff_eq, Decidable.not_not, Int.not_lt, Int.not_le, Bool.and_eq_true, Bool.and_eq_false_iff, Bool.or_eq_true, Bool.or_eq_false_iff] at hg
      refine x_guard_f rfl rfl (by assumption) ?_
      refine x_guard_f rfl rfl (by assumption) ?_
      refine x_guard_f rfl rfl (by assumption) ?_
      refine x_guard_f rfl rfl (by assumption) ?_
      refine x_guard_f rfl rfl (by assumption) ?_
      refine x_guard_f rfl rfl (by assumption) ?_
      refine x_guard_f rfl rfl (by assumption) ?_
      refine x_guard_f rfl rfl (by assumption) ?_
      refine x_guard_f rfl rfl (by assumption) ?_
      refine x_pick_f rfl (by assumption) rfl rfl ?_
      refine xr_nil ⟨fun _ => ⟨by decide +kernel, by decide +kernel⟩, [(.t 0, _), (.t 3, _), (.t 4, _), (.t 5, _), (.t 28, _), (.h 3, _)], ⟨rfl, rfl, rfl, rfl, rfl, rfl, rfl, rfl, rfl, rfl, rfl, rfl, trivial⟩, ?_⟩
      refine xa_cond rfl (fun hc => absurd hc (by decide)) (fun hc => ?_)
      refine xa_exit ?_
      refine xa_region ?_
      refine x_buildSlice (es := List.map qV []) rfl rfl (by decide) rfl rfl (fun _ => slot_obj (noRef_map fun _ => rfl)) (fun _ => rfl) ?_
      intro g31
      refine x_move rfl rfl ?_
      refine x_move rfl rfl ?_
      refine x_slice_sl rfl rfl rfl (optNat_someN rfl) (by omega) rfl ?_
      refine x_append_rdM rfl rfl rfl rfl (by decide) rfl (by simp) (by omega) rfl rfl rfl (by decide) (fun _ => ⟨rfl, rfl, rfl⟩) (by simp only [maxL]; (simp only [List.length_nil, List.length_cons, List.length_append, Nat.zero_add, List.length_map]; omega)) (fun _ => rfl) ?_
      intro g35
      refine x_move rfl rfl ?_
      refine x_move rfl rfl ?_
      refine x_index_listN rfl rfl rfl (fun _ => rfl) (by omega) ?_
      refine x_load_iptV rfl rfl rfl ?_
      refine x_buildSlice (es := List.map qV [xs.getD i default]) rfl rfl (by decide) rfl rfl (fun _ => slot_obj (noRef_map fun _ => rfl)) (fun _ => rfl) ?_
      intro g40
      refine x_append_map rfl rfl rfl rfl (by simp) (by simp) (by decide) rfl rfl rfl rfl (by decide) (fun _ => ⟨rfl, rfl⟩) (by simp only [maxL]; (simp; omega)) (fun _ => rfl) ?_
      intro g41
      refine x_move rfl rfl ?_
      refine x_move rfl rfl ?_
      refine x_slice_slx rfl rfl rfl optNat_none (optNat_someN rfl) (by omega) rfl ?_
      refine x_append_rdM rfl rfl rfl rfl (by decide) rfl (by simp) (by omega) rfl rfl rfl (by decide) (fun _ => ⟨rfl, rfl, rfl⟩) (by simp only [maxL]; (simp; omega)) (fun _ => rfl) ?_
      intro g45
      (refine x_assign_own rfl rfl (by (simp; done)) rfl (fun _ => (slot_obj (by exact noRef_map fun _ => rfl))) (fun _ => rfl) ?_; intro g3)
      refine xr_nil ⟨fun _ => ⟨by decide +kernel, by decide +kernel⟩, [(.t 0, _), (.t 3, _), (.t 4, _), (.h 3, _)], ⟨rfl, rfl, rfl, rfl, rfl, rfl, rfl, rfl, trivial⟩, ?_⟩
      refine xa_region ?_
      refine x_move rfl rfl ?_
      refine x_add rfl rfl (inI64 (by omega)) ?_
      refine x_assign rfl rfl rfl ?_
      refine xr_nil ⟨nofun, [(.t 0, _), (.t 3, _), (.t 4, _), (.h 3, _)], ⟨rfl, rfl, rfl, rfl, rfl, rfl, rfl, rfl, trivial⟩, ?_⟩
      refine ⟨(i + 1, _, _), ?_, (by simp only; omega), ⟨rfl, rfl, rfl, rfl, trivial⟩⟩
      exact ⟨by omega, by rw [take_succ_getD (by omega)]; exact insertQ hi2 hk1 hk2 fun h => by omega⟩
  · try simp only [decide_eq_true_eq, decide_eq_false_iff_not, Bool.not_eq_true', Bool.not_eq_false', bne_iff_ne, beq_iff_eq, ne_eq, Bool.not_true, Bool.not_false, beq_eq_false_iff_ne, bne_eq_false_iff_eq, Decidable.not_not, Int.not_lt, Int.not_le, Bool.and_eq_true, Bool.and_eq_false_iff, Bool.or_eq_true, Bool.or_eq_false_iff, List.length_map] at hc
    refine xa_exit ?_
    refine xa_seq ?_
    refine xa_region ?_
    refine x_move rfl rfl ?_
    (refine x_assign_own rfl rfl (by (simp; done)) rfl (fun _ => (slot_obj (by exact noRef_map fun _ => rfl))) (fun _ => rfl) ?_; intro g2)
    refine xr_nil ⟨nofun, [(.t 2, _), (.h 2, _)], ⟨rfl, rfl, rfl, rfl, trivial⟩, ?_⟩
    refine xa_ret ?_
    refine ret_own' rfl rfl (by simp) (by exact noRef_map fun _ => rfl) trivial ?_
    rw [hi2, List.take_of_length_le (by omega)]

theorem keep_s_slopesI : keepOf Try.f52 = [0, 1, 4, 10, 9, 11, 6, 14, 13, 15, 7, 25, 5] := by kernel_rfl
set_option maxHeartbeats 20000000 in
theorem s_slopesI (xs ys : List Int) (hl : xs.length = ys.length) (h7 : xs.length ≤ 7) (hx : allB (-12) 12 xs = true) (hy : allB (-12) 12 ys = true) : CW cxT 52 [L xs, L ys] = some (.own 2 ((sortQ (slA xs ys)).map qV), []) := by
  refine fn_intro rfl Try.func52 rfl ⟨by kernel_rfl, rfl, of_decide_eq_true rfl, of_decide_eq_true rfl, by decide⟩ keep_s_slopesI ?_
  refine xa_seq ?_
  refine xa_region ?_
  (refine x_assign_nil rfl rfl (fun _ => rfl) ?_; intro g4)
  refine xr_nil ⟨nofun, [(.t 0, _), (.t 1, _)], ⟨rfl, rfl, rfl, rfl, trivial⟩, ?_⟩
  refine xa_seq ?_
  refine xa_region ?_
  (refine x_assign_nil rfl rfl (fun _ => rfl) ?_; intro g5)
  refine xr_nil ⟨nofun, [(.t 0, _), (.t 1, _), (.t 5, _), (.h 5, _)], ⟨rfl, rfl, rfl, rfl, rfl, rfl, rfl, rfl, trivial⟩, ?_⟩
  refine xa_seq ?_
  refine xa_seq ?_
  refine xa_region ?_
  refine x_move rfl rfl ?_
  refine x_len_map rfl rfl ?_
  refine x_move rfl rfl ?_
  refine xr_nil ⟨nofun, [(.t 0, _), (.t 1, _), (.t 5, _), (.t 9, _), (.t 10, _), (.h 5, _)], ⟨rfl, rfl, rfl, rfl, rfl, rfl, rfl, rfl, rfl, rfl, rfl, rfl, trivial⟩, ?_⟩
  refine xa_block ?_
  refine xa_loopK (β := Nat × List Rat × Nat) [(.t 0, _), (.t 1, _), (.t 9, _)] (fun (z : Nat × List Rat × Nat) => match z with | (i, zs, g) => [(.t 10, iV i), (.t 5, .sl 5 g none 0 zs.length), (.h 5, .obj g 0 2 (zs.map qV))]) (fun (z : Nat × List Rat × Nat) => match z with | (i, zs, g) => i ≤ xs.length ∧ zs = slU xs ys i) (fun (z : Nat × List Rat × Nat) => match z with | (i, zs, g) => xs.length - i) (0, [], _) ⟨rfl, rfl, rfl, rfl, rfl, rfl, trivial⟩ ⟨Nat.zero_le _, rfl⟩ ?_
  intro z hb
  obtain ⟨i, zs, g⟩ := z
  try dsimp only at hb
  obtain ⟨hi1, hzs⟩ := hb
  have hzl : zs.length ≤ 49 := by have h1 := slU_len xs ys i; have h3 := Nat.mul_le_mul (show i ≤ 7 by omega) (show i ≤ 7 by omega); rw [hzs]; omega
  refine xa_seq ?_
  refine xa_region ?_
  refine x_lss rfl rfl ?_
  refine xr_nil ⟨nofun, [(.t 0, _), (.t 1, _), (.t 5, _), (.t 9, _), (.t 10, _), (.t 11, _), (.h 5, _)], ⟨rfl, rfl, rfl, rfl, rfl, rfl, rfl, rfl, rfl, rfl, rfl, rfl, rfl, rfl, trivial⟩, ?_⟩
  refine xa_seq ?_
  refine xa_cond rfl (fun hc => ?_) (fun hc => ?_)
  · try simp only [decide_eq_true_eq, decide_eq_false_iff_not, Bool.not_eq_true', Bool.not_eq_false', bne_iff_ne, beq_iff_eq, ne_eq, Bool.not_true, Bool.not_false, beq_eq_false_iff_ne, bne_eq_false_iff_eq, Decidable.not_not, Int.not_lt, Int.not_le, Bool.and_eq_true, Bool.and_eq_false_iff, Bool.or_eq_true, Bool.or_eq_false_iff, List.length_map] at hc
    refine xa_skip ?_
    refine xa_seq ?_
    refine xa_block ?_
    refine xa_seq ?_
    refine xa_region ?_
    refine x_move rfl rfl ?_
    refine x_assign rfl rfl rfl ?_
    refine xr_nil ⟨nofun, [(.t 0, _), (.t 1, _), (.t 5, _), (.t 6, _), (.t 9, _), (.t 10, _), (.h 5, _)], ⟨rfl, rfl, rfl, rfl, rfl, rfl, rfl, rfl, rfl, rfl, rfl, rfl, rfl, rfl, trivial⟩, ?_⟩
    refine xa_seq ?_
    refine xa_region ?_
    refine x_move rfl rfl ?_
    refine x_move rfl rfl ?_
    refine xr_nil ⟨nofun, [(.t 0, _), (.t 1, _), (.t 5, _), (.t 6, _), (.t 9, _), (.t 10, _), (.t 13, _), (.t 14, _), (.h 5, _)], ⟨rfl, rfl, rfl, rfl, rfl, rfl, rfl, rfl, rfl, rfl, rfl, rfl, rfl, rfl, rfl, rfl, rfl, rfl, trivial⟩, ?_⟩
    refine xa_block ?_
    refine xa_loopK (β := Nat × List Rat × Nat) [(.t 0, _), (.t 1, _), (.t 6, _), (.t 9, _), (.t 10, _), (.t 13, _)] (fun (z : Nat × List Rat × Nat) => match z with | (k, zs, g) => [(.t 14, iV k), (.t 5, .sl 5 g none 0 zs.length), (.h 5, .obj g 0 2 (zs.map qV))]) (fun (z : Nat × List Rat × Nat) => match z with | (k, zs, g) => k ≤ i ∧ zs = slU xs ys i ++ slV xs ys i k) (fun (z : Nat × List Rat × Nat) => match z with | (k, zs, g) => i - k) (0, zs, g) ⟨rfl, rfl, rfl, rfl, rfl, rfl, rfl, rfl, rfl, trivial⟩ ⟨Nat.zero_le _, by rw [hzs]; simp [slV]⟩ ?_
    intro z hb
    obtain ⟨k, zs, g⟩ := z
    try dsimp only at hb
    obtain ⟨hk1, hzs⟩ := hb
    have hzl : zs.length ≤ 49 + 7 := by have h1 := slU_len xs ys i; have h2 := slV_len xs ys i k; have h3 := Nat.mul_le_mul (show i ≤ 7 by omega) (show i ≤ 7 by omega); rw [hzs, List.length_append]; omega
    refine xa_seq ?_
    refine xa_region ?_
    refine x_lss rfl rfl ?_
    refine xr_nil ⟨nofun, [(.t 0, _), (.t 1, _), (.t 5, _), (.t 6, _), (.t 9, _), (.t 10, _), (.t 13, _), (.t 14, _), (.t 15, _), (.h 5, _)], ⟨rfl, rfl, rfl, rfl, rfl, rfl, rfl, rfl, rfl, rfl, rfl, rfl, rfl, rfl, rfl, rfl, rfl, rfl, rfl, rfl, trivial⟩, ?_⟩
    refine xa_seq ?_
    refine xa_cond rfl (fun hc => ?_) (fun hc => ?_)
    · try simp only [decide_eq_true_eq, decide_eq_false_iff_not, Bool.not_eq_true', Bool.not_eq_false', bne_iff_ne, beq_iff_eq, ne_eq, Bool.not_true, Bool.not_false, beq_eq_false_iff_ne, bne_eq_false_iff_eq, Decidable.not_not, Int.not_lt, Int.not_le, Bool.and_eq_true, Bool.and_eq_false_iff, Bool.or_eq_true, Bool.or_eq_false_iff, List.length_map] at hc
      refine xa_skip ?_
      refine xa_seq ?_
      refine xa_block ?_
      refine xa_seq ?_
      refine xa_region ?_
      refine x_move rfl rfl ?_
      refine x_assign rfl rfl rfl ?_
      refine xr_nil ⟨nofun, [(.t 0, _), (.t 1, _), (.t 5, _), (.t 6, _), (.t 7, _), (.t 9, _), (.t 10, _), (.t 13, _), (.t 14, _), (.h 5, _)], ⟨rfl, rfl, rfl, rfl, rfl, rfl, rfl, rfl, rfl, rfl, rfl, rfl, rfl, rfl, rfl, rfl, rfl, rfl, rfl, rfl, trivial⟩, ?_⟩
      refine xa_seq ?_
      refine xa_region ?_
      refine x_move rfl rfl ?_
      refine x_move rfl rfl ?_
      refine x_index_listN rfl rfl rfl (fun _ => rfl) (by omega) ?_
      refine x_load_iptV rfl rfl rfl ?_
      refine x_move rfl rfl ?_
      refine x_move rfl rfl ?_
      refine x_index_listN rfl rfl rfl (fun _ => rfl) (by omega) ?_
      refine x_load_iptV rfl rfl rfl ?_
      refine x_neq rfl rfl ?_
      refine xr_nil ⟨fun _ => ⟨by decide +kernel, by decide +kernel⟩, [(.t 0, _), (.t 1, _), (.t 5, _), (.t 6, _), (.t 7, _), (.t 9, _), (.t 10, _), (.t 13, _), (.t 14, _), (.t 25, _), (.h 5, _)], ⟨rfl, rfl, rfl, rfl, rfl, rfl, rfl, rfl, rfl, rfl, rfl, rfl, rfl, rfl, rfl, rfl, rfl, rfl, rfl, rfl, rfl, rfl, trivial⟩, ?_⟩
      refine xa_cond rfl (fun hc => ?_) (fun hc => ?_)
      · try simp only [decide_eq_true_eq, decide_eq_false_iff_not, Bool.not_eq_true', Bool.not_eq_false', bne_iff_ne, beq_iff_eq, ne_eq, Bool.not_true, Bool.not_false, beq_eq_false_iff_ne, bne_eq_false_iff_eq, Decidable.not_not, Int.not_lt, Int.not_le, Bool.and_eq_true, Bool.and_eq_false_iff, Bool.or_eq_true, Bool.or_eq_false_iff, List.length_map] at hc
        refine xa_region ?_
        refine x_move rfl rfl ?_
        refine x_move rfl rfl ?_
        refine x_move rfl rfl ?_
        refine x_move rfl rfl ?_
        refine x_move rfl rfl ?_
        apply x_call rfl
        · apply pa_cons
          · exact pa_plain rfl
          apply pa_cons
          · exact pa_plain rfl
          apply pa_cons
          · exact pa_plain rfl
          apply pa_cons
          · exact pa_plain rfl
          exact pa_nil
        · exact s_slope xs ys hl h7 hx hy i k (by omega) (by omega) hc
        · exact ⟨rfl, rfl, rfl, of_decide_eq_true rfl, rfl⟩
        · exact .inl rfl
        · exact back_nil
        · exact inst_plain rfl
        · exact fun _ => rfl
        intro g31
        refine x_buildSlice (es := List.map qV [slq xs ys i k]) rfl rfl (by decide) rfl rfl (fun _ => slot_obj (noRef_map fun _ => rfl)) (fun _ => rfl) ?_
        intro g32
        refine x_append_map rfl rfl rfl rfl (by simp) (by simp) (by decide) rfl rfl rfl rfl (by decide) (fun _ => ⟨rfl, rfl⟩) (by simp only [maxL]; (simp only [List.length_nil, List.length_cons, List.length_append, Nat.zero_add, List.length_map]; omega)) (fun _ => rfl) ?_
        intro g33
        (refine x_assign_own rfl rfl (by (simp; done)) rfl (fun _ => (slot_obj (by exact noRef_map fun _ => rfl))) (fun _ => rfl) ?_; intro g5)
        refine xr_nil ⟨nofun, [(.t 0, _), (.t 1, _), (.t 5, _), (.t 6, _), (.t 9, _), (.t 10, _), (.t 13, _), (.t 14, _), (.h 5, _)], ⟨rfl, rfl, rfl, rfl, rfl, rfl, rfl, rfl, rfl, rfl, rfl, rfl, rfl, rfl, rfl, rfl, rfl, rfl, trivial⟩, ?_⟩
        refine xa_region ?_
        refine x_add rfl rfl (inI64 (by omega)) ?_
        refine x_move rfl rfl ?_
        refine xr_nil ⟨nofun, [(.t 0, _), (.t 1, _), (.t 5, _), (.t 6, _), (.t 9, _), (.t 10, _), (.t 13, _), (.t 14, _), (.h 5, _)], ⟨rfl, rfl, rfl, rfl, rfl, rfl, rfl, rfl, rfl, rfl, rfl, rfl, rfl, rfl, rfl, rfl, rfl, rfl, trivial⟩, ?_⟩
        refine ⟨(k + 1, zs ++ [slq xs ys i k], _), ?_, (by simp only; omega), ⟨rfl, rfl, rfl, rfl, rfl, rfl, rfl, rfl, rfl, trivial⟩⟩
        exact ⟨by omega, by rw [slV_ne (by assumption), hzs, List.append_assoc]⟩
      · try simp only [decide_eq_true_eq, decide_eq_false_iff_not, Bool.not_eq_true', Bool.not_eq_false', bne_iff_ne, beq_iff_eq, ne_eq, Bool.not_true, Bool.not_false, beq_eq_false_iff_ne, bne_eq_false_iff_eq, Decidable.not_not, Int.not_lt, Int.not_le, Bool.and_eq_true, Bool.and_eq_false_iff, Bool.or_eq_true, Bool.or_eq_false_iff, List.length_map] at hc
        refine xa_skip ?_
        refine xa_region ?_
        refine x_add rfl rfl (inI64 (by omega)) ?_
        refine x_move rfl rfl ?_
        refine xr_nil ⟨nofun, [(.t 0, _), (.t 1, _), (.t 5, _), (.t 6, _), (.t 9, _), (.t 10, _), (.t 13, _), (.t 14, _), (.h 5, _)], ⟨rfl, rfl, rfl, rfl, rfl, rfl, rfl, rfl, rfl, rfl, rfl, rfl, rfl, rfl, rfl, rfl, rfl, rfl, trivial⟩, ?_⟩
        refine ⟨(k + 1, zs, _), ?_, (by simp only; omega), ⟨rfl, rfl, rfl, rfl, rfl, rfl, rfl, rfl, rfl, trivial⟩⟩
        exact ⟨by omega, by rw [slV_eq (by omega), hzs]⟩
    · try simp only [decide_eq_true_eq, decide_eq_false_iff_not, Bool.not_eq_true', Bool.not_eq_false', bne_iff_ne, beq_iff_eq, ne_eq, Bool.not_true, Bool.not_false, beq_eq_false_iff_ne, bne_eq_false_iff_eq, Decidable.not_not, Int.not_lt, Int.not_le, Bool.and_eq_true, Bool.and_eq_false_iff, Bool.or_eq_true, Bool.or_eq_false_iff, List.length_map] at hc
      refine xa_exit ?_
      refine xa_region ?_
      refine x_add rfl rfl (inI64 (by omega)) ?_
      refine x_move rfl rfl ?_
      refine xr_nil ⟨nofun, [(.t 0, _), (.t 1, _), (.t 5, _), (.t 9, _), (.t 10, _), (.h 5, _)], ⟨rfl, rfl, rfl, rfl, rfl, rfl, rfl, rfl, rfl, rfl, rfl, rfl, trivial⟩, ?_⟩
      refine ⟨(i + 1, zs, _), ?_, (by simp only; omega), ⟨rfl, rfl, rfl, rfl, rfl, rfl, trivial⟩⟩
      exact ⟨by omega, by rw [slU, hzs, show k = i by omega]⟩
  · try simp only [decide_eq_true_eq, decide_eq_false_iff_not, Bool.not_eq_true', Bool.not_eq_false', bne_iff_ne, beq_iff_eq, ne_eq, Bool.not_true, Bool.not_false, beq_eq_false_iff_ne, bne_eq_false_iff_eq, Decidable.not_not, Int.not_lt, Int.not_le, Bool.and_eq_true, Bool.and_eq_false_iff, Bool.or_eq_true, Bool.or_eq_false_iff, List.length_map] at hc
    refine xa_exit ?_
    refine xa_seq ?_
    refine xa_region ?_
    refine x_move rfl rfl ?_
    have hza : zs = slA xs ys := by rw [hzs, slA, show i = xs.length by omega]
    have hsl := slA_len (xs := xs) (ys := ys) h7
    apply x_call rfl
    · apply pa_cons
      · exact pa_write rfl rfl (by decide) (by (simp; done)) (imm_map fun _ => rfl)
      apply pa_cons
      · exact pa_clo rfl pc_nil
      exact pa_nil
    · exact s_SortF zs (by simp only [maxL]; omega) (fun q hq => (slU_sm hx hy _ q (hza ▸ hq)).mono (by decide))
    · exact ⟨rfl, rfl, rfl, of_decide_eq_true rfl, rfl⟩
    · exact .inl rfl
    · exact back_cons rfl (by simp) (nilFit_F _ _) back_nil
    · exact inst_tup rfl
    · (intro _; exact tRefs_cons (slot_obj (noRef_map fun _ => rfl)) rfl)
    intro g37
    refine xr_nil ⟨nofun, [(.t 5, _), (.h 5, _)], ⟨rfl, rfl, rfl, rfl, trivial⟩, ?_⟩
    refine xa_seq ?_
    refine xa_region ?_
    refine x_move rfl rfl ?_
    subst hza
    apply x_call rfl
    · apply pa_cons
      · exact pa_give rfl rfl (by (simp; done)) (noRef_map fun _ => rfl)
      exact pa_nil
    · exact s_ClipF (sortQ (slA xs ys)) (by simp only [maxL, sortQ_length]; omega)
    · exact ⟨rfl, rfl, rfl, of_decide_eq_true rfl, rfl⟩
    · exact .inl rfl
    · exact back_nil
    · exact inst_own
    · exact fun _ => rfl
    intro g39
    (refine x_assign_own rfl rfl (by (simp; done)) rfl (fun _ => (slot_obj (by exact noRef_map fun _ => rfl))) (fun _ => rfl) ?_; intro g4)
    refine xr_nil ⟨nofun, [(.t 4, _), (.h 4, _)], ⟨rfl, rfl, rfl, rfl, trivial⟩, ?_⟩
    refine xa_ret ?_
    refine ret_own' rfl rfl (by simp) (by exact noRef_map fun _ => rfl) trivial ?_
    rfl

theorem keep_s_slopesOfI : keepOf Try.f22 = [0, 1, 4, 8] := by kernel_rfl
set_option maxHeartbeats 20000000 in
theorem s_slopesOfI (xs ys : List Int) (hl : xs.length ≤ 1048576) (hl2 : ys.length ≤ 1048576) : CW cxT 22 [L xs, L ys] = some (.own 2 ((slR xs ys).map qV), []) := by
  refine fn_intro rfl Try.func22 rfl ⟨by kernel_rfl, rfl, of_decide_eq_true rfl, of_decide_eq_true rfl, by decide⟩ keep_s_slopesOfI ?_
  refine xa_seq ?_
  refine xa_region ?_
  (refine x_assign_nil rfl rfl (fun _ => rfl) ?_; intro g4)
  refine xr_nil ⟨nofun, [(.t 0, _), (.t 1, _)], ⟨rfl, rfl, rfl, rfl, trivial⟩, ?_⟩
  refine xa_seq ?_
  refine xa_seq ?_
  refine xa_region ?_
  refine x_move rfl rfl ?_
  refine x_move rfl rfl ?_
  apply x_call rfl
  · apply pa_cons
    · exact pa_plain rfl
    apply pa_cons
    · exact pa_plain rfl
    exact pa_nil
  · exact s_validCloudI xs ys hl hl2
  · exact ⟨rfl, rfl, rfl, of_decide_eq_true rfl, rfl⟩
  · exact .inl rfl
  · exact back_nil
  · exact inst_plain rfl
  · exact fun _ => rfl
  intro g7
  refine x_not rfl ?_
  refine xr_nil ⟨nofun, [(.t 0, _), (.t 1, _), (.t 8, _)], ⟨rfl, rfl, rfl, rfl, rfl, rfl, trivial⟩, ?_⟩
  refine xa_cond rfl (fun hc => ?_) (fun hc => ?_)
  · try simp only [decide_eq_true_eq, decide_eq_false_iff_not, Bool.not_eq_true', Bool.not_eq_false', bne_iff_ne, beq_iff_eq, ne_eq, Bool.not_true, Bool.not_false, beq_eq_false_iff_ne, bne_eq_false_iff_eq, Decidable.not_not, Int.not_lt, Int.not_le, Bool.and_eq_true, Bool.and_eq_false_iff, Bool.or_eq_true, Bool.or_eq_false_iff, List.length_map] at hc
    have hvc : ¬ vc xs ys = true := by simpa using hc
    refine xa_seq ?_
    refine xa_region ?_
    (refine x_assign_nil rfl rfl (fun _ => rfl) ?_; intro g4)
    refine xr_nil ⟨nofun, [(.t 4, _), (.h 4, _)], ⟨rfl, rfl, rfl, rfl, trivial⟩, ?_⟩
    refine xa_ret ?_
    refine ret_own' rfl rfl (by simp) (by rfl) trivial ?_
    rw [slR, if_neg hvc]
    rfl
  · try simp only [decide_eq_true_eq, decide_eq_false_iff_not, Bool.not_eq_true', Bool.not_eq_false', bne_iff_ne, beq_iff_eq, ne_eq, Bool.not_true, Bool.not_false, beq_eq_false_iff_ne, bne_eq_false_iff_eq, Decidable.not_not, Int.not_lt, Int.not_le, Bool.and_eq_true, Bool.and_eq_false_iff, Bool.or_eq_true, Bool.or_eq_false_iff, List.length_map] at hc
    have hvc : vc xs ys = true := by exact hc
    have hv := vc_iff.1 hvc
    obtain ⟨hl3, h7, hx, hy, hw⟩ := hv
    have hsl := slA_len (xs := xs) (ys := ys) h7
    have hsp := slA_pos (ys := ys) hw
    have hsm : ∀ i, i < (sortQ (slA xs ys)).length → Sm 24 ((sortQ (slA xs ys)).getD i default) := fun i hi => sortQ_sm (slU_sm hx hy _) _ (getD_memG hi)
    have hsq := sortQ_length (slA xs ys)
    have hd1 := half_pred (n := (sortQ (slA xs ys)).length) (by omega)
    have hd2 := half_eq (sortQ (slA xs ys)).length
    refine xa_skip ?_
    refine xa_seq ?_
    refine xa_region ?_
    refine x_move rfl rfl ?_
    refine x_move rfl rfl ?_
    apply x_call rfl
    · apply pa_cons
      · exact pa_plain rfl
      apply pa_cons
      · exact pa_plain rfl
      exact pa_nil
    · exact s_slopesI xs ys hl3 h7 hx hy
    · exact ⟨rfl, rfl, rfl, of_decide_eq_true rfl, rfl⟩
    · exact .inl rfl
    · exact back_nil
    · exact inst_own
    · exact fun _ => rfl
    intro g11
    (refine x_assign_own rfl rfl (by (simp; done)) rfl (fun _ => (slot_obj (by exact noRef_map fun _ => rfl))) (fun _ => rfl) ?_; intro g4)
    refine xr_nil ⟨nofun, [(.t 4, _), (.h 4, _)], ⟨rfl, rfl, rfl, rfl, trivial⟩, ?_⟩
    refine xa_ret ?_
    refine ret_own' rfl rfl (by simp) (by exact noRef_map fun _ => rfl) trivial ?_
    rw [slR, if_pos hvc]

theorem keep_s_slopesOfS : keepOf Try.f21 = [0, 1, 4, 8] := by kernel_rfl
set_option maxHeartbeats 20000000 in
theorem s_slopesOfS (xs ys : List Int) (hl : xs.length ≤ 1048576) (hl2 : ys.length ≤ 1048576) : CW cxT 21 [L xs, L ys] = some (.own 2 ((slR xs ys).map qV), []) := by
  refine fn_intro rfl Try.func21 rfl ⟨by kernel_rfl, rfl, of_decide_eq_true rfl, of_decide_eq_true rfl, by decide⟩ keep_s_slopesOfS ?_
  refine xa_seq ?_
  refine xa_region ?_
  (refine x_assign_nil rfl rfl (fun _ => rfl) ?_; intro g4)
  refine xr_nil ⟨nofun, [(.t 0, _), (.t 1, _)], ⟨rfl, rfl, rfl, rfl, trivial⟩, ?_⟩
  refine xa_seq ?_
  refine xa_seq ?_
  refine xa_region ?_
  refine x_move rfl rfl ?_
  refine x_move rfl rfl ?_
  apply x_call rfl
  · apply pa_cons
    · exact pa_plain rfl
    apply pa_cons
    · exact pa_plain rfl
    exact pa_nil
  · exact s_validCloud xs ys hl hl2
  · exact ⟨rfl, rfl, rfl, of_decide_eq_true rfl, rfl⟩
  · exact .inl rfl
  · exact back_nil
  · exact inst_plain rfl
  · exact fun _ => rfl
  intro g7
  refine x_not rfl ?_
  refine xr_nil ⟨nofun, [(.t 0, _), (.t 1, _), (.t 8, _)], ⟨rfl, rfl, rfl, rfl, rfl, rfl, trivial⟩, ?_⟩
  refine xa_cond rfl (fun hc => ?_) (fun hc => ?_)
  · try simp only [decide_eq_true_eq, decide_eq_false_iff_not, Bool.not_eq_true', Bool.not_eq_false', bne_iff_ne, beq_iff_eq, ne_eq, Bool.not_true, Bool.not_false, beq_eq_false_iff_ne, bne_eq_false_iff_eq, Decidable.not_not, Int.not_lt, Int.not_le, Bool.and_eq_true, Bool.and_eq_false_iff, Bool.or_eq_true, Bool.or_eq_false_iff, List.length_map] at hc
    have hvc : ¬ vc xs ys = true := by simpa using hc
    refine xa_seq ?_
    refine xa_region ?_
    (refine x_assign_nil rfl rfl (fun _ => rfl) ?_; intro g4)
    refine xr_nil ⟨nofun, [(.t 4, _), (.h 4, _)], ⟨rfl, rfl, rfl, rfl, trivial⟩, ?_⟩
    refine xa_ret ?_
    refine ret_own' rfl rfl (by simp) (by rfl) trivial ?_
    rw [slR, if_neg hvc]
    rfl
  · try simp only [decide_eq_true_eq, decide_eq_false_iff_not, Bool.not_eq_true', Bool.not_eq_false', bne_iff_ne, beq_iff_eq, ne_eq, Bool.not_true, Bool.not_false, beq_eq_false_iff_ne, bne_eq_false_iff_eq, Decidable.not_not, Int.not_lt, Int.not_le, Bool.and_eq_true, Bool.and_eq_false_iff, Bool.or_eq_true, Bool.or_eq_false_iff, List.length_map] at hc
    have hvc : vc xs ys = true := by exact hc
    have hv := vc_iff.1 hvc
    obtain ⟨hl3, h7, hx, hy, hw⟩ := hv
    have hsl := slA_len (xs := xs) (ys := ys) h7
    have hsp := slA_pos (ys := ys) hw
    have hsm : ∀ i, i < (sortQ (slA xs ys)).length → Sm 24 ((sortQ (slA xs ys)).getD i default) := fun i hi => sortQ_sm (slU_sm hx hy _) _ (getD_memG hi)
    have hsq := sortQ_length (slA xs ys)
    have hd1 := half_pred (n := (sortQ (slA xs ys)).length) (by omega)
    have hd2 := half_eq (sortQ (slA xs ys)).length
    refine xa_skip ?_
    refine xa_seq ?_
    refine xa_region ?_
    refine x_move rfl rfl ?_
    refine x_move rfl rfl ?_
    apply x_call rfl
    · apply pa_cons
      · exact pa_plain rfl
      apply pa_cons
      · exact pa_plain rfl
      exact pa_nil
    · exact s_slopesS xs ys hl3 h7 hx hy
    · exact ⟨rfl, rfl, rfl, of_decide_eq_true rfl, rfl⟩
    · exact .inl rfl
    · exact back_nil
    · exact inst_own
    · exact fun _ => rfl
    intro g11
    apply x_call rfl
    · apply pa_cons
      · exact pa_lend_map rfl rfl rfl (by (simp; done)) (fun _ => rfl)
      exact pa_nil
    · exact s_sortFracs (slA xs ys) (by omega) (fun q hq => (slU_sm hx hy _ q hq).mono (by decide))
    · exact ⟨rfl, rfl, rfl, of_decide_eq_true rfl, rfl⟩
    · exact .inr ⟨hasListL_mapF fun _ => rfl, rfl⟩
    · exact back_nil
    · exact inst_own
    · exact fun _ => rfl
    intro g12
    (refine x_assign_own rfl rfl (by (simp; done)) rfl (fun _ => (slot_obj (by exact noRef_map fun _ => rfl))) (fun _ => rfl) ?_; intro g4)
    refine xr_nil ⟨nofun, [(.t 4, _), (.h 4, _)], ⟨rfl, rfl, rfl, rfl, trivial⟩, ?_⟩
    refine xa_ret ?_
    refine ret_own' rfl rfl (by simp) (by exact noRef_map fun _ => rfl) trivial ?_
    rw [slR, if_pos hvc]

theorem keep_s_equalFracs : keepOf Try.f28 = [0, 1, 4, 10, 5, 14, 25] := by kernel_rfl
set_option maxHeartbeats 20000000 in
theorem s_equalFracs (l : List Rat) (hl : l.length ≤ 1048576) : CW cxT 28 [.list (l.map qV), .list (l.map qV)] = some (bV true, []) := by
  refine fn_intro rfl Try.func28 rfl ⟨by kernel_rfl, rfl, of_decide_eq_true rfl, of_decide_eq_true rfl, by decide⟩ keep_s_equalFracs ?_
  refine xa_seq ?_
  refine xa_region ?_
  refine x_assign rfl rfl rfl ?_
  refine xr_nil ⟨nofun, [(.t 0, _), (.t 1, _)], ⟨rfl, rfl, rfl, rfl, trivial⟩, ?_⟩
  refine xa_seq ?_
  refine xa_seq ?_
  refine xa_region ?_
  refine x_move rfl rfl ?_
  refine x_len_map rfl rfl ?_
  refine x_move rfl rfl ?_
  refine x_len_map rfl rfl ?_
  refine x_neq rfl rfl ?_
  refine xr_nil ⟨nofun, [(.t 0, _), (.t 1, _), (.t 10, _)], ⟨rfl, rfl, rfl, rfl, rfl, rfl, trivial⟩, ?_⟩
  refine xa_cond rfl (fun hc => ?_) (fun hc => ?_)
  · try simp only [decide_eq_true_eq, decide_eq_false_iff_not, Bool.not_eq_true', Bool.not_eq_false', bne_iff_ne, beq_iff_eq, ne_eq, Bool.not_true, Bool.not_false, beq_eq_false_iff_ne, bne_eq_false_iff_eq, Decidable.not_not, Int.not_lt, Int.not_le] at hc
    exact absurd trivial hc
  · try simp only [decide_eq_true_eq, decide_eq_false_iff_not, Bool.not_eq_true', Bool.not_eq_false', bne_iff_ne, beq_iff_eq, ne_eq, Bool.not_true, Bool.not_false, beq_eq_false_iff_ne, bne_eq_false_iff_eq, Decidable.not_not, Int.not_lt, Int.not_le, Bool.and_eq_true, Bool.and_eq_false_iff, Bool.or_eq_true, Bool.or_eq_false_iff, List.length_map] at hc
    refine xa_skip ?_
    refine xa_seq ?_
    refine xa_seq ?_
    refine xa_region ?_
    refine x_assign rfl rfl rfl ?_
    refine xr_nil ⟨nofun, [(.t 0, _), (.t 1, _), (.t 5, _)], ⟨rfl, rfl, rfl, rfl, rfl, rfl, trivial⟩, ?_⟩
    refine xa_block ?_
    refine xa_loopK (β := Nat) [(.t 0, _), (.t 1, _)] (fun (i : Nat) => [(.t 5, iV i)]) (fun (i : Nat) => i ≤ l.length) (fun (i : Nat) => l.length - i) 0 ⟨rfl, rfl, rfl, trivial⟩ (Nat.zero_le _) ?_
    intro i hb
    have hi1 := hb
    refine xa_seq ?_
    refine xa_seq ?_
    refine xa_region ?_
    refine x_move rfl rfl ?_
    refine x_move rfl rfl ?_
    refine x_len_map rfl rfl ?_
    refine x_lss rfl rfl ?_
    refine xr_nil ⟨nofun, [(.t 0, _), (.t 1, _), (.t 5, _), (.t 14, _)], ⟨rfl, rfl, rfl, rfl, rfl, rfl, rfl, rfl, trivial⟩, ?_⟩
    refine xa_cond rfl (fun hc => ?_) (fun hc => ?_)
    · try simp only [decide_eq_true_eq, decide_eq_false_iff_not, Bool.not_eq_true', Bool.not_eq_false', bne_iff_ne, beq_iff_eq, ne_eq, Bool.not_true, Bool.not_false, beq_eq_false_iff_ne, bne_eq_false_iff_eq, Decidable.not_not, Int.not_lt, Int.not_le, Bool.and_eq_true, Bool.and_eq_false_iff, Bool.or_eq_true, Bool.or_eq_false_iff, List.length_map] at hc
      refine xa_skip ?_
      refine xa_seq ?_
      refine xa_block ?_
      refine xa_seq ?_
      refine xa_region ?_
      refine x_move rfl rfl ?_
      refine x_move rfl rfl ?_
      refine x_index_listN rfl rfl rfl (fun _ => rfl) (by omega) ?_
      refine x_load_iptV rfl rfl rfl ?_
      refine x_move rfl rfl ?_
      refine x_move rfl rfl ?_
      refine x_index_listN rfl rfl rfl (fun _ => rfl) (by omega) ?_
      refine x_load_iptV rfl rfl rfl ?_
      refine x_ane rfl rfl (by kernel_rfl) rfl ?_
      refine xr_nil ⟨fun _ => ⟨by decide +kernel, by decide +kernel⟩, [(.t 0, _), (.t 1, _), (.t 5, _), (.t 25, _)], ⟨rfl, rfl, rfl, rfl, rfl, rfl, rfl, rfl, trivial⟩, ?_⟩
      refine xa_cond rfl (fun hc => ?_) (fun hc => ?_)
      · try simp only [decide_eq_true_eq, decide_eq_false_iff_not, Bool.not_eq_true', Bool.not_eq_false', bne_iff_ne, beq_iff_eq, ne_eq, Bool.not_true, Bool.not_false, beq_eq_false_iff_ne, bne_eq_false_iff_eq, Decidable.not_not, Int.not_lt, Int.not_le] at hc
        exact absurd hc (by simp [aggEq, scalarEq])
      · try simp only [decide_eq_true_eq, decide_eq_false_iff_not, Bool.not_eq_true', Bool.not_eq_false', bne_iff_ne, beq_iff_eq, ne_eq, Bool.not_true, Bool.not_false, beq_eq_false_iff_ne, bne_eq_false_iff_eq, Decidable.not_not, Int.not_lt, Int.not_le, Bool.and_eq_true, Bool.and_eq_false_iff, Bool.or_eq_true, Bool.or_eq_false_iff, List.length_map] at hc
        refine xa_skip ?_
        refine xa_region ?_
        refine x_move rfl rfl ?_
        refine x_add rfl rfl (inI64 (by omega)) ?_
        refine x_assign rfl rfl rfl ?_
        refine xr_nil ⟨nofun, [(.t 0, _), (.t 1, _), (.t 5, _)], ⟨rfl, rfl, rfl, rfl, rfl, rfl, trivial⟩, ?_⟩
        refine ⟨i + 1, (by omega), (by omega), ⟨rfl, rfl, rfl, trivial⟩⟩
    · try simp only [decide_eq_true_eq, decide_eq_false_iff_not, Bool.not_eq_true', Bool.not_eq_false', bne_iff_ne, beq_iff_eq, ne_eq, Bool.not_true, Bool.not_false, beq_eq_false_iff_ne, bne_eq_false_iff_eq, Decidable.not_not, Int.not_lt, Int.not_le, Bool.and_eq_true, Bool.and_eq_false_iff, Bool.or_eq_true, Bool.or_eq_false_iff, List.length_map] at hc
      refine xa_exit ?_
      refine xa_seq ?_
      refine xa_region ?_
      refine x_assign rfl rfl rfl ?_
      refine xr_nil ⟨nofun, [(.t 4, _)], ⟨rfl, rfl, trivial⟩, ?_⟩
      refine xa_ret ?_
      refine ret_val' rfl rfl trivial ?_
      rfl

theorem keep_s_rising : keepOf Try.f29 = [0, 2, 3, 7, 19] := by kernel_rfl
set_option maxHeartbeats 20000000 in
theorem s_rising (l : List Rat) (hl : l.length ≤ 1000000) (hs : l.Pairwise (· ≤ ·)) (hx : ∀ q ∈ l, Sm 1000000000 q) : CW cxT 29 [.list (l.map qV)] = some (bV true, []) := by
  refine fn_intro rfl Try.func29 rfl ⟨by kernel_rfl, rfl, of_decide_eq_true rfl, of_decide_eq_true rfl, by decide⟩ keep_s_rising ?_
  refine xa_seq ?_
  refine xa_region ?_
  refine x_assign rfl rfl rfl ?_
  refine xr_nil ⟨nofun, [(.t 0, _)], ⟨rfl, rfl, trivial⟩, ?_⟩
  refine xa_seq ?_
  refine xa_seq ?_
  refine xa_region ?_
  refine x_assign rfl rfl rfl ?_
  refine xr_nil ⟨nofun, [(.t 0, _), (.t 3, _)], ⟨rfl, rfl, rfl, rfl, trivial⟩, ?_⟩
  refine xa_block ?_
  refine xa_loopK (β := Nat) [(.t 0, _)] (fun (i : Nat) => [(.t 3, iV i)]) (fun (i : Nat) => 1 ≤ i) (fun (i : Nat) => l.length - i) 1 ⟨rfl, rfl, trivial⟩ (Nat.le_refl _) ?_
  intro i hb
  have hi1 := hb
  refine xa_seq ?_
  refine xa_seq ?_
  refine xa_region ?_
  refine x_move rfl rfl ?_
  refine x_move rfl rfl ?_
  refine x_len_map rfl rfl ?_
  refine x_lss rfl rfl ?_
  refine xr_nil ⟨nofun, [(.t 0, _), (.t 3, _), (.t 7, _)], ⟨rfl, rfl, rfl, rfl, rfl, rfl, trivial⟩, ?_⟩
  refine xa_cond rfl (fun hc => ?_) (fun hc => ?_)
  · try simp only [decide_eq_true_eq, decide_eq_false_iff_not, Bool.not_eq_true', Bool.not_eq_false', bne_iff_ne, beq_iff_eq, ne_eq, Bool.not_true, Bool.not_false, beq_eq_false_iff_ne, bne_eq_false_iff_eq, Decidable.not_not, Int.not_lt, Int.not_le, Bool.and_eq_true, Bool.and_eq_false_iff, Bool.or_eq_true, Bool.or_eq_false_iff, List.length_map] at hc
    refine xa_skip ?_
    refine xa_seq ?_
    refine xa_block ?_
    refine xa_seq ?_
    refine xa_region ?_
    refine x_move rfl rfl ?_
    refine x_move rfl rfl ?_
    refine x_index_listN rfl rfl rfl (fun _ => rfl) (by omega) ?_
    refine x_load_iptV rfl rfl rfl ?_
    refine x_move rfl rfl ?_
    refine x_move rfl rfl ?_
    refine x_sub rfl rfl (inI64 (by omega)) ?_
    rw [show ((i : Int) - 1) = ((i - 1 : Nat) : Int) by omega]
    refine x_index_listN rfl rfl rfl (fun _ => rfl) (by omega) ?_
    refine x_load_iptV rfl rfl rfl ?_
    have hsi := sortedQ_getD hs (show i - 1 ≤ i by omega) (show i < l.length by omega)
    have hlt : decide (l.getD i default < l.getD (i - 1) default) = false := decide_eq_false (Rat.not_lt.2 hsi)
    apply x_call rfl
    · apply pa_cons
      · exact pa_plain rfl
      apply pa_cons
      · exact pa_plain rfl
      exact pa_nil
    · exact s_lessL (l.getD i default) (l.getD (i - 1) default) (hx _ (getD_memG (by omega))) (hx _ (getD_memG (by omega)))
    · exact ⟨rfl, rfl, rfl, of_decide_eq_true rfl, rfl⟩
    · exact .inl rfl
    · exact back_nil
    · exact inst_plain rfl
    · exact fun _ => rfl
    intro g19
    rw [hlt]
    refine xr_nil ⟨fun _ => ⟨by decide +kernel, by decide +kernel⟩, [(.t 0, _), (.t 3, _), (.t 19, _)], ⟨rfl, rfl, rfl, rfl, rfl, rfl, trivial⟩, ?_⟩
    refine xa_cond rfl (fun hc => absurd hc (by decide)) (fun hc => ?_)
    refine xa_skip ?_
    refine xa_region ?_
    refine x_move rfl rfl ?_
    refine x_add rfl rfl (inI64 (by omega)) ?_
    refine x_assign rfl rfl rfl ?_
    refine xr_nil ⟨nofun, [(.t 0, _), (.t 3, _)], ⟨rfl, rfl, rfl, rfl, trivial⟩, ?_⟩
    refine ⟨i + 1, (by omega), (by omega), ⟨rfl, rfl, trivial⟩⟩
  · try simp only [decide_eq_true_eq, decide_eq_false_iff_not, Bool.not_eq_true', Bool.not_eq_false', bne_iff_ne, beq_iff_eq, ne_eq, Bool.not_true, Bool.not_false, beq_eq_false_iff_ne, bne_eq_false_iff_eq, Decidable.not_not, Int.not_lt, Int.not_le, Bool.and_eq_true, Bool.and_eq_false_iff, Bool.or_eq_true, Bool.or_eq_false_iff, List.length_map] at hc
    refine xa_exit ?_
    refine xa_seq ?_
    refine xa_region ?_
    refine x_assign rfl rfl rfl ?_
    refine xr_nil ⟨nofun, [(.t 2, _)], ⟨rfl, rfl, trivial⟩, ?_⟩
    refine xa_ret ?_
    refine ret_val' rfl rfl trivial ?_
    rfl

theorem keep_s_someCloud : keepOf Try.f64 = [0, 2, 3, 7, 4, 21, 30, 8, 6, 9, 5, 47, 48, 54, 58] := by kernel_rfl
set_option maxHeartbeats 20000000 in
theorem s_someCloud (bs : List Int) (p : Int) (hbs : Bytes bs) (hl : bs.length ≤ 1048576) (hp : p = 0) : ∃ res outs, (fun res outs => ∃ (xs ys : List Int) (p' : Int), res = .tup [.own 1 (xs.map iV), .own 1 (ys.map iV)] ∧ outs = [[rdr bs p']] ∧ xs.length ≤ 8 ∧ ys.length ≤ 9) res outs ∧ CW cxT 64 [.ownp [rdr bs p] 0 0] = some (res, outs) := by
  refine fn_introP rfl Try.func64 rfl ⟨by kernel_rfl, rfl, of_decide_eq_true rfl, of_decide_eq_true rfl, by decide⟩ keep_s_someCloud ?_
  refine xa_seq ?_
  refine xa_region ?_
  (refine x_assign_nil rfl rfl (fun _ => rfl) ?_; intro g2)
  (refine x_assign_nil rfl rfl (fun _ => rfl) ?_; intro g3)
  refine xr_nil ⟨nofun, [(.t 0, _), (.h 0, _)], ⟨rfl, rfl, rfl, rfl, trivial⟩, ?_⟩
  refine xa_seq ?_
  refine xa_region ?_
  refine x_buildSlice (es := List.map iV []) rfl rfl (by decide) rfl rfl (fun _ => slot_obj (noRef_map fun _ => rfl)) (fun _ => rfl) ?_
  intro g10
  (refine x_assign_own rfl rfl (by (simp; done)) rfl (fun _ => (slot_obj (by exact noRef_map fun _ => rfl))) (fun _ => rfl) ?_; intro g4)
  refine xr_nil ⟨nofun, [(.t 0, _), (.t 4, _), (.h 0, _), (.h 4, _)], ⟨rfl, rfl, rfl, rfl, rfl, rfl, rfl, rfl, trivial⟩, ?_⟩
  refine xa_seq ?_
  refine xa_region ?_
  refine x_buildSlice (es := List.map iV []) rfl rfl (by decide) rfl rfl (fun _ => slot_obj (noRef_map fun _ => rfl)) (fun _ => rfl) ?_
  intro g11
  (refine x_assign_own rfl rfl (by (simp; done)) rfl (fun _ => (slot_obj (by exact noRef_map fun _ => rfl))) (fun _ => rfl) ?_; intro g5)
  refine xr_nil ⟨nofun, [(.t 0, _), (.t 4, _), (.t 5, _), (.h 0, _), (.h 4, _), (.h 5, _)], ⟨rfl, rfl, rfl, rfl, rfl, rfl, rfl, rfl, rfl, rfl, rfl, rfl, trivial⟩, ?_⟩
  refine xa_seq ?_
  refine xa_region ?_
  refine x_move rfl rfl ?_
  obtain ⟨_, _, ⟨k0, rfl, rfl, k0b, -⟩, hC0⟩ := s_pick bs (p) hbs hl (by omega) 3 (by omega)
  have k0b := k0b (by omega)
  apply x_call rfl
  · apply pa_cons
    · exact pa_box rfl (by decide) rfl
    apply pa_cons
    · exact pa_plain rfl
    exact pa_nil
  · exact hC0
  · exact ⟨rfl, rfl, rfl, of_decide_eq_true rfl, rfl⟩
  · exact .inl rfl
  · exact back_cons rfl rfl rfl back_nil
  · exact inst_plain rfl
  · exact fun _ => rfl
  intro g13
  refine x_sub rfl rfl (inI64 (by omega)) ?_
  refine x_assign rfl rfl rfl ?_
  refine xr_nil ⟨nofun, [(.t 0, _), (.t 4, _), (.t 5, _), (.t 6, _), (.h 0, _), (.h 4, _), (.h 5, _)], ⟨rfl, rfl, rfl, rfl, rfl, rfl, rfl, rfl, rfl, rfl, rfl, rfl, rfl, rfl, trivial⟩, ?_⟩
  refine xa_seq ?_
  refine xa_seq ?_
  refine xa_region ?_
  refine x_move rfl rfl ?_
  refine x_buildSlice (es := List.map iV [_, _, _, _, _, _, _, _]) rfl rfl (by decide) rfl rfl (fun _ => slot_obj (noRef_map fun _ => rfl)) (fun _ => rfl) ?_
  intro g16
  obtain ⟨_, _, ⟨k1, rfl, rfl, k1m⟩, hC1⟩ := s_one bs (p + 1) hbs hl (by omega) [4, 5, 3, 6, 2, 7, 1, 0] (by decide)
  have k1b : 0 ≤ k1 ∧ k1 ≤ 7 := by simp at k1m; omega
  apply x_call rfl
  · apply pa_cons
    · exact pa_box rfl (by decide) rfl
    apply pa_cons
    · exact pa_keep_map rfl rfl (by (simp; done)) (fun _ => rfl)
    exact pa_nil
  · exact hC1
  · exact ⟨rfl, rfl, rfl, of_decide_eq_true rfl, rfl⟩
  · exact .inl rfl
  · exact back_cons rfl rfl rfl back_nil
  · exact inst_plain rfl
  · exact fun _ => rfl
  intro g17
  refine x_assign rfl rfl rfl ?_
  refine xr_nil ⟨nofun, [(.t 0, _), (.t 4, _), (.t 5, _), (.t 6, _), (.t 7, _), (.h 0, _), (.h 4, _), (.h 5, _)], ⟨rfl, rfl, rfl, rfl, rfl, rfl, rfl, rfl, rfl, rfl, rfl, rfl, rfl, rfl, rfl, rfl, trivial⟩, ?_⟩
  refine xa_block ?_
  refine xa_loopK (β := List Int × Nat × List Int × Nat × Int) [(.t 0, _), (.t 6, _), (.t 7, _)] (fun (z : List Int × Nat × List Int × Nat × Int) => match z with | (xs, gx, ys, gy, q) => [(.h 0, .obj 1 4 0 [rdr bs q]), (.t 4, .sl 4 gx none 0 xs.length), (.h 4, .obj gx 0 1 (xs.map iV)), (.t 5, .sl 5 gy none 0 ys.length), (.h 5, .obj gy 0 1 (ys.map iV))]) (fun (z : List Int × Nat × List Int × Nat × Int) => match z with | (xs, gx, ys, gy, q) => (xs.length : Int) ≤ k1 ∧ xs.length = ys.length ∧ p + 2 ≤ q ∧ q ≤ p + 2 + 4 * (xs.length : Int)) (fun (z : List Int × Nat × List Int × Nat × Int) => match z with | (xs, gx, ys, gy, q) => 8 - xs.length) ([], _, [], _, p + 1 + 1) ⟨rfl, rfl, rfl, rfl, rfl, rfl, rfl, rfl, trivial⟩ ⟨by simp; omega, rfl, by omega, by simp; omega⟩ ?_
  intro z hb
  obtain ⟨xs, gx, ys, gy, q⟩ := z
  try dsimp only at hb
  obtain ⟨hx1, hx2, hq1, hq2⟩ := hb
  refine xa_seq ?_
  refine xa_seq ?_
  refine xa_region ?_
  refine x_move rfl rfl ?_
  refine x_len_sl rfl rfl ?_
  refine x_move rfl rfl ?_
  refine x_lss rfl rfl ?_
  refine xr_nil ⟨nofun, [(.t 0, _), (.t 4, _), (.t 5, _), (.t 6, _), (.t 7, _), (.t 21, _), (.h 0, _), (.h 4, _), (.h 5, _)], ⟨rfl, rfl, rfl, rfl, rfl, rfl, rfl, rfl, rfl, rfl, rfl, rfl, rfl, rfl, rfl, rfl, rfl, rfl, trivial⟩, ?_⟩
  refine xa_cond rfl (fun hc => ?_) (fun hc => ?_)
  · try simp only [decide_eq_true_eq, decide_eq_false_iff_not, Bool.not_eq_true', Bool.not_eq_false', bne_iff_ne, beq_iff_eq, ne_eq, Bool.not_true, Bool.not_false, beq_eq_false_iff_ne, bne_eq_false_iff_eq, Decidable.not_not, Int.not_lt, Int.not_le, Bool.and_eq_true, Bool.and_eq_false_iff, Bool.or_eq_true, Bool.or_eq_false_iff, List.length_map] at hc
    refine xa_skip ?_
    refine xa_block ?_
    refine xa_seq ?_
    refine xa_region ?_
    refine x_move rfl rfl ?_
    obtain ⟨_, _, ⟨k2, rfl, rfl, k2b, -⟩, hC2⟩ := s_pick bs (q) hbs hl (by omega) 11 (by omega)
    have k2b := k2b (by omega)
    obtain ⟨_, _, ⟨k3, rfl, rfl, k3b, -⟩, hC3⟩ := s_pick bs (q + 1) hbs hl (by omega) 25 (by omega)
    have k3b := k3b (by omega)
    obtain ⟨_, _, ⟨k4, rfl, rfl, k4b, -⟩, hC4⟩ := s_pick bs (q + 1 + 1) hbs hl (by omega) 2 (by omega)
    have k4b := k4b (by omega)
    obtain ⟨_, _, ⟨k5, rfl, rfl, k5b, -⟩, hC5⟩ := s_pick bs (q + 1 + 1 + 1) hbs hl (by omega) 4 (by omega)
    have k5b := k5b (by omega)
    have hmb := mulB (x := k0 - 1) (y := k2 - 5) (a := 1) (b := 5) ⟨by omega, by omega⟩ ⟨by omega, by omega⟩
    apply x_call rfl
    · apply pa_cons
      · exact pa_box rfl (by decide) rfl
      apply pa_cons
      · exact pa_plain rfl
      exact pa_nil
    · exact hC2
    · exact ⟨rfl, rfl, rfl, of_decide_eq_true rfl, rfl⟩
    · exact .inl rfl
    · exact back_cons rfl rfl rfl back_nil
    · exact inst_plain rfl
    · exact fun _ => rfl
    intro g23
    refine x_sub rfl rfl (inI64 (by omega)) ?_
    refine x_assign rfl rfl rfl ?_
    refine xr_nil ⟨nofun, [(.t 0, _), (.t 4, _), (.t 5, _), (.t 6, _), (.t 7, _), (.t 8, _), (.h 0, _), (.h 4, _), (.h 5, _)], ⟨rfl, rfl, rfl, rfl, rfl, rfl, rfl, rfl, rfl, rfl, rfl, rfl, rfl, rfl, rfl, rfl, rfl, rfl, trivial⟩, ?_⟩
    refine xa_seq ?_
    refine xa_region ?_
    refine x_move rfl rfl ?_
    apply x_call rfl
    · apply pa_cons
      · exact pa_box rfl (by decide) rfl
      apply pa_cons
      · exact pa_plain rfl
      exact pa_nil
    · exact hC3
    · exact ⟨rfl, rfl, rfl, of_decide_eq_true rfl, rfl⟩
    · exact .inl rfl
    · exact back_cons rfl rfl rfl back_nil
    · exact inst_plain rfl
    · exact fun _ => rfl
    intro g26
    refine x_sub rfl rfl (inI64 (by omega)) ?_
    refine x_assign rfl rfl rfl ?_
    refine xr_nil ⟨nofun, [(.t 0, _), (.t 4, _), (.t 5, _), (.t 6, _), (.t 7, _), (.t 8, _), (.t 9, _), (.h 0, _), (.h 4, _), (.h 5, _)], ⟨rfl, rfl, rfl, rfl, rfl, rfl, rfl, rfl, rfl, rfl, rfl, rfl, rfl, rfl, rfl, rfl, rfl, rfl, rfl, rfl, trivial⟩, ?_⟩
    refine xa_seq ?_
    refine xa_seq ?_
    refine xa_region ?_
    refine x_move rfl rfl ?_
    apply x_call rfl
    · apply pa_cons
      · exact pa_box rfl (by decide) rfl
      apply pa_cons
      · exact pa_plain rfl
      exact pa_nil
    · exact hC4
    · exact ⟨rfl, rfl, rfl, of_decide_eq_true rfl, rfl⟩
    · exact .inl rfl
    · exact back_cons rfl rfl rfl back_nil
    · exact inst_plain rfl
    · exact fun _ => rfl
    intro g29
    refine x_eql rfl rfl ?_
    refine xr_nil ⟨nofun, [(.t 0, _), (.t 4, _), (.t 5, _), (.t 6, _), (.t 7, _), (.t 8, _), (.t 9, _), (.t 30, _), (.h 0, _), (.h 4, _), (.h 5, _)], ⟨rfl, rfl, rfl, rfl, rfl, rfl, rfl, rfl, rfl, rfl, rfl, rfl, rfl, rfl, rfl, rfl, rfl, rfl, rfl, rfl, rfl, rfl, trivial⟩, ?_⟩
    refine xa_cond rfl (fun hc => ?_) (fun hc => ?_)
    · try simp only [decide_eq_true_eq, decide_eq_false_iff_not, Bool.not_eq_true', Bool.not_eq_false', bne_iff_ne, beq_iff_eq, ne_eq, Bool.not_true, Bool.not_false, beq_eq_false_iff_ne, bne_eq_false_iff_eq, Decidable.not_not, Int.not_lt, Int.not_le, Bool.and_eq_true, Bool.and_eq_false_iff, Bool.or_eq_true, Bool.or_eq_false_iff, List.length_map] at hc
      refine xa_region ?_
      refine x_move rfl rfl ?_
      refine x_move rfl rfl ?_
      refine x_mul rfl rfl (inI64 (by omega)) ?_
      refine x_move rfl rfl ?_
      apply x_call rfl
      · apply pa_cons
        · exact pa_box rfl (by decide) rfl
        apply pa_cons
        · exact pa_plain rfl
        exact pa_nil
      · exact hC5
      · exact ⟨rfl, rfl, rfl, of_decide_eq_true rfl, rfl⟩
      · exact .inl rfl
      · exact back_cons rfl rfl rfl back_nil
      · exact inst_plain rfl
      · exact fun _ => rfl
      intro g35
      refine x_add rfl rfl (inI64 (by omega)) ?_
      refine x_sub rfl rfl (inI64 (by omega)) ?_
      refine x_assign rfl rfl rfl ?_
      refine xr_nil ⟨nofun, [(.t 0, _), (.t 4, _), (.t 5, _), (.t 6, _), (.t 7, _), (.t 8, _), (.t 9, _), (.h 0, _), (.h 4, _), (.h 5, _)], ⟨rfl, rfl, rfl, rfl, rfl, rfl, rfl, rfl, rfl, rfl, rfl, rfl, rfl, rfl, rfl, rfl, rfl, rfl, rfl, rfl, trivial⟩, ?_⟩
      refine xa_seq ?_
      refine xa_region ?_
      refine x_move rfl rfl ?_
      refine x_move rfl rfl ?_
      refine x_buildSlice (es := List.map iV [_]) rfl rfl (by decide) rfl rfl (fun _ => slot_obj (noRef_map fun _ => rfl)) (fun _ => rfl) ?_
      intro g40
      refine x_append_map rfl rfl rfl rfl (by simp) (by simp) (by decide) rfl rfl rfl rfl (by decide) (fun _ => ⟨rfl, rfl⟩) (by simp only [maxL]; (simp only [List.length_nil, List.length_cons, List.length_append, Nat.zero_add, List.length_map]; omega)) (fun _ => rfl) ?_
      intro g41
      (refine x_assign_own rfl rfl (by (simp; done)) rfl (fun _ => (slot_obj (by exact noRef_map fun _ => rfl))) (fun _ => rfl) ?_; intro g4)
      refine xr_nil ⟨nofun, [(.t 0, _), (.t 4, _), (.t 5, _), (.t 6, _), (.t 7, _), (.t 9, _), (.h 0, _), (.h 4, _), (.h 5, _)], ⟨rfl, rfl, rfl, rfl, rfl, rfl, rfl, rfl, rfl, rfl, rfl, rfl, rfl, rfl, rfl, rfl, rfl, rfl, trivial⟩, ?_⟩
      refine xa_region ?_
      refine x_move rfl rfl ?_
      refine x_move rfl rfl ?_
      refine x_buildSlice (es := List.map iV [_]) rfl rfl (by decide) rfl rfl (fun _ => slot_obj (noRef_map fun _ => rfl)) (fun _ => rfl) ?_
      intro g44
      refine x_append_map rfl rfl rfl rfl (by simp) (by simp) (by decide) rfl rfl rfl rfl (by decide) (fun _ => ⟨rfl, rfl⟩) (by simp only [maxL]; (simp only [List.length_nil, List.length_cons, List.length_append, Nat.zero_add, List.length_map]; omega)) (fun _ => rfl) ?_
      intro g45
      (refine x_assign_own rfl rfl (by (simp; done)) rfl (fun _ => (slot_obj (by exact noRef_map fun _ => rfl))) (fun _ => rfl) ?_; intro g5)
      refine xr_nil ⟨nofun, [(.t 0, _), (.t 4, _), (.t 5, _), (.t 6, _), (.t 7, _), (.h 0, _), (.h 4, _), (.h 5, _)], ⟨rfl, rfl, rfl, rfl, rfl, rfl, rfl, rfl, rfl, rfl, rfl, rfl, rfl, rfl, rfl, rfl, trivial⟩, ?_⟩
      refine ⟨(xs ++ [k2 - 5], _, ys ++ [(k0 - 1) * (k2 - 5) + k5 - 1], _, q + 1 + 1 + 1 + 1), ?_, (by simp only [List.length_append, List.length_singleton]; omega), ⟨rfl, rfl, rfl, rfl, rfl, rfl, rfl, rfl, trivial⟩⟩
      refine ⟨?_, ?_, ?_, ?_⟩ <;> (try simp only [List.length_append, List.length_singleton]) <;> omega
    · try simp only [decide_eq_true_eq, decide_eq_false_iff_not, Bool.not_eq_true', Bool.not_eq_false', bne_iff_ne, beq_iff_eq, ne_eq, Bool.not_true, Bool.not_false, beq_eq_false_iff_ne, bne_eq_false_iff_eq, Decidable.not_not, Int.not_lt, Int.not_le, Bool.and_eq_true, Bool.and_eq_false_iff, Bool.or_eq_true, Bool.or_eq_false_iff, List.length_map] at hc
      refine xa_skip ?_
      refine xa_seq ?_
      refine xa_region ?_
      refine x_move rfl rfl ?_
      refine x_move rfl rfl ?_
      refine x_buildSlice (es := List.map iV [_]) rfl rfl (by decide) rfl rfl (fun _ => slot_obj (noRef_map fun _ => rfl)) (fun _ => rfl) ?_
      intro g40
      refine x_append_map rfl rfl rfl rfl (by simp) (by simp) (by decide) rfl rfl rfl rfl (by decide) (fun _ => ⟨rfl, rfl⟩) (by simp only [maxL]; (simp only [List.length_nil, List.length_cons, List.length_append, Nat.zero_add, List.length_map]; omega)) (fun _ => rfl) ?_
      intro g41
      (refine x_assign_own rfl rfl (by (simp; done)) rfl (fun _ => (slot_obj (by exact noRef_map fun _ => rfl))) (fun _ => rfl) ?_; intro g4)
      refine xr_nil ⟨nofun, [(.t 0, _), (.t 4, _), (.t 5, _), (.t 6, _), (.t 7, _), (.t 9, _), (.h 0, _), (.h 4, _), (.h 5, _)], ⟨rfl, rfl, rfl, rfl, rfl, rfl, rfl, rfl, rfl, rfl, rfl, rfl, rfl, rfl, rfl, rfl, rfl, rfl, trivial⟩, ?_⟩
      refine xa_region ?_
      refine x_move rfl rfl ?_
      refine x_move rfl rfl ?_
      refine x_buildSlice (es := List.map iV [_]) rfl rfl (by decide) rfl rfl (fun _ => slot_obj (noRef_map fun _ => rfl)) (fun _ => rfl) ?_
      intro g44
      refine x_append_map rfl rfl rfl rfl (by simp) (by simp) (by decide) rfl rfl rfl rfl (by decide) (fun _ => ⟨rfl, rfl⟩) (by simp only [maxL]; (simp only [List.length_nil, List.length_cons, List.length_append, Nat.zero_add, List.length_map]; omega)) (fun _ => rfl) ?_
      intro g45
      (refine x_assign_own rfl rfl (by (simp; done)) rfl (fun _ => (slot_obj (by exact noRef_map fun _ => rfl))) (fun _ => rfl) ?_; intro g5)
      refine xr_nil ⟨nofun, [(.t 0, _), (.t 4, _), (.t 5, _), (.t 6, _), (.t 7, _), (.h 0, _), (.h 4, _), (.h 5, _)], ⟨rfl, rfl, rfl, rfl, rfl, rfl, rfl, rfl, rfl, rfl, rfl, rfl, rfl, rfl, rfl, rfl, trivial⟩, ?_⟩
      refine ⟨(xs ++ [k2 - 5], _, ys ++ [k3 - 12], _, q + 1 + 1 + 1), ?_, (by simp only [List.length_append, List.length_singleton]; omega), ⟨rfl, rfl, rfl, rfl, rfl, rfl, rfl, rfl, trivial⟩⟩
      refine ⟨?_, ?_, ?_, ?_⟩ <;> (try simp only [List.length_append, List.length_singleton]) <;> omega
  · try simp only [decide_eq_true_eq, decide_eq_false_iff_not, Bool.not_eq_true', Bool.not_eq_false', bne_iff_ne, beq_iff_eq, ne_eq, Bool.not_true, Bool.not_false, beq_eq_false_iff_ne, bne_eq_false_iff_eq, Decidable.not_not, Int.not_lt, Int.not_le, Bool.and_eq_true, Bool.and_eq_false_iff, Bool.or_eq_true, Bool.or_eq_false_iff, List.length_map] at hc
    refine xa_exit ?_
    refine xa_seq ?_
    refine xa_seq ?_
    refine xa_region ?_
    refine x_move rfl rfl ?_
    obtain ⟨_, _, ⟨k6, rfl, rfl, k6b, -⟩, hC6⟩ := s_pick bs (q) hbs hl (by omega) 30 (by omega)
    have k6b := k6b (by omega)
    obtain ⟨_, _, ⟨k7, rfl, rfl, k7m⟩, hC7⟩ := s_one bs (q + 1) hbs hl (by omega) [13, -13, 12] (by decide)
    have k7b : -13 ≤ k7 ∧ k7 ≤ 13 := by simp at k7m; omega
    apply x_call rfl
    · apply pa_cons
      · exact pa_box rfl (by decide) rfl
      apply pa_cons
      · exact pa_plain rfl
      exact pa_nil
    · exact hC6
    · exact ⟨rfl, rfl, rfl, of_decide_eq_true rfl, rfl⟩
    · exact .inl rfl
    · exact back_cons rfl rfl rfl back_nil
    · exact inst_plain rfl
    · exact fun _ => rfl
    intro g47
    refine xr_nil ⟨nofun, [(.t 0, _), (.t 4, _), (.t 5, _), (.t 47, _), (.h 0, _), (.h 4, _), (.h 5, _)], ⟨rfl, rfl, rfl, rfl, rfl, rfl, rfl, rfl, rfl, rfl, rfl, rfl, rfl, rfl, trivial⟩, ?_⟩
    refine xa_block ?_
    refine xa_seq ?_
    refine xa_region ?_
    refine x_eql rfl rfl ?_
    refine x_assign rfl rfl rfl ?_
    refine xr_nil ⟨nofun, [(.t 0, _), (.t 4, _), (.t 5, _), (.t 47, _), (.t 48, _), (.h 0, _), (.h 4, _), (.h 5, _)], ⟨rfl, rfl, rfl, rfl, rfl, rfl, rfl, rfl, rfl, rfl, rfl, rfl, rfl, rfl, rfl, rfl, trivial⟩, ?_⟩
    refine xa_cond rfl (fun hc => ?_) (fun hc => ?_)
    · try simp only [decide_eq_true_eq, decide_eq_false_iff_not, Bool.not_eq_true', Bool.not_eq_false', bne_iff_ne, beq_iff_eq, ne_eq, Bool.not_true, Bool.not_false, beq_eq_false_iff_ne, bne_eq_false_iff_eq, Decidable.not_not, Int.not_lt, Int.not_le, Bool.and_eq_true, Bool.and_eq_false_iff, Bool.or_eq_true, Bool.or_eq_false_iff, List.length_map] at hc
      refine xa_seq ?_
      refine xa_region ?_
      refine x_move rfl rfl ?_
      refine x_move rfl rfl ?_
      refine x_buildSlice (es := List.map iV [_]) rfl rfl (by decide) rfl rfl (fun _ => slot_obj (noRef_map fun _ => rfl)) (fun _ => rfl) ?_
      intro g52
      refine x_append_map rfl rfl rfl rfl (by simp) (by simp) (by decide) rfl rfl rfl rfl (by decide) (fun _ => ⟨rfl, rfl⟩) (by simp only [maxL]; (simp only [List.length_nil, List.length_cons, List.length_append, Nat.zero_add, List.length_map]; omega)) (fun _ => rfl) ?_
      intro g53
      (refine x_assign_own rfl rfl (by (simp; done)) rfl (fun _ => (slot_obj (by exact noRef_map fun _ => rfl))) (fun _ => rfl) ?_; intro g2)
      (refine x_assign_own rfl rfl (by (simp; done)) rfl (fun _ => (slot_obj (by exact noRef_map fun _ => rfl))) (fun _ => rfl) ?_; intro g3)
      refine xr_nil ⟨nofun, [(.t 2, _), (.t 3, _), (.h 0, _), (.h 2, _), (.h 3, _)], ⟨rfl, rfl, rfl, rfl, rfl, rfl, rfl, rfl, rfl, rfl, trivial⟩, ?_⟩
      refine xa_ret ?_
      refine ⟨_, _, ?_, ret_tup (rl_own rfl rfl (by (simp; done)) (by exact noRef_map fun _ => rfl) (rl_own rfl rfl (by (simp; done)) (by exact noRef_map fun _ => rfl) (rl_nil (outs_one rfl rfl)))) rfl⟩
      exact ⟨_, _, _, rfl, rfl, by omega, by (simp; omega)⟩
    · try simp only [decide_eq_true_eq, decide_eq_false_iff_not, Bool.not_eq_true', Bool.not_eq_false', bne_iff_ne, beq_iff_eq, ne_eq, Bool.not_true, Bool.not_false, beq_eq_false_iff_ne, bne_eq_false_iff_eq, Decidable.not_not, Int.not_lt, Int.not_le, Bool.and_eq_true, Bool.and_eq_false_iff, Bool.or_eq_true, Bool.or_eq_false_iff, List.length_map] at hc
      refine xa_seq ?_
      refine xa_region ?_
      refine x_eql rfl rfl ?_
      refine x_assign rfl rfl rfl ?_
      refine xr_nil ⟨nofun, [(.t 0, _), (.t 4, _), (.t 5, _), (.t 54, _), (.h 0, _), (.h 4, _), (.h 5, _)], ⟨rfl, rfl, rfl, rfl, rfl, rfl, rfl, rfl, rfl, rfl, rfl, rfl, rfl, rfl, trivial⟩, ?_⟩
      refine xa_cond rfl (fun hc => ?_) (fun hc => ?_)
      · try simp only [decide_eq_true_eq, decide_eq_false_iff_not, Bool.not_eq_true', Bool.not_eq_false', bne_iff_ne, beq_iff_eq, ne_eq, Bool.not_true, Bool.not_false, beq_eq_false_iff_ne, bne_eq_false_iff_eq, Decidable.not_not, Int.not_lt, Int.not_le, Bool.and_eq_true, Bool.and_eq_false_iff, Bool.or_eq_true, Bool.or_eq_false_iff, List.length_map] at hc
        refine xa_seq ?_
        refine xa_region ?_
        refine x_move rfl rfl ?_
        refine x_len_sl rfl rfl ?_
        refine x_gtr rfl rfl ?_
        refine xr_nil ⟨nofun, [(.t 0, _), (.t 4, _), (.t 5, _), (.t 58, _), (.h 0, _), (.h 4, _), (.h 5, _)], ⟨rfl, rfl, rfl, rfl, rfl, rfl, rfl, rfl, rfl, rfl, rfl, rfl, rfl, rfl, trivial⟩, ?_⟩
        refine xa_cond rfl (fun hc => ?_) (fun hc => ?_)
        · try simp only [decide_eq_true_eq, decide_eq_false_iff_not, Bool.not_eq_true', Bool.not_eq_false', bne_iff_ne, beq_iff_eq, ne_eq, Bool.not_true, Bool.not_false, beq_eq_false_iff_ne, bne_eq_false_iff_eq, Decidable.not_not, Int.not_lt, Int.not_le, Bool.and_eq_true, Bool.and_eq_false_iff, Bool.or_eq_true, Bool.or_eq_false_iff, List.length_map] at hc
          refine xa_region ?_
          refine x_move rfl rfl ?_
          refine x_move rfl rfl ?_
          refine x_buildSlice (es := List.map iV [_, _, _]) rfl rfl (by decide) rfl rfl (fun _ => slot_obj (noRef_map fun _ => rfl)) (fun _ => rfl) ?_
          intro g61
          apply x_call rfl
          · apply pa_cons
            · exact pa_box rfl (by decide) rfl
            apply pa_cons
            · exact pa_keep_map rfl rfl (by (simp; done)) (fun _ => rfl)
            exact pa_nil
          · exact hC7
          · exact ⟨rfl, rfl, rfl, of_decide_eq_true rfl, rfl⟩
          · exact .inl rfl
          · exact back_cons rfl rfl rfl back_nil
          · exact inst_plain rfl
          · exact fun _ => rfl
          intro g62
          refine x_index_slN rfl rfl rfl rfl (by (change 0 < _; omega)) (by (simp; done)) rfl ?_
          refine x_store_mapO rfl rfl rfl (by (change 0 < _; omega)) (fun _ _ => ⟨rfl, rfl, of_decide_eq_true rfl, of_decide_eq_true rfl, rfl, rfl⟩) (by decide) (by exact slot_obj (noRef_map fun _ => rfl)) ?_
          refine xr_nil ⟨nofun, [(.t 4, _), (.t 5, _), (.h 0, _), (.h 4, _), (.h 5, _)], ⟨rfl, rfl, rfl, rfl, rfl, rfl, rfl, rfl, rfl, rfl, trivial⟩, ?_⟩
          refine xa_seq ?_
          refine xa_region ?_
          refine x_move rfl rfl ?_
          refine x_move rfl rfl ?_
          (refine x_assign_own rfl rfl (by (simp; done)) rfl (fun _ => (slot_obj (by exact noRef_map fun _ => rfl))) (fun _ => rfl) ?_; intro g2)
          (refine x_assign_own rfl rfl (by (simp; done)) rfl (fun _ => (slot_obj (by exact noRef_map fun _ => rfl))) (fun _ => rfl) ?_; intro g3)
          refine xr_nil ⟨nofun, [(.t 2, _), (.t 3, _), (.h 0, _), (.h 2, _), (.h 3, _)], ⟨rfl, rfl, rfl, rfl, rfl, rfl, rfl, rfl, rfl, rfl, trivial⟩, ?_⟩
          refine xa_ret ?_
          refine ⟨_, _, ?_, ret_tup (rl_own rfl rfl (by (simp; done)) (by exact noRef_map fun _ => rfl) (rl_own rfl rfl (by (simp; done)) (by exact noRef_map fun _ => rfl) (rl_nil (outs_one rfl rfl)))) rfl⟩
          exact ⟨_, _, _, rfl, rfl, by (simp; omega), by omega⟩
        · try simp only [decide_eq_true_eq, decide_eq_false_iff_not, Bool.not_eq_true', Bool.not_eq_false', bne_iff_ne, beq_iff_eq, ne_eq, Bool.not_true, Bool.not_false, beq_eq_false_iff_ne, bne_eq_false_iff_eq, Decidable.not_not, Int.not_lt, Int.not_le, Bool.and_eq_true, Bool.and_eq_false_iff, Bool.or_eq_true, Bool.or_eq_false_iff, List.length_map] at hc
          refine xa_skip ?_
          refine xa_seq ?_
          refine xa_region ?_
          refine x_move rfl rfl ?_
          refine x_move rfl rfl ?_
          (refine x_assign_own rfl rfl (by (simp; done)) rfl (fun _ => (slot_obj (by exact noRef_map fun _ => rfl))) (fun _ => rfl) ?_; intro g2)
          (refine x_assign_own rfl rfl (by (simp; done)) rfl (fun _ => (slot_obj (by exact noRef_map fun _ => rfl))) (fun _ => rfl) ?_; intro g3)
          refine xr_nil ⟨nofun, [(.t 2, _), (.t 3, _), (.h 0, _), (.h 2, _), (.h 3, _)], ⟨rfl, rfl, rfl, rfl, rfl, rfl, rfl, rfl, rfl, rfl, trivial⟩, ?_⟩
          refine xa_ret ?_
          refine ⟨_, _, ?_, ret_tup (rl_own rfl rfl (by (simp; done)) (by exact noRef_map fun _ => rfl) (rl_own rfl rfl (by (simp; done)) (by exact noRef_map fun _ => rfl) (rl_nil (outs_one rfl rfl)))) rfl⟩
          exact ⟨_, _, _, rfl, rfl, by omega, by omega⟩
      · try simp only [decide_eq_true_eq, decide_eq_false_iff_not, Bool.not_eq_true', Bool.not_eq_false', bne_iff_ne, beq_iff_eq, ne_eq, Bool.not_true, Bool.not_false, beq_eq_false_iff_ne, bne_eq_false_iff_eq, Decidable.not_not, Int.not_lt, Int.not_le, Bool.and_eq_true, Bool.and_eq_false_iff, Bool.or_eq_true, Bool.or_eq_false_iff, List.length_map] at hc
        refine xa_skip ?_
        refine xa_seq ?_
        refine xa_region ?_
        refine x_move rfl rfl ?_
        refine x_move rfl rfl ?_
        (refine x_assign_own rfl rfl (by (simp; done)) rfl (fun _ => (slot_obj (by exact noRef_map fun _ => rfl))) (fun _ => rfl) ?_; intro g2)
        (refine x_assign_own rfl rfl (by (simp; done)) rfl (fun _ => (slot_obj (by exact noRef_map fun _ => rfl))) (fun _ => rfl) ?_; intro g3)
        refine xr_nil ⟨nofun, [(.t 2, _), (.t 3, _), (.h 0, _), (.h 2, _), (.h 3, _)], ⟨rfl, rfl, rfl, rfl, rfl, rfl, rfl, rfl, rfl, rfl, trivial⟩, ?_⟩
        refine xa_ret ?_
        refine ⟨_, _, ?_, ret_tup (rl_own rfl rfl (by (simp; done)) (by exact noRef_map fun _ => rfl) (rl_own rfl rfl (by (simp; done)) (by exact noRef_map fun _ => rfl) (rl_nil (outs_one rfl rfl)))) rfl⟩
        exact ⟨_, _, _, rfl, rfl, by omega, by omega⟩

theorem keep_s_drawSlopesOf : keepOf Try.f27 = [0, 2, 3] := by kernel_rfl
set_option maxHeartbeats 20000000 in
theorem s_drawSlopesOf (bs : List Int) (hbs : Bytes bs) (hl : bs.length ≤ 1048576) : ∃ res outs, (fun res outs => ∃ xs ys : List Int, res = .tup [.own 1 (xs.map iV), .own 1 (ys.map iV)] ∧ outs = [] ∧ xs.length ≤ 8 ∧ ys.length ≤ 9) res outs ∧ CW cxT 27 [.list (bs.map uV)] = some (res, outs) := by
  refine fn_introP rfl Try.func27 rfl ⟨by kernel_rfl, rfl, of_decide_eq_true rfl, of_decide_eq_true rfl, by decide⟩ keep_s_drawSlopesOf ?_
  refine xa_seq ?_
  refine xa_region ?_
  (refine x_assign_nil rfl rfl (fun _ => rfl) ?_; intro g2)
  (refine x_assign_nil rfl rfl (fun _ => rfl) ?_; intro g3)
  refine xr_nil ⟨nofun, [(.t 0, _)], ⟨rfl, rfl, trivial⟩, ?_⟩
  refine xa_seq ?_
  refine xa_region ?_
  refine x_move rfl rfl ?_
  obtain ⟨_, _, ⟨rfl, rfl⟩, hC0⟩ := s_newReader bs hl
  have hbs2 : Bytes (bs.take 2000) := fun b hb => hbs b (List.mem_of_mem_take hb)
  have hl2 : (bs.take 2000).length ≤ 1048576 := by simp; omega
  apply x_call rfl
  · apply pa_cons
    · exact pa_plain rfl
    exact pa_nil
  · exact hC0
  · exact ⟨rfl, rfl, rfl, of_decide_eq_true rfl, rfl⟩
  · exact .inl rfl
  · exact back_nil
  · exact inst_box
  · exact fun _ => rfl
  intro g5
  obtain ⟨_, _, ⟨xs, ys, p1, rfl, rfl, hx8, hy9⟩, hC1⟩ := s_someCloud (bs.take 2000) 0 hbs2 hl2 rfl
  apply x_call rfl
  · apply pa_cons
    · exact pa_box rfl (by decide) rfl
    exact pa_nil
  · exact hC1
  · exact ⟨rfl, rfl, rfl, of_decide_eq_true rfl, rfl⟩
  · exact .inl rfl
  · exact back_cons rfl rfl rfl back_nil
  · exact inst_tupL (il_own fun _ => il_own fun _ => il_nil)
  · exact fun _ => rfl
  intro g6
  refine x_extract rfl rfl rfl ?_
  refine x_extract rfl rfl rfl ?_
  (refine x_assign_own rfl rfl (by (simp; done)) rfl (fun _ => (slot_obj (by exact noRef_map fun _ => rfl))) (fun _ => rfl) ?_; intro g2)
  (refine x_assign_own rfl rfl (by (simp; done)) rfl (fun _ => (slot_obj (by exact noRef_map fun _ => rfl))) (fun _ => rfl) ?_; intro g3)
  refine xr_nil ⟨nofun, [(.t 2, _), (.t 3, _), (.h 2, _), (.h 3, _)], ⟨rfl, rfl, rfl, rfl, rfl, rfl, rfl, rfl, trivial⟩, ?_⟩
  refine xa_ret ?_
  refine ⟨_, _, ?_, ret_tup (rl_own rfl rfl (by simp) (by exact noRef_map fun _ => rfl) (rl_own rfl rfl (by simp) (by exact noRef_map fun _ => rfl) (rl_nil outs_nil))) rfl⟩
  exact ⟨xs, ys, rfl, rfl, hx8, hy9⟩

theorem keep_s_FnSlopesOf : keepOf Try.f6 = [0, 2, 11, 4, 3, 5, 30, 7, 39, 8, 44, 55, 6] := by kernel_rfl
set_option maxHeartbeats 20000000 in
theorem s_FnSlopesOf (bs : List Int) (hbs : Bytes bs) : CW cxT 6 [.list (bs.map uV)] = some (bV true, []) := by
  refine fn_intro rfl Try.func6 rfl ⟨by kernel_rfl, rfl, of_decide_eq_true rfl, of_decide_eq_true rfl, by decide⟩ keep_s_FnSlopesOf ?_
  refine xa_seq ?_
  refine xa_region ?_
  refine x_assign rfl rfl rfl ?_
  refine xr_nil ⟨nofun, [(.t 0, _)], ⟨rfl, rfl, trivial⟩, ?_⟩
  refine xa_seq ?_
  refine xa_seq ?_
  refine xa_region ?_
  refine x_move rfl rfl ?_
  refine x_len_map rfl rfl ?_
  skip
  refine x_gtr rfl rfl ?_
  refine xr_nil ⟨nofun, [(.t 0, _), (.t 11, _)], ⟨rfl, rfl, rfl, rfl, trivial⟩, ?_⟩
  refine xa_cond rfl (fun hc => ?_) (fun hc => ?_)
  · try simp only [decide_eq_true_eq, decide_eq_false_iff_not, Bool.not_eq_true', Bool.not_eq_false', bne_iff_ne, beq_iff_eq, ne_eq, Bool.not_true, Bool.not_false, beq_eq_false_iff_ne, bne_eq_false_iff_eq, Decidable.not_not, Int.not_lt, Int.not_le, Bool.and_eq_true, Bool.and_eq_false_iff, Bool.or_eq_true, Bool.or_eq_false_iff, List.length_map] at hc
    refine xa_seq ?_
    refine xa_region ?_
    refine x_assign rfl rfl rfl ?_
    refine xr_nil ⟨nofun, [(.t 2, _)], ⟨rfl, rfl, trivial⟩, ?_⟩
    refine xa_ret ?_
    refine ret_val' rfl rfl trivial ?_
    rfl
  · try simp only [decide_eq_true_eq, decide_eq_false_iff_not, Bool.not_eq_true', Bool.not_eq_false', bne_iff_ne, beq_iff_eq, ne_eq, Bool.not_true, Bool.not_false, beq_eq_false_iff_ne, bne_eq_false_iff_eq, Decidable.not_not, Int.not_lt, Int.not_le, Bool.and_eq_true, Bool.and_eq_false_iff, Bool.or_eq_true, Bool.or_eq_false_iff, List.length_map] at hc
    refine xa_skip ?_
    refine xa_seq ?_
    refine xa_region ?_
    refine x_move rfl rfl ?_
    have hl2 : bs.length ≤ 1048576 := by omega
    obtain ⟨_, _, ⟨xs, ys, rfl, rfl, hx8, hy9⟩, hC1⟩ := s_drawSlopesOf bs hbs hl2
    have hl : xs.length ≤ 1048576 := by omega
    have hly : ys.length ≤ 1048576 := by omega
    have hrl := slR_len (xs := xs) (ys := ys)
    apply x_call rfl
    · apply pa_cons
      · exact pa_plain rfl
      exact pa_nil
    · exact hC1
    · exact ⟨rfl, rfl, rfl, of_decide_eq_true rfl, rfl⟩
    · exact .inl rfl
    · exact back_nil
    · exact inst_tupL (il_own fun _ => il_own fun _ => il_nil)
    · exact fun _ => rfl
    intro g14
    refine x_move rfl rfl ?_
    refine x_extract rfl rfl rfl ?_
    refine x_extract rfl rfl rfl ?_
    (refine x_assign_own rfl rfl (by (simp; done)) rfl (fun _ => (slot_obj (by exact noRef_map fun _ => rfl))) (fun _ => rfl) ?_; intro g3)
    (refine x_assign_own rfl rfl (by (simp; done)) rfl (fun _ => (slot_obj (by exact noRef_map fun _ => rfl))) (fun _ => rfl) ?_; intro g4)
    refine xr_nil ⟨nofun, [(.t 3, _), (.t 4, _), (.h 3, _), (.h 4, _)], ⟨rfl, rfl, rfl, rfl, rfl, rfl, rfl, rfl, trivial⟩, ?_⟩
    refine xa_seq ?_
    refine xa_region ?_
    refine x_move rfl rfl ?_
    refine x_move rfl rfl ?_
    apply x_call rfl
    · apply pa_cons
      · exact pa_lend_map rfl rfl rfl (by (simp; done)) (fun _ => rfl)
      apply pa_cons
      · exact pa_lend_map rfl rfl rfl (by (simp; done)) (fun _ => rfl)
      exact pa_nil
    · exact s_slopesOfI xs ys hl hly
    · exact ⟨rfl, rfl, rfl, of_decide_eq_true rfl, rfl⟩
    · exact .inr ⟨hasListL_mapF fun _ => rfl, rfl⟩
    · exact back_nil
    · exact inst_own
    · exact fun _ => rfl
    intro g19
    simp only [List.length_map]
    (refine x_assign_own rfl rfl (by (simp; done)) rfl (fun _ => (slot_obj (by exact noRef_map fun _ => rfl))) (fun _ => rfl) ?_; intro g5)
    refine xr_nil ⟨nofun, [(.t 3, _), (.t 4, _), (.t 5, _), (.h 3, _), (.h 4, _), (.h 5, _)], ⟨rfl, rfl, rfl, rfl, rfl, rfl, rfl, rfl, rfl, rfl, rfl, rfl, trivial⟩, ?_⟩
    refine xa_seq ?_
    refine xa_seq ?_
    refine xa_region ?_
    refine x_move rfl rfl ?_
    refine x_move rfl rfl ?_
    refine x_move rfl rfl ?_
    apply x_call rfl
    · apply pa_cons
      · exact pa_lend_map rfl rfl rfl (by (simp; done)) (fun _ => rfl)
      apply pa_cons
      · exact pa_lend_map rfl rfl rfl (by (simp; done)) (fun _ => rfl)
      exact pa_nil
    · exact s_slopesOfS xs ys hl hly
    · exact ⟨rfl, rfl, rfl, of_decide_eq_true rfl, rfl⟩
    · exact .inr ⟨hasListL_mapF fun _ => rfl, rfl⟩
    · exact back_nil
    · exact inst_own
    · exact fun _ => rfl
    intro g23
    apply x_call rfl
    · apply pa_cons
      · exact pa_lend_map rfl rfl rfl (by (simp; done)) (fun _ => rfl)
      apply pa_cons
      · exact pa_lend_map rfl rfl rfl (by (simp; done)) (fun _ => rfl)
      exact pa_nil
    · exact s_equalFracs (slR xs ys) (by omega)
    · exact ⟨rfl, rfl, rfl, of_decide_eq_true rfl, rfl⟩
    · exact .inr ⟨rfl, rfl⟩
    · exact back_nil
    · exact inst_plain rfl
    · exact fun _ => rfl
    intro g24
    refine x_not rfl ?_
    refine x_move rfl rfl ?_
    refine x_guard_t rfl rfl (by rfl) ?_
    refine x_move rfl rfl ?_
    refine x_guard_t rfl rfl (by rfl) ?_
    refine x_len_sl rfl rfl ?_
    refine x_guard_t rfl rfl (by rfl) ?_
    refine x_eql rfl rfl ?_
    refine x_pick_f rfl (by rfl) rfl rfl ?_
    refine xr_nil ⟨nofun, [(.t 3, _), (.t 4, _), (.t 5, _), (.t 30, _), (.h 3, _), (.h 4, _), (.h 5, _)], ⟨rfl, rfl, rfl, rfl, rfl, rfl, rfl, rfl, rfl, rfl, rfl, rfl, rfl, rfl, trivial⟩, ?_⟩
    refine xa_cond rfl (fun hc => ?_) (fun hc => ?_)
    · try simp only [decide_eq_true_eq, decide_eq_false_iff_not, Bool.not_eq_true', Bool.not_eq_false', bne_iff_ne, beq_iff_eq, ne_eq, Bool.not_true, Bool.not_false, beq_eq_false_iff_ne, bne_eq_false_iff_eq, Decidable.not_not, Int.not_lt, Int.not_le, Bool.and_eq_true, Bool.and_eq_false_iff, Bool.or_eq_true, Bool.or_eq_false_iff, List.length_map] at hc
      refine xa_seq ?_
      refine xa_region ?_
      refine x_move rfl rfl ?_
      refine x_move rfl rfl ?_
      refine x_move rfl rfl ?_
      apply x_call rfl
      · apply pa_cons
        · exact pa_lend_map rfl rfl rfl (by (simp; done)) (fun _ => rfl)
        apply pa_cons
        · exact pa_lend_map rfl rfl rfl (by (simp; done)) (fun _ => rfl)
        exact pa_nil
      · exact s_slopesOfS xs ys hl hly
      · exact ⟨rfl, rfl, rfl, of_decide_eq_true rfl, rfl⟩
      · exact .inr ⟨hasListL_mapF fun _ => rfl, rfl⟩
      · exact back_nil
      · exact inst_own
      · exact fun _ => rfl
      intro g34
      apply x_call rfl
      · apply pa_cons
        · exact pa_lend_map rfl rfl rfl (by (simp; done)) (fun _ => rfl)
        apply pa_cons
        · exact pa_lend_map rfl rfl rfl (by (simp; done)) (fun _ => rfl)
        exact pa_nil
      · exact s_equalFracs (slR xs ys) (by omega)
      · exact ⟨rfl, rfl, rfl, of_decide_eq_true rfl, rfl⟩
      · exact .inr ⟨rfl, rfl⟩
      · exact back_nil
      · exact inst_plain rfl
      · exact fun _ => rfl
      intro g35
      refine x_assign rfl rfl rfl ?_
      refine xr_nil ⟨nofun, [(.t 2, _)], ⟨rfl, rfl, trivial⟩, ?_⟩
      refine xa_ret ?_
      refine ret_val' rfl rfl trivial ?_
      rfl
    · try simp only [decide_eq_true_eq, decide_eq_false_iff_not, Bool.not_eq_true', Bool.not_eq_false', bne_iff_ne, beq_iff_eq, ne_eq, Bool.not_true, Bool.not_false, beq_eq_false_iff_ne, bne_eq_false_iff_eq, Decidable.not_not, Int.not_lt, Int.not_le, Bool.and_eq_true, Bool.and_eq_false_iff, Bool.or_eq_true, Bool.or_eq_false_iff, List.length_map] at hc
      have hvc : vc xs ys = true := by
        cases e : vc xs ys
        · exfalso; revert hc; simp [slR, e]
        · rfl
      have hv := vc_iff.1 hvc
      have hrA : (slR xs ys).length = (slA xs ys).length := by rw [slR, if_pos hvc, sortQ_length]
      refine xa_skip ?_
      refine xa_seq ?_
      refine xa_region ?_
      refine x_assign rfl rfl rfl ?_
      refine xr_nil ⟨nofun, [(.t 3, _), (.t 4, _), (.t 5, _), (.t 6, _), (.h 3, _), (.h 4, _), (.h 5, _)], ⟨rfl, rfl, rfl, rfl, rfl, rfl, rfl, rfl, rfl, rfl, rfl, rfl, rfl, rfl, trivial⟩, ?_⟩
      refine xa_seq ?_
      refine xa_seq ?_
      refine xa_region ?_
      refine x_assign rfl rfl rfl ?_
      refine xr_nil ⟨nofun, [(.t 3, _), (.t 4, _), (.t 5, _), (.t 6, _), (.t 7, _), (.h 3, _), (.h 4, _), (.h 5, _)], ⟨rfl, rfl, rfl, rfl, rfl, rfl, rfl, rfl, rfl, rfl, rfl, rfl, rfl, rfl, rfl, rfl, trivial⟩, ?_⟩
      refine xa_block ?_
      refine xa_loopK (β := Nat × Nat) [(.t 3, _), (.t 4, _), (.t 5, _), (.h 3, _), (.h 4, _), (.h 5, _)] (fun (z : Nat × Nat) => match z with | (i, n) => [(.t 7, iV i), (.t 6, iV n)]) (fun (z : Nat × Nat) => match z with | (i, n) => i ≤ xs.length ∧ n = (slU xs ys i).length) (fun (z : Nat × Nat) => match z with | (i, n) => xs.length - i) (0, 0) ⟨rfl, rfl, rfl, rfl, rfl, rfl, rfl, rfl, trivial⟩ ⟨Nat.zero_le _, rfl⟩ ?_
      intro z hb
      obtain ⟨i, n⟩ := z
      try dsimp only at hb
      obtain ⟨hi1, hn⟩ := hb
      refine xa_seq ?_
      refine xa_seq ?_
      refine xa_region ?_
      refine x_move rfl rfl ?_
      refine x_move rfl rfl ?_
      refine x_len_sl rfl rfl ?_
      refine x_lss rfl rfl ?_
      refine xr_nil ⟨nofun, [(.t 3, _), (.t 4, _), (.t 5, _), (.t 6, _), (.t 7, _), (.t 39, _), (.h 3, _), (.h 4, _), (.h 5, _)], ⟨rfl, rfl, rfl, rfl, rfl, rfl, rfl, rfl, rfl, rfl, rfl, rfl, rfl, rfl, rfl, rfl, rfl, rfl, trivial⟩, ?_⟩
      refine xa_cond rfl (fun hc => ?_) (fun hc => ?_)
      · try simp only [decide_eq_true_eq, decide_eq_false_iff_not, Bool.not_eq_true', Bool.not_eq_false', bne_iff_ne, beq_iff_eq, ne_eq, Bool.not_true, Bool.not_false, beq_eq_false_iff_ne, bne_eq_false_iff_eq, Decidable.not_not, Int.not_lt, Int.not_le, Bool.and_eq_true, Bool.and_eq_false_iff, Bool.or_eq_true, Bool.or_eq_false_iff, List.length_map] at hc
        refine xa_skip ?_
        refine xa_seq ?_
        refine xa_block ?_
        refine xa_seq ?_
        refine xa_region ?_
        refine x_assign rfl rfl rfl ?_
        refine xr_nil ⟨nofun, [(.t 3, _), (.t 4, _), (.t 5, _), (.t 6, _), (.t 7, _), (.t 8, _), (.h 3, _), (.h 4, _), (.h 5, _)], ⟨rfl, rfl, rfl, rfl, rfl, rfl, rfl, rfl, rfl, rfl, rfl, rfl, rfl, rfl, rfl, rfl, rfl, rfl, trivial⟩, ?_⟩
        refine xa_block ?_
        refine xa_loopK (β := Nat × Nat) [(.t 3, _), (.t 4, _), (.t 5, _), (.t 7, _), (.h 3, _), (.h 4, _), (.h 5, _)] (fun (z : Nat × Nat) => match z with | (k, n) => [(.t 8, iV k), (.t 6, iV n)]) (fun (z : Nat × Nat) => match z with | (k, n) => k ≤ i ∧ n = (slU xs ys i).length + (slV xs ys i k).length) (fun (z : Nat × Nat) => match z with | (k, n) => i - k) (0, n) ⟨rfl, rfl, rfl, rfl, rfl, rfl, rfl, rfl, rfl, trivial⟩ ⟨Nat.zero_le _, by rw [hn]; rfl⟩ ?_
        intro z hb
        obtain ⟨k, n⟩ := z
        try dsimp only at hb
        obtain ⟨hk1, hn⟩ := hb
        have hnb : n ≤ 1000 := by have h1 := slU_len xs ys i; have h2 := slV_len xs ys i k; have h3 := Nat.mul_le_mul (show i ≤ 8 by omega) (show i ≤ 8 by omega); omega
        refine xa_seq ?_
        refine xa_seq ?_
        refine xa_region ?_
        refine x_move rfl rfl ?_
        refine x_move rfl rfl ?_
        refine x_lss rfl rfl ?_
        refine xr_nil ⟨nofun, [(.t 3, _), (.t 4, _), (.t 5, _), (.t 6, _), (.t 7, _), (.t 8, _), (.t 44, _), (.h 3, _), (.h 4, _), (.h 5, _)], ⟨rfl, rfl, rfl, rfl, rfl, rfl, rfl, rfl, rfl, rfl, rfl, rfl, rfl, rfl, rfl, rfl, rfl, rfl, rfl, rfl, trivial⟩, ?_⟩
        refine xa_cond rfl (fun hc => ?_) (fun hc => ?_)
        · try simp only [decide_eq_true_eq, decide_eq_false_iff_not, Bool.not_eq_true', Bool.not_eq_false', bne_iff_ne, beq_iff_eq, ne_eq, Bool.not_true, Bool.not_false, beq_eq_false_iff_ne, bne_eq_false_iff_eq, Decidable.not_not, Int.not_lt, Int.not_le, Bool.and_eq_true, Bool.and_eq_false_iff, Bool.or_eq_true, Bool.or_eq_false_iff, List.length_map] at hc
          refine xa_skip ?_
          refine xa_seq ?_
          refine xa_block ?_
          refine xa_seq ?_
          refine xa_region ?_
          refine x_move rfl rfl ?_
          refine x_move rfl rfl ?_
          refine x_index_slN rfl rfl rfl rfl (by omega) (by (simp; done)) rfl ?_
          refine x_load_mapV rfl rfl (by omega) (fun _ => rfl) (fun _ => rfl) rfl ?_
          refine x_move rfl rfl ?_
          refine x_move rfl rfl ?_
          refine x_index_slN rfl rfl rfl rfl (by omega) (by (simp; done)) rfl ?_
          refine x_load_mapV rfl rfl (by omega) (fun _ => rfl) (fun _ => rfl) rfl ?_
          refine x_neq rfl rfl ?_
          refine xr_nil ⟨fun _ => ⟨by decide +kernel, by decide +kernel⟩, [(.t 3, _), (.t 4, _), (.t 5, _), (.t 6, _), (.t 7, _), (.t 8, _), (.t 55, _), (.h 3, _), (.h 4, _), (.h 5, _)], ⟨rfl, rfl, rfl, rfl, rfl, rfl, rfl, rfl, rfl, rfl, rfl, rfl, rfl, rfl, rfl, rfl, rfl, rfl, rfl, rfl, trivial⟩, ?_⟩
          refine xa_cond rfl (fun hc => ?_) (fun hc => ?_)
          · try simp only [decide_eq_true_eq, decide_eq_false_iff_not, Bool.not_eq_true', Bool.not_eq_false', bne_iff_ne, beq_iff_eq, ne_eq, Bool.not_true, Bool.not_false, beq_eq_false_iff_ne, bne_eq_false_iff_eq, Decidable.not_not, Int.not_lt, Int.not_le, Bool.and_eq_true, Bool.and_eq_false_iff, Bool.or_eq_true, Bool.or_eq_false_iff, List.length_map] at hc
            refine xa_region ?_
            refine x_move rfl rfl ?_
            refine x_add rfl rfl (inI64 (by omega)) ?_
            refine x_assign rfl rfl rfl ?_
            refine xr_nil ⟨nofun, [(.t 3, _), (.t 4, _), (.t 5, _), (.t 6, _), (.t 7, _), (.t 8, _), (.h 3, _), (.h 4, _), (.h 5, _)], ⟨rfl, rfl, rfl, rfl, rfl, rfl, rfl, rfl, rfl, rfl, rfl, rfl, rfl, rfl, rfl, rfl, rfl, rfl, trivial⟩, ?_⟩
            refine xa_region ?_
            refine x_move rfl rfl ?_
            refine x_add rfl rfl (inI64 (by omega)) ?_
            refine x_assign rfl rfl rfl ?_
            refine xr_nil ⟨nofun, [(.t 3, _), (.t 4, _), (.t 5, _), (.t 6, _), (.t 7, _), (.t 8, _), (.h 3, _), (.h 4, _), (.h 5, _)], ⟨rfl, rfl, rfl, rfl, rfl, rfl, rfl, rfl, rfl, rfl, rfl, rfl, rfl, rfl, rfl, rfl, rfl, rfl, trivial⟩, ?_⟩
            refine ⟨(k + 1, n + 1), ?_, (by simp only; omega), ⟨rfl, rfl, rfl, rfl, rfl, rfl, rfl, rfl, rfl, trivial⟩⟩
            exact ⟨by omega, by rw [slV_ne (by assumption), List.length_append]; simp only [List.length_singleton]; omega⟩
          · try simp only [decide_eq_true_eq, decide_eq_false_iff_not, Bool.not_eq_true', Bool.not_eq_false', bne_iff_ne, beq_iff_eq, ne_eq, Bool.not_true, Bool.not_false, beq_eq_false_iff_ne, bne_eq_false_iff_eq, Decidable.not_not, Int.not_lt, Int.not_le, Bool.and_eq_true, Bool.and_eq_false_iff, Bool.or_eq_true, Bool.or_eq_false_iff, List.length_map] at hc
            refine xa_skip ?_
            refine xa_region ?_
            refine x_move rfl rfl ?_
            refine x_add rfl rfl (inI64 (by omega)) ?_
            refine x_assign rfl rfl rfl ?_
            refine xr_nil ⟨nofun, [(.t 3, _), (.t 4, _), (.t 5, _), (.t 6, _), (.t 7, _), (.t 8, _), (.h 3, _), (.h 4, _), (.h 5, _)], ⟨rfl, rfl, rfl, rfl, rfl, rfl, rfl, rfl, rfl, rfl, rfl, rfl, rfl, rfl, rfl, rfl, rfl, rfl, trivial⟩, ?_⟩
            refine ⟨(k + 1, n), ?_, (by simp only; omega), ⟨rfl, rfl, rfl, rfl, rfl, rfl, rfl, rfl, rfl, trivial⟩⟩
            exact ⟨by omega, by rw [slV_eq (by omega)]; exact hn⟩
        · try simp only [decide_eq_true_eq, decide_eq_false_iff_not, Bool.not_eq_true', Bool.not_eq_false', bne_iff_ne, beq_iff_eq, ne_eq, Bool.not_true, Bool.not_false, beq_eq_false_iff_ne, bne_eq_false_iff_eq, Decidable.not_not, Int.not_lt, Int.not_le, Bool.and_eq_true, Bool.and_eq_false_iff, Bool.or_eq_true, Bool.or_eq_false_iff, List.length_map] at hc
          refine xa_exit ?_
          refine xa_region ?_
          refine x_move rfl rfl ?_
          refine x_add rfl rfl (inI64 (by omega)) ?_
          refine x_assign rfl rfl rfl ?_
          refine xr_nil ⟨nofun, [(.t 3, _), (.t 4, _), (.t 5, _), (.t 6, _), (.t 7, _), (.h 3, _), (.h 4, _), (.h 5, _)], ⟨rfl, rfl, rfl, rfl, rfl, rfl, rfl, rfl, rfl, rfl, rfl, rfl, rfl, rfl, rfl, rfl, trivial⟩, ?_⟩
          refine ⟨(i + 1, n), ?_, (by simp only; omega), ⟨rfl, rfl, rfl, rfl, rfl, rfl, rfl, rfl, trivial⟩⟩
          exact ⟨by omega, by rw [slU, hn, show k = i by omega, List.length_append]⟩
      · try simp only [decide_eq_true_eq, decide_eq_false_iff_not, Bool.not_eq_true', Bool.not_eq_false', bne_iff_ne, beq_iff_eq, ne_eq, Bool.not_true, Bool.not_false, beq_eq_false_iff_ne, bne_eq_false_iff_eq, Decidable.not_not, Int.not_lt, Int.not_le, Bool.and_eq_true, Bool.and_eq_false_iff, Bool.or_eq_true, Bool.or_eq_false_iff, List.length_map] at hc
        refine xa_exit ?_
        refine xa_seq ?_
        refine xa_region ?_
        refine x_move rfl rfl ?_
        apply x_call rfl
        · apply pa_cons
          · exact pa_lend_map rfl rfl rfl (by (simp; done)) (fun _ => rfl)
          exact pa_nil
        · exact s_rising (slR xs ys) (by omega) (slR_sorted xs ys) (fun q hq => (slR_sm xs ys q hq).mono (by decide))
        · exact ⟨rfl, rfl, rfl, of_decide_eq_true rfl, rfl⟩
        · exact .inr ⟨rfl, rfl⟩
        · exact back_nil
        · exact inst_plain rfl
        · exact fun _ => rfl
        intro g59
        refine x_move rfl rfl ?_
        refine x_guard_t rfl rfl (by rfl) ?_
        refine x_move rfl rfl ?_
        refine x_guard_t rfl rfl (by rfl) ?_
        refine x_len_sl rfl rfl ?_
        refine x_guard_t rfl rfl (by rfl) ?_
        refine x_move rfl rfl ?_
        refine x_guard_t rfl rfl (by rfl) ?_
        refine x_eql rfl rfl ?_
        refine x_pick_t rfl (by rfl) rfl rfl ?_
        refine x_move rfl rfl ?_
        refine x_guard_split rfl rfl (fun hg0 => ?_) (fun hg0 => ?_)
        · have hg := hg0; try simp only [decide_eq_true_eq, decide_eq_false_iff_not, Bool.not_eq_true', Bool.not_eq_false', bne_iff_ne, beq_iff_eq, ne_eq, Bool.not_true, Bool.not_false, beq_eq_false_iff_ne, bne_eq_false_iff_eq, Decidable.not_not, Int.not_lt, Int.not_le, Bool.and_eq_true, Bool.and_eq_false_iff, Bool.or_eq_true, Bool.or_eq_false_iff] at hg
          refine x_move rfl rfl ?_
          refine x_guard_t rfl rfl (by assumption) ?_
          apply x_call rfl
          · apply pa_cons
            · exact pa_lend_map rfl rfl rfl (by (simp; done)) (fun _ => rfl)
            exact pa_nil
          · exact s_turned xs (by omega)
          · exact ⟨rfl, rfl, rfl, of_decide_eq_true rfl, rfl⟩
          · exact .inr ⟨hasListL_mapF fun _ => rfl, rfl⟩
          · exact back_nil
          · exact inst_own
          · exact fun _ => rfl
          intro g68
          refine x_guard_t rfl rfl (by assumption) ?_
          refine x_move rfl rfl ?_
          refine x_guard_t rfl rfl (by assumption) ?_
          apply x_call rfl
          · apply pa_cons
            · exact pa_lend_map rfl rfl rfl (by (simp; done)) (fun _ => rfl)
            exact pa_nil
          · exact s_turned ys (by omega)
          · exact ⟨rfl, rfl, rfl, of_decide_eq_true rfl, rfl⟩
          · exact .inr ⟨hasListL_mapF fun _ => rfl, rfl⟩
          · exact back_nil
          · exact inst_own
          · exact fun _ => rfl
          intro g70
          refine x_guard_t rfl rfl (by assumption) ?_
          apply x_call rfl
          · apply pa_cons
            · exact pa_lend_map rfl rfl rfl (by (simp; done)) (fun _ => rfl)
            apply pa_cons
            · exact pa_lend_map rfl rfl rfl (by (simp; done)) (fun _ => rfl)
            exact pa_nil
          · exact s_slopesOfI xs.reverse ys.reverse (by simp; omega) (by simp; omega)
          · exact ⟨rfl, rfl, rfl, of_decide_eq_true rfl, rfl⟩
          · exact .inr ⟨hasListL_mapF fun _ => rfl, rfl⟩
          · exact back_nil
          · exact inst_own
          · exact fun _ => rfl
          intro g71
          rw [slR_rev]
          refine x_guard_t rfl rfl (by assumption) ?_
          refine x_move rfl rfl ?_
          refine x_guard_t rfl rfl (by assumption) ?_
          apply x_call rfl
          · apply pa_cons
            · exact pa_lend_map rfl rfl rfl (by (simp; done)) (fun _ => rfl)
            apply pa_cons
            · exact pa_lend_map rfl rfl rfl (by (simp; done)) (fun _ => rfl)
            exact pa_nil
          · exact s_equalFracs (slR xs ys) (by omega)
          · exact ⟨rfl, rfl, rfl, of_decide_eq_true rfl, rfl⟩
          · exact .inr ⟨rfl, rfl⟩
          · exact back_nil
          · exact inst_plain rfl
          · exact fun _ => rfl
          intro g73
          refine x_pick_t rfl (by assumption) rfl rfl ?_
          refine x_assign rfl rfl rfl ?_
          refine xr_nil ⟨nofun, [(.t 2, _)], ⟨rfl, rfl, trivial⟩, ?_⟩
          refine xa_ret ?_
          refine ret_val' rfl rfl trivial ?_
          rfl
        · have hg := hg0; try simp only [decide_eq_true_eq, decide_eq_false_iff_not, Bool.not_eq_true', Bool.not_eq_false', bne_iff_ne, beq_iff_eq, ne_eq, Bool.not_true, Bool.not_false, beq_eq_false_iff_ne, bne_eq_false_iff_eq, Decidable.not_not, Int.not_lt, Int.not_le, Bool.and_eq_true, Bool.and_eq_false_iff, Bool.or_eq_true, Bool.or_eq_false_iff] at hg
          refine x_guard_f rfl rfl (by assumption) ?_
          refine x_guard_f rfl rfl (by assumption) ?_
          refine x_guard_f rfl rfl (by assumption) ?_
          refine x_guard_f rfl rfl (by assumption) ?_
          refine x_guard_f rfl rfl (by assumption) ?_
          refine x_guard_f rfl rfl (by assumption) ?_
          refine x_pick_f rfl (by assumption) rfl rfl ?_
          refine x_assign rfl rfl rfl ?_
          refine xr_nil ⟨nofun, [(.t 2, _)], ⟨rfl, rfl, trivial⟩, ?_⟩
          refine xa_ret ?_
          refine ret_val' rfl rfl trivial ?_
          (have hnA : n = (slA xs ys).length := (by rw [hn, slA, show i = xs.length by omega]); exfalso; omega)
end Go.Proofs.Ytncmealoojjcpaa

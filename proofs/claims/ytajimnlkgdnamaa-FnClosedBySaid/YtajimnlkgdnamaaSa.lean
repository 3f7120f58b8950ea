/- What each function of the program gives on the abstract machine, part 1 of 1. Conditions: those in front of each theorem. -/
import Derived.Test.YtajimnlkgdnamaaMd
import Derived.Test.YtajimnlkgdnamaaChecked
import Derived.KernelRfl

set_option linter.unusedVariables false
set_option linter.unusedSimpArgs false
namespace Go.Proofs.Ytajimnlkgdnamaa
open Go Go.Mv Go.Proofs
set_option maxRecDepth 100000

def mdT : List (Nat × List Nat) := [(29, [3, 3, 3, 3]), (30, [3, 3, 3, 3]), (36, [1]), (39, [3, 3, 3, 3]), (40, [3, 3, 3, 3]), (41, [3, 3, 3, 3]), (42, [3, 3, 3, 3]), (46, [2]), (58, [1]), (63, [1]), (69, [2])]
def extT : List (Nat × (List AV → Option (AV × List (List AV)))) := [(57, extClone), (58, extSort)]
noncomputable def cxT : Cx := ⟨Try.prog, mdOf mdT, extOf extT⟩
theorem s_Clone (xs : List Int) (hl : xs.length ≤ maxL) : CW cxT 57 [.list (xs.map iV)] = some (.own 1 (xs.map iV), []) := CW_ext cxT rfl (by simp [extClone, unI_map, hl])
theorem s_Sort (xs : List Int) (hl : xs.length ≤ maxL) : CW cxT 58 [.own 1 (xs.map iV)] = some (.tup [], [(sortI xs).map iV]) := CW_ext cxT rfl (by simp [extSort, unI_map, hl])

theorem keep_s_inRange : keepOf Try.f48 = [0, 1, 2, 6] := by kernel_rfl
set_option maxHeartbeats 20000000 in
theorem s_inRange (n lo hi : Int) : CW cxT 48 [iV n, iV lo, iV hi] = some (bV (decide (lo ≤ n) && decide (n ≤ hi)), []) := by
  refine fn_intro rfl Try.func48 rfl ⟨by kernel_rfl, rfl, of_decide_eq_true rfl, of_decide_eq_true rfl, by decide⟩ keep_s_inRange ?_
  refine xa_seq ?_
  refine xa_region ?_
  refine x_assign rfl rfl rfl ?_
  refine xr_nil ⟨nofun, [(.t 0, _), (.t 1, _), (.t 2, _)], ⟨rfl, rfl, rfl, rfl, rfl, rfl, trivial⟩, ?_⟩
  refine xa_seq ?_
  refine xa_region ?_
  refine x_move rfl rfl ?_
  refine x_move rfl rfl ?_
  refine x_leq rfl rfl ?_
  refine x_move rfl rfl ?_
  refine x_guard_split rfl rfl (fun hg0 => ?_) (fun hg0 => ?_)
  · have hg := hg0; try simp only [decide_eq_true_eq, decide_eq_false_iff_not, Bool.not_eq_true', Bool.not_eq_false', bne_iff_ne, beq_iff_eq, ne_eq, Bool.not_true, Bool.not_false, beq_eq_false_iff_ne, bne_eq_false_iff_eq, Decidable.not_not, Int.not_lt, Int.not_le, Bool.and_eq_true, Bool.and_eq_false_iff, Bool.or_eq_true, Bool.or_eq_false_iff] at hg
    refine x_move rfl rfl ?_
    refine x_guard_t rfl rfl (by assumption) ?_
    refine x_move rfl rfl ?_
    refine x_guard_t rfl rfl (by assumption) ?_
    refine x_leq rfl rfl ?_
    refine x_pick_t rfl (by assumption) rfl rfl ?_
    refine x_assign rfl rfl rfl ?_
    refine xr_nil ⟨nofun, [(.t 6, _)], ⟨rfl, rfl, trivial⟩, ?_⟩
    refine xa_ret ?_
    refine ret_val' rfl rfl trivial ?_
    simp_all [ofConst]; try omega
  · have hg := hg0; try simp only [decide_eq_true_eq, decide_eq_false_iff_not, Bool.not_eq_true', Bool.not_eq_false', bne_iff_ne, beq_iff_eq, ne_eq, Bool.not_true, Bool.not_false, beq_eq_false_iff_ne, bne_eq_false_iff_eq, Decidable.not_not, Int.not_lt, Int.not_le, Bool.and_eq_true, Bool.and_eq_false_iff, Bool.or_eq_true, Bool.or_eq_false_iff] at hg
    refine x_guard_f rfl rfl (by assumption) ?_
    refine x_guard_f rfl rfl (by assumption) ?_
    refine x_pick_f rfl (by assumption) rfl rfl ?_
    refine x_assign rfl rfl rfl ?_
    refine xr_nil ⟨nofun, [(.t 6, _)], ⟨rfl, rfl, trivial⟩, ?_⟩
    refine xa_ret ?_
    refine ret_val' rfl rfl trivial ?_
    simp_all [ofConst]; try omega

theorem keep_s_in : keepOf Try.f44 = [0, 1, 2, 6] := by kernel_rfl
set_option maxHeartbeats 20000000 in
theorem s_in (n lo hi : Int) : CW cxT 44 [iV n, iV lo, iV hi] = some (bV (decide (lo ≤ n) && decide (n ≤ hi)), []) := by
  refine fn_intro rfl Try.func44 rfl ⟨by kernel_rfl, rfl, of_decide_eq_true rfl, of_decide_eq_true rfl, by decide⟩ keep_s_in ?_
  refine xa_seq ?_
  refine xa_region ?_
  refine x_assign rfl rfl rfl ?_
  refine xr_nil ⟨nofun, [(.t 0, _), (.t 1, _), (.t 2, _)], ⟨rfl, rfl, rfl, rfl, rfl, rfl, trivial⟩, ?_⟩
  refine xa_seq ?_
  refine xa_region ?_
  refine x_move rfl rfl ?_
  refine x_move rfl rfl ?_
  refine x_geq rfl rfl ?_
  refine x_move rfl rfl ?_
  refine x_guard_split rfl rfl (fun hg0 => ?_) (fun hg0 => ?_)
  · have hg := hg0; try simp only [decide_eq_true_eq, decide_eq_false_iff_not, Bool.not_eq_true', Bool.not_eq_false', bne_iff_ne, beq_iff_eq, ne_eq, Bool.not_true, Bool.not_false, beq_eq_false_iff_ne, bne_eq_false_iff_eq, Decidable.not_not, Int.not_lt, Int.not_le, Bool.and_eq_true, Bool.and_eq_false_iff, Bool.or_eq_true, Bool.or_eq_false_iff] at hg
    refine x_move rfl rfl ?_
    refine x_guard_t rfl rfl (by assumption) ?_
    refine x_move rfl rfl ?_
    refine x_guard_t rfl rfl (by assumption) ?_
    refine x_leq rfl rfl ?_
    refine x_pick_t rfl (by assumption) rfl rfl ?_
    refine x_assign rfl rfl rfl ?_
    refine xr_nil ⟨nofun, [(.t 6, _)], ⟨rfl, rfl, trivial⟩, ?_⟩
    refine xa_ret ?_
    refine ret_val' rfl rfl trivial ?_
    simp_all [ofConst]; try omega
  · have hg := hg0; try simp only [decide_eq_true_eq, decide_eq_false_iff_not, Bool.not_eq_true', Bool.not_eq_false', bne_iff_ne, beq_iff_eq, ne_eq, Bool.not_true, Bool.not_false, beq_eq_false_iff_ne, bne_eq_false_iff_eq, Decidable.not_not, Int.not_lt, Int.not_le, Bool.and_eq_true, Bool.and_eq_false_iff, Bool.or_eq_true, Bool.or_eq_false_iff] at hg
    refine x_guard_f rfl rfl (by assumption) ?_
    refine x_guard_f rfl rfl (by assumption) ?_
    refine x_pick_f rfl (by assumption) rfl rfl ?_
    refine x_assign rfl rfl rfl ?_
    refine xr_nil ⟨nofun, [(.t 6, _)], ⟨rfl, rfl, trivial⟩, ?_⟩
    refine xa_ret ?_
    refine ret_val' rfl rfl trivial ?_
    simp_all [ofConst]; try omega

theorem keep_s_equalInts : keepOf Try.f18 = [0, 1, 4, 10, 5, 14, 25] := by kernel_rfl
set_option maxHeartbeats 20000000 in
theorem s_equalInts (xs ys : List Int) (hx : xs.length ≤ 1000000) (hy : ys.length ≤ 1000000) : CW cxT 18 [L xs, L ys] = some (bV (xs == ys), []) := by
  refine fn_intro rfl Try.func18 rfl ⟨by kernel_rfl, rfl, of_decide_eq_true rfl, of_decide_eq_true rfl, by decide⟩ keep_s_equalInts ?_
  refine xa_seq ?_
  refine xa_region ?_
  refine x_assign rfl rfl rfl ?_
  refine xr_nil ⟨nofun, [(.t 0, _), (.t 1, _)], ⟨rfl, rfl, rfl, rfl, trivial⟩, ?_⟩
  refine xa_seq ?_
  refine xa_seq ?_
  refine xa_region ?_
  refine x_move rfl rfl ?_
  refine x_len_map rfl rfl ?_
  refine x_move rfl rfl ?_
  refine x_len_map rfl rfl ?_
  refine x_neq rfl rfl ?_
  refine xr_nil ⟨nofun, [(.t 0, _), (.t 1, _), (.t 10, _)], ⟨rfl, rfl, rfl, rfl, rfl, rfl, trivial⟩, ?_⟩
  refine xa_cond rfl (fun hc => ?_) (fun hc => ?_)
  · try simp only [decide_eq_true_eq, decide_eq_false_iff_not, Bool.not_eq_true', Bool.not_eq_false', bne_iff_ne, beq_iff_eq, ne_eq, Bool.not_true, Bool.not_false, beq_eq_false_iff_ne, bne_eq_false_iff_eq, Decidable.not_not, Int.not_lt, Int.not_le, Bool.and_eq_true, Bool.and_eq_false_iff, Bool.or_eq_true, Bool.or_eq_false_iff, List.length_map] at hc
    refine xa_seq ?_
    refine xa_region ?_
    refine x_assign rfl rfl rfl ?_
    refine xr_nil ⟨nofun, [(.t 4, _)], ⟨rfl, rfl, trivial⟩, ?_⟩
    refine xa_ret ?_
    refine ret_val' rfl rfl trivial ?_
    have : ¬ xs = ys := fun e => hc (by rw [e])
    simp [ofConst, this]
  · try simp only [decide_eq_true_eq, decide_eq_false_iff_not, Bool.not_eq_true', Bool.not_eq_false', bne_iff_ne, beq_iff_eq, ne_eq, Bool.not_true, Bool.not_false, beq_eq_false_iff_ne, bne_eq_false_iff_eq, Decidable.not_not, Int.not_lt, Int.not_le, Bool.and_eq_true, Bool.and_eq_false_iff, Bool.or_eq_true, Bool.or_eq_false_iff, List.length_map] at hc
    refine xa_skip ?_
    refine xa_seq ?_
    refine xa_seq ?_
    refine xa_region ?_
    refine x_assign rfl rfl rfl ?_
    refine xr_nil ⟨nofun, [(.t 0, _), (.t 1, _), (.t 5, _)], ⟨rfl, rfl, rfl, rfl, rfl, rfl, trivial⟩, ?_⟩
    refine xa_block ?_
    refine xa_loop (β := Nat) (fun (b : Nat) => [(.t 0, L xs), (.t 1, L ys), (.t 5, iV b)]) (fun (b : Nat) => b ≤ xs.length ∧ ∀ j, j < b → xs.getD j 0 = ys.getD j 0) (fun (b : Nat) => xs.length - b) 0 ⟨rfl, rfl, rfl, trivial⟩ ⟨Nat.zero_le _, fun j hj => by omega⟩ ?_
    intro b hb
    obtain ⟨hb1, hb2⟩ := hb
    refine xa_seq ?_
    refine xa_seq ?_
    refine xa_region ?_
    refine x_move rfl rfl ?_
    refine x_move rfl rfl ?_
    refine x_len_map rfl rfl ?_
    refine x_lss rfl rfl ?_
    refine xr_nil ⟨nofun, [(.t 0, _), (.t 1, _), (.t 5, _), (.t 14, _)], ⟨rfl, rfl, rfl, rfl, rfl, rfl, rfl, rfl, trivial⟩, ?_⟩
    refine xa_cond rfl (fun hc => ?_) (fun hc => ?_)
    · try simp only [decide_eq_true_eq, decide_eq_false_iff_not, Bool.not_eq_true', Bool.not_eq_false', bne_iff_ne, beq_iff_eq, ne_eq, Bool.not_true, Bool.not_false, beq_eq_false_iff_ne, bne_eq_false_iff_eq, Decidable.not_not, Int.not_lt, Int.not_le, Bool.and_eq_true, Bool.and_eq_false_iff, Bool.or_eq_true, Bool.or_eq_false_iff, List.length_map] at hc
      refine xa_skip ?_
      refine xa_seq ?_
      refine xa_block ?_
      refine xa_seq ?_
      refine xa_region ?_
      refine x_move rfl rfl ?_
      refine x_move rfl rfl ?_
      refine x_index_listN rfl rfl rfl (fun _ => rfl) (by omega) ?_
      refine x_load_iptV rfl rfl rfl ?_
      refine x_move rfl rfl ?_
      refine x_move rfl rfl ?_
      refine x_index_listN rfl rfl rfl (fun _ => rfl) (by omega) ?_
      refine x_load_iptV rfl rfl rfl ?_
      refine x_neq rfl rfl ?_
      refine xr_nil ⟨fun _ => ⟨by decide +kernel, by decide +kernel⟩, [(.t 0, _), (.t 1, _), (.t 5, _), (.t 25, _)], ⟨rfl, rfl, rfl, rfl, rfl, rfl, rfl, rfl, trivial⟩, ?_⟩
      refine xa_cond rfl (fun hc => ?_) (fun hc => ?_)
      · try simp only [decide_eq_true_eq, decide_eq_false_iff_not, Bool.not_eq_true', Bool.not_eq_false', bne_iff_ne, beq_iff_eq, ne_eq, Bool.not_true, Bool.not_false, beq_eq_false_iff_ne, bne_eq_false_iff_eq, Decidable.not_not, Int.not_lt, Int.not_le, Bool.and_eq_true, Bool.and_eq_false_iff, Bool.or_eq_true, Bool.or_eq_false_iff, List.length_map] at hc
        refine xa_seq ?_
        refine xa_region ?_
        refine x_assign rfl rfl rfl ?_
        refine xr_nil ⟨nofun, [(.t 4, _)], ⟨rfl, rfl, trivial⟩, ?_⟩
        refine xa_ret ?_
        refine ret_val' rfl rfl trivial ?_
        have : ¬ xs = ys := fun e => hc (by rw [e])
        simp [ofConst, this]
      · try simp only [decide_eq_true_eq, decide_eq_false_iff_not, Bool.not_eq_true', Bool.not_eq_false', bne_iff_ne, beq_iff_eq, ne_eq, Bool.not_true, Bool.not_false, beq_eq_false_iff_ne, bne_eq_false_iff_eq, Decidable.not_not, Int.not_lt, Int.not_le, Bool.and_eq_true, Bool.and_eq_false_iff, Bool.or_eq_true, Bool.or_eq_false_iff, List.length_map] at hc
        refine xa_skip ?_
        refine xa_region ?_
        refine x_move rfl rfl ?_
        refine x_add rfl rfl (inI64 (by omega)) ?_
        refine x_assign rfl rfl rfl ?_
        refine xr_nil ⟨nofun, [(.t 0, _), (.t 1, _), (.t 5, _)], ⟨rfl, rfl, rfl, rfl, rfl, rfl, trivial⟩, ?_⟩
        refine ⟨b + 1, ⟨by omega, fun j hj => by rcases Nat.lt_succ_iff_lt_or_eq.1 hj with h | h; exact hb2 j h; subst h; simpa using hc⟩, (by omega), ⟨rfl, rfl, rfl, trivial⟩⟩
    · try simp only [decide_eq_true_eq, decide_eq_false_iff_not, Bool.not_eq_true', Bool.not_eq_false', bne_iff_ne, beq_iff_eq, ne_eq, Bool.not_true, Bool.not_false, beq_eq_false_iff_ne, bne_eq_false_iff_eq, Decidable.not_not, Int.not_lt, Int.not_le, Bool.and_eq_true, Bool.and_eq_false_iff, Bool.or_eq_true, Bool.or_eq_false_iff, List.length_map] at hc
      refine xa_exit ?_
      refine xa_seq ?_
      refine xa_region ?_
      refine x_assign rfl rfl rfl ?_
      refine xr_nil ⟨nofun, [(.t 4, _)], ⟨rfl, rfl, trivial⟩, ?_⟩
      refine xa_ret ?_
      refine ret_val' rfl rfl trivial ?_
      have : xs = ys := list_ext_getD (by omega) fun j hj => hb2 j (by omega)
      simp [ofConst, this]

theorem keep_s_pick : keepOf Try.f41 = [0, 1, 4, 24, 5, 36, 6] := by kernel_rfl
set_option maxHeartbeats 20000000 in
theorem s_pick (bs : List Int) (p : Int) (hbs : Bytes bs) (hl : bs.length ≤ 1048576) (hp : 0 ≤ p ∧ p ≤ 1000000000) (n : Int) (hn : n ≤ 1000000000) : ∃ res outs, (fun res outs => ∃ k, res = iV k ∧ outs = [[rdr bs (p + 1)]] ∧ (1 ≤ n → 0 ≤ k ∧ k < n) ∧ (n < 1 → k = 0)) res outs ∧ CW cxT 41 [.ownp [rdr bs p] 0 0, iV n] = some (res, outs) := by
  refine fn_introP rfl Try.func41 rfl ⟨by kernel_rfl, rfl, of_decide_eq_true rfl, of_decide_eq_true rfl, by decide⟩ keep_s_pick ?_
  refine xa_seq ?_
  refine xa_region ?_
  refine x_assign rfl rfl rfl ?_
  refine xr_nil ⟨nofun, [(.t 0, _), (.t 1, _), (.h 0, _)], ⟨rfl, rfl, rfl, rfl, rfl, rfl, trivial⟩, ?_⟩
  refine xa_seq ?_
  refine xa_region ?_
  refine x_move rfl rfl ?_
  refine x_move rfl rfl ?_
  refine x_nilCheck rfl rfl rfl ?_
  refine x_fieldAddr rfl rfl (by decide) rfl rfl ?_
  refine x_load_ptrN rfl rfl rfl rfl rfl rfl ?_
  refine x_add rfl rfl (inI64 (by omega)) ?_
  refine x_nilCheck rfl rfl rfl ?_
  refine x_fieldAddr rfl rfl (by decide) rfl rfl ?_
  refine x_store rfl rfl rfl rfl rfl ⟨by decide, rfl, of_decide_eq_true rfl, of_decide_eq_true rfl, rfl⟩ (by exact slot_box4 rfl) ?_
  refine xr_nil ⟨nofun, [(.t 0, _), (.t 1, _), (.h 0, _)], ⟨rfl, rfl, rfl, rfl, rfl, rfl, trivial⟩, ?_⟩
  refine xa_seq ?_
  refine xa_seq ?_
  refine xa_region ?_
  refine x_move rfl rfl ?_
  refine x_lss rfl rfl ?_
  refine x_move rfl rfl ?_
  refine x_guard_split rfl rfl (fun hg0 => ?_) (fun hg0 => ?_)
  · have hg := hg0; try simp only [decide_eq_true_eq, decide_eq_false_iff_not, Bool.not_eq_true', Bool.not_eq_false', bne_iff_ne, beq_iff_eq, ne_eq, Bool.not_true, Bool.not_false, beq_eq_false_iff_ne, bne_eq_false_iff_eq, Decidable.not_not, Int.not_lt, Int.not_le, Bool.and_eq_true, Bool.and_eq_false_iff, Bool.or_eq_true, Bool.or_eq_false_iff] at hg
    refine x_move rfl rfl ?_
    refine x_guard_t rfl rfl (by assumption) ?_
    refine x_nilCheck rfl rfl rfl ?_
    refine x_guard_t rfl rfl (by assumption) ?_
    refine x_fieldAddr rfl rfl (by decide) rfl rfl ?_
    refine x_guard_t rfl rfl (by assumption) ?_
    refine x_load_ptrN rfl rfl rfl rfl rfl rfl ?_
    refine x_guard_t rfl rfl (by assumption) ?_
    refine x_len_map rfl rfl ?_
    refine x_guard_t rfl rfl (by assumption) ?_
    refine x_eql rfl rfl ?_
    refine x_pick_f rfl (by assumption) rfl rfl ?_
    refine xr_nil ⟨nofun, [(.t 0, _), (.t 1, _), (.t 24, _), (.h 0, _)], ⟨rfl, rfl, rfl, rfl, rfl, rfl, rfl, rfl, trivial⟩, ?_⟩
    refine xa_cond rfl (fun hc => ?_) (fun hc => ?_)
    · try simp only [decide_eq_true_eq, decide_eq_false_iff_not, Bool.not_eq_true', Bool.not_eq_false', bne_iff_ne, beq_iff_eq, ne_eq, Bool.not_true, Bool.not_false, beq_eq_false_iff_ne, bne_eq_false_iff_eq, Decidable.not_not, Int.not_lt, Int.not_le, Bool.and_eq_true, Bool.and_eq_false_iff, Bool.or_eq_true, Bool.or_eq_false_iff, List.length_map] at hc
      refine xa_seq ?_
      refine xa_region ?_
      refine x_assign rfl rfl rfl ?_
      refine xr_nil ⟨nofun, [(.t 4, _), (.h 0, _)], ⟨rfl, rfl, rfl, rfl, trivial⟩, ?_⟩
      refine xa_ret ?_
      refine ⟨_, _, ?_, ret_val rfl rfl (outs_one rfl rfl)⟩
      refine ⟨_, rfl, rfl, fun h => ?_, fun h => ?_⟩
      · omega
      · omega
    · try simp only [decide_eq_true_eq, decide_eq_false_iff_not, Bool.not_eq_true', Bool.not_eq_false', bne_iff_ne, beq_iff_eq, ne_eq, Bool.not_true, Bool.not_false, beq_eq_false_iff_ne, bne_eq_false_iff_eq, Decidable.not_not, Int.not_lt, Int.not_le, Bool.and_eq_true, Bool.and_eq_false_iff, Bool.or_eq_true, Bool.or_eq_false_iff, List.length_map] at hc
      refine xa_skip ?_
      refine xa_seq ?_
      refine xa_region ?_
      refine x_move rfl rfl ?_
      refine x_nilCheck rfl rfl rfl ?_
      refine x_fieldAddr rfl rfl (by decide) rfl rfl ?_
      refine x_load_ptrN rfl rfl rfl rfl rfl rfl ?_
      refine x_sub rfl rfl (inI64 (by omega)) ?_
      refine x_assign rfl rfl rfl ?_
      refine xr_nil ⟨nofun, [(.t 0, _), (.t 1, _), (.t 5, _), (.h 0, _)], ⟨rfl, rfl, rfl, rfl, rfl, rfl, rfl, rfl, trivial⟩, ?_⟩
      refine xa_seq ?_
      refine xa_seq ?_
      refine xa_region ?_
      refine x_move rfl rfl ?_
      refine x_move rfl rfl ?_
      refine x_nilCheck rfl rfl rfl ?_
      refine x_fieldAddr rfl rfl (by decide) rfl rfl ?_
      refine x_load_ptrN rfl rfl rfl rfl rfl rfl ?_
      refine x_len_map rfl rfl ?_
      refine x_lss rfl rfl ?_
      refine xr_nil ⟨nofun, [(.t 0, _), (.t 1, _), (.t 5, _), (.t 36, _), (.h 0, _)], ⟨rfl, rfl, rfl, rfl, rfl, rfl, rfl, rfl, rfl, rfl, trivial⟩, ?_⟩
      refine xa_cond rfl (fun hc => ?_) (fun hc => ?_)
      · try simp only [decide_eq_true_eq, decide_eq_false_iff_not, Bool.not_eq_true', Bool.not_eq_false', bne_iff_ne, beq_iff_eq, ne_eq, Bool.not_true, Bool.not_false, beq_eq_false_iff_ne, bne_eq_false_iff_eq, Decidable.not_not, Int.not_lt, Int.not_le, Bool.and_eq_true, Bool.and_eq_false_iff, Bool.or_eq_true, Bool.or_eq_false_iff, List.length_map] at hc
        refine xa_seq ?_
        refine xa_region ?_
        refine x_move rfl rfl ?_
        refine x_nilCheck rfl rfl rfl ?_
        refine x_fieldAddr rfl rfl (by decide) rfl rfl ?_
        refine x_load_ptrN rfl rfl rfl rfl rfl rfl ?_
        refine x_move rfl rfl ?_
        refine x_index_list rfl rfl rfl (fun _ => rfl) (by omega) ?_
        refine x_load_iptV rfl rfl rfl ?_
        refine x_conv rfl rfl rfl (inI64 (by have := hbs.getD (p + 1 - 1).toNat; omega)) ?_
        refine x_move rfl rfl ?_
        have hk := hbs.getD (p + 1 - 1).toNat
        refine x_rem rfl rfl (by omega) ?_
        refine x_assign rfl rfl rfl ?_
        refine xr_nil ⟨nofun, [(.t 4, _), (.h 0, _)], ⟨rfl, rfl, rfl, rfl, trivial⟩, ?_⟩
        refine xa_ret ?_
        refine ⟨_, _, ?_, ret_val rfl rfl (outs_one rfl rfl)⟩
        refine ⟨_, rfl, rfl, fun h => ?_, fun h => ?_⟩
        · exact tmod_in (by omega) (by omega)
        · omega
      · try simp only [decide_eq_true_eq, decide_eq_false_iff_not, Bool.not_eq_true', Bool.not_eq_false', bne_iff_ne, beq_iff_eq, ne_eq, Bool.not_true, Bool.not_false, beq_eq_false_iff_ne, bne_eq_false_iff_eq, Decidable.not_not, Int.not_lt, Int.not_le, Bool.and_eq_true, Bool.and_eq_false_iff, Bool.or_eq_true, Bool.or_eq_false_iff, List.length_map] at hc
        refine xa_skip ?_
        refine xa_seq ?_
        refine xa_region ?_
        refine x_move rfl rfl ?_
        refine x_nilCheck rfl rfl rfl ?_
        refine x_fieldAddr rfl rfl (by decide) rfl rfl ?_
        refine x_load_ptrN rfl rfl rfl rfl rfl rfl ?_
        refine x_move rfl rfl ?_
        refine x_move rfl rfl ?_
        refine x_nilCheck rfl rfl rfl ?_
        refine x_fieldAddr rfl rfl (by decide) rfl rfl ?_
        refine x_load_ptrN rfl rfl rfl rfl rfl rfl ?_
        refine x_len_map rfl rfl ?_
        have hlen : 0 < (bs.length : Int) := by omega
        refine x_rem rfl rfl (by omega) ?_
        have hm1 := tmod_in (a := p + 1 - 1) (by omega) hlen
        refine x_index_list rfl rfl rfl (fun _ => rfl) (by omega) ?_
        refine x_load_iptV rfl rfl rfl ?_
        refine x_conv rfl rfl rfl (inI64 (by have := hbs.getD ((p + 1 - 1).tmod bs.length).toNat; omega)) ?_
        have hk := hbs.getD ((p + 1 - 1).tmod bs.length).toNat
        refine x_mul rfl rfl (inI64 (by omega)) ?_
        refine x_move rfl rfl ?_
        refine x_nilCheck rfl rfl rfl ?_
        refine x_fieldAddr rfl rfl (by decide) rfl rfl ?_
        refine x_load_ptrN rfl rfl rfl rfl rfl rfl ?_
        refine x_move rfl rfl ?_
        refine x_mul rfl rfl (inI64 (by omega)) ?_
        refine x_add rfl rfl (inI64 (by omega)) ?_
        refine x_move rfl rfl ?_
        refine x_nilCheck rfl rfl rfl ?_
        refine x_fieldAddr rfl rfl (by decide) rfl rfl ?_
        refine x_load_ptrN rfl rfl rfl rfl rfl rfl ?_
        refine x_len_map rfl rfl ?_
        refine x_rem rfl rfl (by omega) ?_
        have hm2 := tmod_in (a := (p + 1 - 1) * 7 + 3) (by omega) hlen
        refine x_index_list rfl rfl rfl (fun _ => rfl) (by omega) ?_
        refine x_load_iptV rfl rfl rfl ?_
        refine x_conv rfl rfl rfl (inI64 (by have := hbs.getD (((p + 1 - 1) * 7 + 3).tmod bs.length).toNat; omega)) ?_
        have hk2 := hbs.getD (((p + 1 - 1) * 7 + 3).tmod bs.length).toNat
        refine x_mul rfl rfl (inI64 (by omega)) ?_
        refine x_add rfl rfl (inI64 (by omega)) ?_
        refine x_move rfl rfl ?_
        refine x_mul rfl rfl (inI64 (by omega)) ?_
        refine x_add rfl rfl (inI64 (by omega)) ?_
        refine x_move rfl rfl ?_
        refine x_move rfl rfl ?_
        refine x_nilCheck rfl rfl rfl ?_
        refine x_fieldAddr rfl rfl (by decide) rfl rfl ?_
        refine x_load_ptrN rfl rfl rfl rfl rfl rfl ?_
        refine x_len_map rfl rfl ?_
        have hd := tdiv_in (a := p + 1 - 1) (b := bs.length) (by omega) (by omega)
        refine x_quo rfl rfl ⟨by omega, inI64 (by omega)⟩ ?_
        refine x_mul rfl rfl (inI64 (by omega)) ?_
        refine x_add rfl rfl (inI64 (by omega)) ?_
        refine x_assign rfl rfl rfl ?_
        refine xr_nil ⟨fun _ => ⟨by decide +kernel, by decide +kernel⟩, [(.t 1, _), (.t 6, _), (.h 0, _)], ⟨rfl, rfl, rfl, rfl, rfl, rfl, trivial⟩, ?_⟩
        refine xa_seq ?_
        refine xa_region ?_
        refine x_move rfl rfl ?_
        refine x_move rfl rfl ?_
        have hd2 := tdiv_in (a := (bs.getD ((p + 1 - 1).tmod bs.length).toNat default * 131 + bs.getD (((p + 1 - 1) * 7 + 3).tmod bs.length).toNat default * 1117 + (p + 1 - 1) * 29 + (p + 1 - 1).tdiv bs.length * 53)) (b := 64) (by omega) (by decide)
        refine x_quo rfl rfl ⟨by omega, inI64 (by omega)⟩ ?_
        have hx := xor_in (x := (bs.getD ((p + 1 - 1).tmod bs.length).toNat default * 131 + bs.getD (((p + 1 - 1) * 7 + 3).tmod bs.length).toNat default * 1117 + (p + 1 - 1) * 29 + (p + 1 - 1).tdiv bs.length * 53)) (by omega) (y := (bs.getD ((p + 1 - 1).tmod bs.length).toNat default * 131 + bs.getD (((p + 1 - 1) * 7 + 3).tmod bs.length).toNat default * 1117 + (p + 1 - 1) * 29 + (p + 1 - 1).tdiv bs.length * 53).tdiv 64) (by omega)
        refine x_xor rfl rfl ?_
        refine x_assign rfl rfl rfl ?_
        refine xr_nil ⟨nofun, [(.t 1, _), (.t 6, _), (.h 0, _)], ⟨rfl, rfl, rfl, rfl, rfl, rfl, trivial⟩, ?_⟩
        refine xa_seq ?_
        refine xa_region ?_
        refine x_move rfl rfl ?_
        refine x_move rfl rfl ?_
        refine x_rem rfl rfl (by omega) ?_
        refine x_assign rfl rfl rfl ?_
        refine xr_nil ⟨nofun, [(.t 4, _), (.h 0, _)], ⟨rfl, rfl, rfl, rfl, trivial⟩, ?_⟩
        refine xa_ret ?_
        refine ⟨_, _, ?_, ret_val rfl rfl (outs_one rfl rfl)⟩
        refine ⟨_, rfl, rfl, fun h => ?_, fun h => ?_⟩
        · exact tmod_in (by omega) (by omega)
        · omega
  · have hg := hg0; try simp only [decide_eq_true_eq, decide_eq_false_iff_not, Bool.not_eq_true', Bool.not_eq_false', bne_iff_ne, beq_iff_eq, ne_eq, Bool.not_true, Bool.not_false, beq_eq_false_iff_ne, bne_eq_false_iff_eq, Decidable.not_not, Int.not_lt, Int.not_le, Bool.and_eq_true, Bool.and_eq_false_iff, Bool.or_eq_true, Bool.or_eq_false_iff] at hg
    refine x_guard_f rfl rfl (by assumption) ?_
    refine x_guard_f rfl rfl (by assumption) ?_
    refine x_guard_f rfl rfl (by assumption) ?_
    refine x_guard_f rfl rfl (by assumption) ?_
    refine x_guard_f rfl rfl (by assumption) ?_
    refine x_pick_t rfl (by assumption) rfl rfl ?_
    refine xr_nil ⟨nofun, [(.t 0, _), (.t 1, _), (.t 24, _), (.h 0, _)], ⟨rfl, rfl, rfl, rfl, rfl, rfl, rfl, rfl, trivial⟩, ?_⟩
    refine xa_cond rfl (fun hc => ?_) (fun hc => absurd hc (by decide))
    refine xa_seq ?_
    refine xa_region ?_
    refine x_assign rfl rfl rfl ?_
    refine xr_nil ⟨nofun, [(.t 4, _), (.h 0, _)], ⟨rfl, rfl, rfl, rfl, trivial⟩, ?_⟩
    refine xa_ret ?_
    refine ⟨_, _, ?_, ret_val rfl rfl (outs_one rfl rfl)⟩
    refine ⟨_, rfl, rfl, fun h => ?_, fun h => ?_⟩
    · omega
    · omega

theorem keep_s_one : keepOf Try.f40 = [0, 1, 4] := by kernel_rfl
set_option maxHeartbeats 20000000 in
theorem s_one (bs : List Int) (p : Int) (hbs : Bytes bs) (hl : bs.length ≤ 1048576) (hp : 0 ≤ p ∧ p ≤ 1000000000) (xs : List Int) (hx : 1 ≤ xs.length ∧ xs.length ≤ 1000) : ∃ res outs, (fun res outs => ∃ k, res = iV k ∧ outs = [[rdr bs (p + 1)]] ∧ k ∈ xs) res outs ∧ CW cxT 40 [.ownp [rdr bs p] 0 0, L xs] = some (res, outs) := by
  refine fn_introP rfl Try.func40 rfl ⟨by kernel_rfl, rfl, of_decide_eq_true rfl, of_decide_eq_true rfl, by decide⟩ keep_s_one ?_
  refine xa_seq ?_
  refine xa_region ?_
  refine x_assign rfl rfl rfl ?_
  refine xr_nil ⟨nofun, [(.t 0, _), (.t 1, _), (.h 0, _)], ⟨rfl, rfl, rfl, rfl, rfl, rfl, trivial⟩, ?_⟩
  refine xa_seq ?_
  refine xa_region ?_
  refine x_move rfl rfl ?_
  refine x_move rfl rfl ?_
  refine x_move rfl rfl ?_
  refine x_len_map rfl rfl ?_
  obtain ⟨_, _, ⟨k, rfl, rfl, hk1, hk2⟩, hC⟩ := s_pick bs p hbs hl hp xs.length (by omega)
  have hk1 := hk1 (by omega)
  apply x_call rfl
  · apply pa_cons
    · exact pa_box rfl (by decide) rfl
    apply pa_cons
    · exact pa_plain rfl
    exact pa_nil
  · exact hC
  · exact ⟨rfl, rfl, rfl, of_decide_eq_true rfl, rfl⟩
  · exact .inl rfl
  · exact back_cons rfl rfl rfl back_nil
  · exact inst_plain rfl
  · exact fun _ => rfl
  intro g9
  refine x_index_list rfl rfl rfl (fun _ => rfl) (by omega) ?_
  refine x_load_iptV rfl rfl rfl ?_
  refine x_assign rfl rfl rfl ?_
  refine xr_nil ⟨nofun, [(.t 4, _), (.h 0, _)], ⟨rfl, rfl, rfl, rfl, trivial⟩, ?_⟩
  refine xa_ret ?_
  refine ⟨_, _, ?_, ret_val rfl rfl (outs_one rfl rfl)⟩
  refine ⟨_, rfl, rfl, getD_mem (by omega)⟩

theorem keep_s_newReader : keepOf Try.f30 = [0, 2, 5] := by kernel_rfl
set_option maxHeartbeats 20000000 in
theorem s_newReader (bs : List Int) (hl : bs.length ≤ 1048576) : ∃ res outs, (fun res outs => res = .ownp [rdr (bs.take 2000) 0] 0 0 ∧ outs = []) res outs ∧ CW cxT 30 [.list (bs.map uV)] = some (res, outs) := by
  refine fn_introP rfl Try.func30 rfl ⟨by kernel_rfl, rfl, of_decide_eq_true rfl, of_decide_eq_true rfl, by decide⟩ keep_s_newReader ?_
  refine xa_seq ?_
  refine xa_region ?_
  refine x_assign rfl rfl rfl ?_
  refine xr_nil ⟨nofun, [(.t 0, _)], ⟨rfl, rfl, trivial⟩, ?_⟩
  refine xa_seq ?_
  refine xa_seq ?_
  refine xa_region ?_
  refine x_move rfl rfl ?_
  refine x_len_map rfl rfl ?_
  refine x_gtr rfl rfl ?_
  refine xr_nil ⟨nofun, [(.t 0, _), (.t 5, _)], ⟨rfl, rfl, rfl, rfl, trivial⟩, ?_⟩
  refine xa_cond rfl (fun hc => ?_) (fun hc => ?_)
  · try simp only [decide_eq_true_eq, decide_eq_false_iff_not, Bool.not_eq_true', Bool.not_eq_false', bne_iff_ne, beq_iff_eq, ne_eq, Bool.not_true, Bool.not_false, beq_eq_false_iff_ne, bne_eq_false_iff_eq, Decidable.not_not, Int.not_lt, Int.not_le, Bool.and_eq_true, Bool.and_eq_false_iff, Bool.or_eq_true, Bool.or_eq_false_iff, List.length_map] at hc
    refine xa_region ?_
    refine x_move rfl rfl ?_
    refine x_slice_list rfl rfl rfl (sized_map fun _ => rfl) (optNat_some rfl (by omega)) optNat_none (by (simp; omega)) ?_
    refine x_assign rfl rfl rfl ?_
    refine xr_nil ⟨nofun, [(.t 0, _)], ⟨rfl, rfl, trivial⟩, ?_⟩
    refine xa_seq ?_
    refine xa_region ?_
    refine x_move rfl rfl ?_
    refine x_build rfl rfl rfl rfl rfl ?_
    refine x_box rfl rfl rfl (fun _ => slot_box rfl) (fun _ => rfl) ?_
    intro g10
    (refine x_assign_box rfl rfl rfl rfl (fun _ => slot_box rfl) (fun _ => rfl) ?_; intro g2)
    refine xr_nil ⟨nofun, [(.t 2, _), (.h 2, _)], ⟨rfl, rfl, rfl, rfl, trivial⟩, ?_⟩
    refine xa_ret ?_
    refine ⟨_, _, ?_, ret_box rfl rfl rfl outs_nil⟩
    have e : rdr (bs.take 2000) 0 = .agg [.list ((bs.map uV).take 2000), iV 0] := by unfold rdr; rw [List.map_take]
    rw [e]
    exact ⟨rfl, rfl⟩
  · try simp only [decide_eq_true_eq, decide_eq_false_iff_not, Bool.not_eq_true', Bool.not_eq_false', bne_iff_ne, beq_iff_eq, ne_eq, Bool.not_true, Bool.not_false, beq_eq_false_iff_ne, bne_eq_false_iff_eq, Decidable.not_not, Int.not_lt, Int.not_le, Bool.and_eq_true, Bool.and_eq_false_iff, Bool.or_eq_true, Bool.or_eq_false_iff, List.length_map] at hc
    refine xa_skip ?_
    refine xa_seq ?_
    refine xa_region ?_
    refine x_move rfl rfl ?_
    refine x_build rfl rfl rfl rfl rfl ?_
    refine x_box rfl rfl rfl (fun _ => slot_box rfl) (fun _ => rfl) ?_
    intro g10
    (refine x_assign_box rfl rfl rfl rfl (fun _ => slot_box rfl) (fun _ => rfl) ?_; intro g2)
    refine xr_nil ⟨nofun, [(.t 2, _), (.h 2, _)], ⟨rfl, rfl, rfl, rfl, trivial⟩, ?_⟩
    refine xa_ret ?_
    refine ⟨_, _, ?_, ret_box rfl rfl rfl outs_nil⟩
    have e : bs.take 2000 = bs := List.take_of_length_le (by omega)
    rw [e]
    exact ⟨rfl, rfl⟩

theorem keep_s_sorted : keepOf Try.f37 = [0, 2, 3] := by kernel_rfl
set_option maxHeartbeats 20000000 in
theorem s_sorted (xs : List Int) (hl : xs.length ≤ maxL) : CW cxT 37 [L xs] = some (.own 1 ((sortI xs).map iV), []) := by
  refine fn_intro rfl Try.func37 rfl ⟨by kernel_rfl, rfl, of_decide_eq_true rfl, of_decide_eq_true rfl, by decide⟩ keep_s_sorted ?_
  refine xa_seq ?_
  refine xa_region ?_
  (refine x_assign_nil rfl rfl (fun _ => rfl) ?_; intro g2)
  refine xr_nil ⟨nofun, [(.t 0, _)], ⟨rfl, rfl, trivial⟩, ?_⟩
  refine xa_seq ?_
  refine xa_region ?_
  refine x_move rfl rfl ?_
  apply x_call rfl
  · apply pa_cons
    · exact pa_plain rfl
    exact pa_nil
  · exact s_Clone xs hl
  · exact ⟨rfl, rfl, rfl, of_decide_eq_true rfl, rfl⟩
  · exact .inl rfl
  · exact back_nil
  · exact inst_own
  · exact fun _ => rfl
  intro g5
  (refine x_assign_own rfl rfl (by (simp; done)) rfl (fun _ => (slot_obj (by exact noRef_map fun _ => rfl))) (fun _ => rfl) ?_; intro g3)
  refine xr_nil ⟨nofun, [(.t 3, _), (.h 3, _)], ⟨rfl, rfl, rfl, rfl, trivial⟩, ?_⟩
  refine xa_seq ?_
  refine xa_region ?_
  refine x_move rfl rfl ?_
  apply x_call rfl
  · apply pa_cons
    · exact pa_write rfl rfl (by decide) (by (simp; done)) (imm_map fun _ => rfl)
    exact pa_nil
  · exact s_Sort _ hl
  · exact ⟨rfl, rfl, rfl, of_decide_eq_true rfl, rfl⟩
  · exact .inl rfl
  · exact back_cons rfl (by simp) (nilFit_int _ _) back_nil
  · exact inst_tup rfl
  · (intro _; exact tRefs_cons (slot_obj (noRef_map fun _ => rfl)) rfl)
  intro g7
  refine xr_nil ⟨nofun, [(.t 3, _), (.h 3, _)], ⟨rfl, rfl, rfl, rfl, trivial⟩, ?_⟩
  refine xa_seq ?_
  refine xa_region ?_
  refine x_move rfl rfl ?_
  (refine x_assign_own rfl rfl (by (simp; done)) rfl (fun _ => (slot_obj (by exact noRef_map fun _ => rfl))) (fun _ => rfl) ?_; intro g2)
  refine xr_nil ⟨nofun, [(.t 2, _), (.h 2, _)], ⟨rfl, rfl, rfl, rfl, trivial⟩, ?_⟩
  refine xa_ret ?_
  refine ret_own' rfl rfl (by (simp; done)) (by exact noRef_map fun _ => rfl) trivial ?_
  rfl

theorem keep_s_of : keepOf Try.f42 = [0, 1, 4] := by kernel_rfl
set_option maxHeartbeats 20000000 in
theorem s_of (bs : List Int) (p : Int) (hbs : Bytes bs) (hl : bs.length ≤ 1048576) (hp : 0 ≤ p ∧ p ≤ 1000000000) (ss : List ByteArray) (hs : 1 ≤ ss.length ∧ ss.length ≤ 1000) : ∃ res outs, (fun res outs => ∃ k, res = sV k ∧ outs = [[rdr bs (p + 1)]] ∧ k ∈ ss) res outs ∧ CW cxT 42 [.ownp [rdr bs p] 0 0, .list (ss.map sV)] = some (res, outs) := by
  refine fn_introP rfl Try.func42 rfl ⟨by kernel_rfl, rfl, of_decide_eq_true rfl, of_decide_eq_true rfl, by decide⟩ keep_s_of ?_
  refine xa_seq ?_
  refine xa_region ?_
  refine x_assign rfl rfl rfl ?_
  refine xr_nil ⟨nofun, [(.t 0, _), (.t 1, _), (.h 0, _)], ⟨rfl, rfl, rfl, rfl, rfl, rfl, trivial⟩, ?_⟩
  refine xa_seq ?_
  refine xa_region ?_
  refine x_move rfl rfl ?_
  refine x_move rfl rfl ?_
  refine x_move rfl rfl ?_
  refine x_len_map rfl rfl ?_
  obtain ⟨_, _, ⟨k, rfl, rfl, hk1, hk2⟩, hC⟩ := s_pick bs p hbs hl hp ss.length (by omega)
  have hk1 := hk1 (by omega)
  apply x_call rfl
  · apply pa_cons
    · exact pa_box rfl (by decide) rfl
    apply pa_cons
    · exact pa_plain rfl
    exact pa_nil
  · exact hC
  · exact ⟨rfl, rfl, rfl, of_decide_eq_true rfl, rfl⟩
  · exact .inl rfl
  · exact back_cons rfl rfl rfl back_nil
  · exact inst_plain rfl
  · exact fun _ => rfl
  intro g9
  refine x_index_list rfl rfl rfl (fun _ => rfl) (by omega) ?_
  refine x_load_iptV rfl rfl rfl ?_
  refine x_assign rfl rfl rfl ?_
  refine xr_nil ⟨nofun, [(.t 4, _), (.h 0, _)], ⟨rfl, rfl, rfl, rfl, trivial⟩, ?_⟩
  refine xa_ret ?_
  refine ⟨_, _, ?_, ret_val rfl rfl (outs_one rfl rfl)⟩
  refine ⟨_, rfl, rfl, getD_memG (by omega)⟩

theorem keep_s_IndexFunc2 : keepOf Try.f89 = [0, 1, 4, 8, 7, 9, 5, 16] := by kernel_rfl
set_option maxHeartbeats 20000000 in
theorem s_IndexFunc2 (xs : List Int) (hl : xs.length ≤ 1000) (k : Nat) (a b : AV) (q : Int → Bool) (hq : ∀ x, CW cxT k [iV x, .ipt a 0, .ipt b 0] = some (bV (q x), [])) : ∃ res outs, (fun res outs => ∃ r : Int, res = iV r ∧ outs = [] ∧ decide (0 ≤ r) = xs.any q) res outs ∧ CW cxT 89 [L xs, .clo k [.ipt a 0, .ipt b 0]] = some (res, outs) := by
  refine fn_introP rfl Try.func89 rfl ⟨by kernel_rfl, rfl, of_decide_eq_true rfl, of_decide_eq_true rfl, by decide⟩ keep_s_IndexFunc2 ?_
  refine xa_seq ?_
  refine xa_region ?_
  refine x_assign rfl rfl rfl ?_
  refine xr_nil ⟨nofun, [(.t 0, _), (.t 1, _)], ⟨rfl, rfl, rfl, rfl, trivial⟩, ?_⟩
  refine xa_seq ?_
  refine xa_seq ?_
  refine xa_region ?_
  refine x_move rfl rfl ?_
  refine x_len_map rfl rfl ?_
  refine x_move rfl rfl ?_
  refine xr_nil ⟨nofun, [(.t 0, _), (.t 1, _), (.t 7, _), (.t 8, _)], ⟨rfl, rfl, rfl, rfl, rfl, rfl, rfl, rfl, trivial⟩, ?_⟩
  refine xa_block ?_
  refine xa_loopK (β := Nat) [(.t 0, _), (.t 1, _), (.t 7, _)] (fun (i : Nat) => [(.t 8, iV i)]) (fun (i : Nat) => i ≤ xs.length ∧ ∀ j, j < i → q (xs.getD j default) = false) (fun (i : Nat) => xs.length - i) 0 ⟨rfl, rfl, rfl, rfl, trivial⟩ ⟨Nat.zero_le _, fun j h => by omega⟩ ?_
  intro i hb
  obtain ⟨hi1, hi2⟩ := hb
  refine xa_seq ?_
  refine xa_region ?_
  refine x_lss rfl rfl ?_
  refine xr_nil ⟨nofun, [(.t 0, _), (.t 1, _), (.t 7, _), (.t 8, _), (.t 9, _)], ⟨rfl, rfl, rfl, rfl, rfl, rfl, rfl, rfl, rfl, rfl, trivial⟩, ?_⟩
  refine xa_seq ?_
  refine xa_cond rfl (fun hc => ?_) (fun hc => ?_)
  · try simp only [decide_eq_true_eq, decide_eq_false_iff_not, Bool.not_eq_true', Bool.not_eq_false', bne_iff_ne, beq_iff_eq, ne_eq, Bool.not_true, Bool.not_false, beq_eq_false_iff_ne, bne_eq_false_iff_eq, Decidable.not_not, Int.not_lt, Int.not_le, Bool.and_eq_true, Bool.and_eq_false_iff, Bool.or_eq_true, Bool.or_eq_false_iff, List.length_map] at hc
    refine xa_skip ?_
    refine xa_seq ?_
    refine xa_block ?_
    refine xa_seq ?_
    refine xa_region ?_
    refine x_move rfl rfl ?_
    refine x_assign rfl rfl rfl ?_
    refine xr_nil ⟨nofun, [(.t 0, _), (.t 1, _), (.t 5, _), (.t 7, _), (.t 8, _)], ⟨rfl, rfl, rfl, rfl, rfl, rfl, rfl, rfl, rfl, rfl, trivial⟩, ?_⟩
    refine xa_seq ?_
    refine xa_region ?_
    refine x_move rfl rfl ?_
    refine x_move rfl rfl ?_
    refine x_move rfl rfl ?_
    refine x_index_listN rfl rfl rfl (fun _ => rfl) (by omega) ?_
    refine x_load_iptV rfl rfl rfl ?_
    apply x_callV rfl rfl
    · apply pa_cons
      · exact pa_plain rfl
      apply pa_cons
      · exact pa_plain rfl
      apply pa_cons
      · exact pa_plain rfl
      exact pa_nil
    · exact hq (xs.getD i default)
    · exact ⟨rfl, rfl, rfl, of_decide_eq_true rfl, rfl⟩
    · exact .inl rfl
    · exact back_nil
    · exact inst_plain rfl
    · exact fun _ => rfl
    intro g16
    refine xr_nil ⟨nofun, [(.t 0, _), (.t 1, _), (.t 5, _), (.t 7, _), (.t 8, _), (.t 16, _)], ⟨rfl, rfl, rfl, rfl, rfl, rfl, rfl, rfl, rfl, rfl, rfl, rfl, trivial⟩, ?_⟩
    refine xa_cond rfl (fun hc => ?_) (fun hc => ?_)
    · try simp only [decide_eq_true_eq, decide_eq_false_iff_not, Bool.not_eq_true', Bool.not_eq_false', bne_iff_ne, beq_iff_eq, ne_eq, Bool.not_true, Bool.not_false, beq_eq_false_iff_ne, bne_eq_false_iff_eq, Decidable.not_not, Int.not_lt, Int.not_le, Bool.and_eq_true, Bool.and_eq_false_iff, Bool.or_eq_true, Bool.or_eq_false_iff, List.length_map] at hc
      refine xa_seq ?_
      refine xa_region ?_
      refine x_move rfl rfl ?_
      refine x_assign rfl rfl rfl ?_
      refine xr_nil ⟨nofun, [(.t 4, _)], ⟨rfl, rfl, trivial⟩, ?_⟩
      refine xa_ret ?_
      refine ⟨_, _, ?_, ret_val rfl rfl outs_nil⟩
      exact ⟨_, rfl, rfl, any_hit (by omega) hc⟩
    · try simp only [decide_eq_true_eq, decide_eq_false_iff_not, Bool.not_eq_true', Bool.not_eq_false', bne_iff_ne, beq_iff_eq, ne_eq, Bool.not_true, Bool.not_false, beq_eq_false_iff_ne, bne_eq_false_iff_eq, Decidable.not_not, Int.not_lt, Int.not_le, Bool.and_eq_true, Bool.and_eq_false_iff, Bool.or_eq_true, Bool.or_eq_false_iff, List.length_map] at hc
      refine xa_skip ?_
      refine xa_region ?_
      refine x_add rfl rfl (inI64 (by omega)) ?_
      refine x_move rfl rfl ?_
      refine xr_nil ⟨nofun, [(.t 0, _), (.t 1, _), (.t 7, _), (.t 8, _)], ⟨rfl, rfl, rfl, rfl, rfl, rfl, rfl, rfl, trivial⟩, ?_⟩
      refine ⟨i + 1, ⟨by omega, fun a ha => by rcases Nat.lt_succ_iff_lt_or_eq.1 ha with h | h; exact hi2 a h; subst h; exact hc⟩, (by omega), ⟨rfl, rfl, rfl, rfl, trivial⟩⟩
  · try simp only [decide_eq_true_eq, decide_eq_false_iff_not, Bool.not_eq_true', Bool.not_eq_false', bne_iff_ne, beq_iff_eq, ne_eq, Bool.not_true, Bool.not_false, beq_eq_false_iff_ne, bne_eq_false_iff_eq, Decidable.not_not, Int.not_lt, Int.not_le, Bool.and_eq_true, Bool.and_eq_false_iff, Bool.or_eq_true, Bool.or_eq_false_iff, List.length_map] at hc
    refine xa_exit ?_
    refine xa_seq ?_
    refine xa_region ?_
    refine x_assign rfl rfl rfl ?_
    refine xr_nil ⟨nofun, [(.t 4, _)], ⟨rfl, rfl, trivial⟩, ?_⟩
    refine xa_ret ?_
    refine ⟨_, _, ?_, ret_val rfl rfl outs_nil⟩
    exact ⟨-1, rfl, rfl, any_miss fun j hj => hi2 j (by omega)⟩

theorem keep_s_ContainsFunc2 : keepOf Try.f72 = [0, 1, 4] := by kernel_rfl
set_option maxHeartbeats 20000000 in
theorem s_ContainsFunc2 (xs : List Int) (hl : xs.length ≤ 1000) (k : Nat) (a b : AV) (q : Int → Bool) (hq : ∀ x, CW cxT k [iV x, .ipt a 0, .ipt b 0] = some (bV (q x), [])) : CW cxT 72 [L xs, .clo k [.ipt a 0, .ipt b 0]] = some (bV (xs.any q), []) := by
  obtain ⟨_, _, ⟨r, rfl, rfl, hr⟩, hC⟩ := s_IndexFunc2 xs hl k a b q hq
  refine fn_intro rfl Try.func72 rfl ⟨by kernel_rfl, rfl, of_decide_eq_true rfl, of_decide_eq_true rfl, by decide⟩ keep_s_ContainsFunc2 ?_
  refine xa_seq ?_
  refine xa_region ?_
  refine x_assign rfl rfl rfl ?_
  refine xr_nil ⟨nofun, [(.t 0, _), (.t 1, _)], ⟨rfl, rfl, rfl, rfl, trivial⟩, ?_⟩
  refine xa_seq ?_
  refine xa_region ?_
  refine x_move rfl rfl ?_
  refine x_move rfl rfl ?_
  apply x_call rfl
  · apply pa_cons
    · exact pa_plain rfl
    apply pa_cons
    · exact pa_clo rfl (pc_ipt (pc_ipt pc_nil))
    exact pa_nil
  · exact hC
  · exact ⟨rfl, rfl, rfl, of_decide_eq_true rfl, rfl⟩
  · exact .inl rfl
  · exact back_nil
  · exact inst_plain rfl
  · exact fun _ => rfl
  intro g7
  refine x_geq rfl rfl ?_
  refine x_assign rfl rfl rfl ?_
  refine xr_nil ⟨nofun, [(.t 4, _)], ⟨rfl, rfl, trivial⟩, ?_⟩
  refine xa_ret ?_
  refine ret_val' rfl rfl trivial ?_
  rw [← hr]

theorem keep_s_allIn1 : keepOf Try.f73 = [0, 1, 2, 4] := by kernel_rfl
set_option maxHeartbeats 20000000 in
theorem s_allIn1 (x lo hi : Int) : CW cxT 73 [iV x, .ipt (iV lo) 0, .ipt (iV hi) 0] = some (bV (!(decide (lo ≤ x) && decide (x ≤ hi))), []) := by
  refine fn_intro rfl Try.func73 rfl ⟨by kernel_rfl, rfl, of_decide_eq_true rfl, of_decide_eq_true rfl, by decide⟩ keep_s_allIn1 ?_
  refine xa_seq ?_
  refine xa_region ?_
  refine x_assign rfl rfl rfl ?_
  refine xr_nil ⟨nofun, [(.t 0, _), (.t 1, _), (.t 2, _)], ⟨rfl, rfl, rfl, rfl, rfl, rfl, trivial⟩, ?_⟩
  refine xa_seq ?_
  refine xa_region ?_
  refine x_move rfl rfl ?_
  refine x_load_iptV rfl rfl rfl ?_
  refine x_load_iptV rfl rfl rfl ?_
  apply x_call rfl
  · apply pa_cons
    · exact pa_plain rfl
    apply pa_cons
    · exact pa_plain rfl
    apply pa_cons
    · exact pa_plain rfl
    exact pa_nil
  · exact s_in _ _ _
  · exact ⟨rfl, rfl, rfl, of_decide_eq_true rfl, rfl⟩
  · exact .inl rfl
  · exact back_nil
  · exact inst_plain rfl
  · exact fun _ => rfl
  intro g8
  refine x_not rfl ?_
  refine x_assign rfl rfl rfl ?_
  refine xr_nil ⟨nofun, [(.t 4, _)], ⟨rfl, rfl, trivial⟩, ?_⟩
  refine xa_ret ?_
  refine ret_val' rfl rfl trivial ?_
  rfl

theorem keep_s_allIn : keepOf Try.f59 = [0, 1, 2, 6, 4, 5] := by kernel_rfl
set_option maxHeartbeats 20000000 in
theorem s_allIn (xs : List Int) (hl : xs.length ≤ 1000) (lo hi : Int) : CW cxT 59 [L xs, iV lo, iV hi] = some (bV (allB lo hi xs), []) := by
  refine fn_intro rfl Try.func59 rfl ⟨by kernel_rfl, rfl, of_decide_eq_true rfl, of_decide_eq_true rfl, by decide⟩ keep_s_allIn ?_
  refine xa_seq ?_
  refine xa_region ?_
  refine x_box rfl rfl rfl (fun _ => slot_box rfl) (fun _ => rfl) ?_
  intro g4
  refine x_box rfl rfl rfl (fun _ => slot_box rfl) (fun _ => rfl) ?_
  intro g5
  refine x_assign rfl rfl rfl ?_
  refine xr_nil ⟨nofun, [(.t 0, _), (.t 4, _), (.t 5, _), (.h 4, _), (.h 5, _)], ⟨rfl, rfl, rfl, rfl, rfl, rfl, rfl, rfl, rfl, rfl, trivial⟩, ?_⟩
  refine xa_seq ?_
  refine xa_region ?_
  refine x_move rfl rfl ?_
  refine x_makeFunc rfl rfl ?_
  apply x_call rfl
  · apply pa_cons
    · exact pa_plain rfl
    apply pa_cons
    · exact pa_clo rfl (pc_box rfl rfl (pc_box rfl rfl pc_nil))
    exact pa_nil
  · exact s_ContainsFunc2 xs hl 73 (iV lo) (iV hi) _ (fun x => s_allIn1 x lo hi)
  · exact ⟨rfl, rfl, rfl, of_decide_eq_true rfl, rfl⟩
  · exact .inr ⟨rfl, rfl⟩
  · exact back_nil
  · exact inst_plain rfl
  · exact fun _ => rfl
  intro g9
  refine x_not rfl ?_
  refine x_assign rfl rfl rfl ?_
  refine xr_nil ⟨nofun, [(.t 6, _)], ⟨rfl, rfl, trivial⟩, ?_⟩
  refine xa_ret ?_
  refine ret_val' rfl rfl trivial ?_
  exact congrArg bV (allB_any lo hi xs)

theorem keep_s_voI : keepOf Try.f43 = [0, 2] := by kernel_rfl
set_option maxHeartbeats 20000000 in
theorem s_voI (xs : List Int) (hl : xs.length ≤ 1000) : CW cxT 43 [L xs] = some (bV (vo xs), []) := by
  refine fn_intro rfl Try.func43 rfl ⟨by kernel_rfl, rfl, of_decide_eq_true rfl, of_decide_eq_true rfl, by decide⟩ keep_s_voI ?_
  refine xa_seq ?_
  refine xa_region ?_
  refine x_assign rfl rfl rfl ?_
  refine xr_nil ⟨nofun, [(.t 0, _)], ⟨rfl, rfl, trivial⟩, ?_⟩
  refine xa_seq ?_
  refine xa_region ?_
  refine x_move rfl rfl ?_
  refine x_len_map rfl rfl ?_
  apply x_call rfl
  · apply pa_cons
    · exact pa_plain rfl
    apply pa_cons
    · exact pa_plain rfl
    apply pa_cons
    · exact pa_plain rfl
    exact pa_nil
  · exact s_in _ _ _
  · exact ⟨rfl, rfl, rfl, of_decide_eq_true rfl, rfl⟩
  · exact .inl rfl
  · exact back_nil
  · exact inst_plain rfl
  · exact fun _ => rfl
  intro g5
  refine x_move rfl rfl ?_
  refine x_guard_split rfl rfl (fun hg0 => ?_) (fun hg0 => ?_)
  · have hg := hg0; try simp only [decide_eq_true_eq, decide_eq_false_iff_not, Bool.not_eq_true', Bool.not_eq_false', bne_iff_ne, beq_iff_eq, ne_eq, Bool.not_true, Bool.not_false, beq_eq_false_iff_ne, bne_eq_false_iff_eq, Decidable.not_not, Int.not_lt, Int.not_le, Bool.and_eq_true, Bool.and_eq_false_iff, Bool.or_eq_true, Bool.or_eq_false_iff] at hg
    refine x_move rfl rfl ?_
    refine x_guard_t rfl rfl (by assumption) ?_
    apply x_call rfl
    · apply pa_cons
      · exact pa_plain rfl
      apply pa_cons
      · exact pa_plain rfl
      apply pa_cons
      · exact pa_plain rfl
      exact pa_nil
    · exact s_allIn xs hl 0 1000
    · exact ⟨rfl, rfl, rfl, of_decide_eq_true rfl, rfl⟩
    · exact .inl rfl
    · exact back_nil
    · exact inst_plain rfl
    · exact fun _ => rfl
    intro g8
    refine x_pick_t rfl (by assumption) rfl rfl ?_
    refine x_assign rfl rfl rfl ?_
    refine xr_nil ⟨nofun, [(.t 2, _)], ⟨rfl, rfl, trivial⟩, ?_⟩
    refine xa_ret ?_
    refine ret_val' rfl rfl trivial ?_
    simp_all [vo, ofConst]; try omega
  · have hg := hg0; try simp only [decide_eq_true_eq, decide_eq_false_iff_not, Bool.not_eq_true', Bool.not_eq_false', bne_iff_ne, beq_iff_eq, ne_eq, Bool.not_true, Bool.not_false, beq_eq_false_iff_ne, bne_eq_false_iff_eq, Decidable.not_not, Int.not_lt, Int.not_le, Bool.and_eq_true, Bool.and_eq_false_iff, Bool.or_eq_true, Bool.or_eq_false_iff] at hg
    refine x_guard_f rfl rfl (by assumption) ?_
    refine x_pick_f rfl (by assumption) rfl rfl ?_
    refine x_assign rfl rfl rfl ?_
    refine xr_nil ⟨nofun, [(.t 2, _)], ⟨rfl, rfl, trivial⟩, ?_⟩
    refine xa_ret ?_
    refine ret_val' rfl rfl trivial ?_
    simp_all [vo, ofConst]; try omega

theorem keep_s_voS : keepOf Try.f47 = [0, 2, 3, 7, 15] := by kernel_rfl
set_option maxHeartbeats 20000000 in
theorem s_voS (xs : List Int) (hl : xs.length ≤ 1000) : CW cxT 47 [L xs] = some (bV (vo xs), []) := by
  refine fn_intro rfl Try.func47 rfl ⟨by kernel_rfl, rfl, of_decide_eq_true rfl, of_decide_eq_true rfl, by decide⟩ keep_s_voS ?_
  refine xa_seq ?_
  refine xa_region ?_
  refine x_assign rfl rfl rfl ?_
  refine xr_nil ⟨nofun, [(.t 0, _)], ⟨rfl, rfl, trivial⟩, ?_⟩
  refine xa_seq ?_
  refine xa_seq ?_
  refine xa_region ?_
  refine x_assign rfl rfl rfl ?_
  refine xr_nil ⟨nofun, [(.t 0, _), (.t 3, _)], ⟨rfl, rfl, rfl, rfl, trivial⟩, ?_⟩
  refine xa_block ?_
  refine xa_loopK (β := Nat) [(.t 0, _)] (fun (i : Nat) => [(.t 3, iV i)]) (fun (i : Nat) => i ≤ xs.length ∧ ∀ j, j < i → 0 ≤ xs.getD j default ∧ xs.getD j default ≤ 1000) (fun (i : Nat) => xs.length - i) 0 ⟨rfl, rfl, trivial⟩ ⟨Nat.zero_le _, fun j h => by omega⟩ ?_
  intro i hb
  obtain ⟨hi1, hi2⟩ := hb
  refine xa_seq ?_
  refine xa_seq ?_
  refine xa_region ?_
  refine x_move rfl rfl ?_
  refine x_move rfl rfl ?_
  refine x_len_map rfl rfl ?_
  refine x_lss rfl rfl ?_
  refine xr_nil ⟨nofun, [(.t 0, _), (.t 3, _), (.t 7, _)], ⟨rfl, rfl, rfl, rfl, rfl, rfl, trivial⟩, ?_⟩
  refine xa_cond rfl (fun hc => ?_) (fun hc => ?_)
  · try simp only [decide_eq_true_eq, decide_eq_false_iff_not, Bool.not_eq_true', Bool.not_eq_false', bne_iff_ne, beq_iff_eq, ne_eq, Bool.not_true, Bool.not_false, beq_eq_false_iff_ne, bne_eq_false_iff_eq, Decidable.not_not, Int.not_lt, Int.not_le, Bool.and_eq_true, Bool.and_eq_false_iff, Bool.or_eq_true, Bool.or_eq_false_iff, List.length_map] at hc
    refine xa_skip ?_
    refine xa_seq ?_
    refine xa_block ?_
    refine xa_seq ?_
    refine xa_region ?_
    refine x_move rfl rfl ?_
    refine x_move rfl rfl ?_
    refine x_index_listN rfl rfl rfl (fun _ => rfl) (by omega) ?_
    refine x_load_iptV rfl rfl rfl ?_
    apply x_call rfl
    · apply pa_cons
      · exact pa_plain rfl
      apply pa_cons
      · exact pa_plain rfl
      apply pa_cons
      · exact pa_plain rfl
      exact pa_nil
    · exact s_inRange _ _ _
    · exact ⟨rfl, rfl, rfl, of_decide_eq_true rfl, rfl⟩
    · exact .inl rfl
    · exact back_nil
    · exact inst_plain rfl
    · exact fun _ => rfl
    intro g14
    refine x_not rfl ?_
    refine xr_nil ⟨nofun, [(.t 0, _), (.t 3, _), (.t 15, _)], ⟨rfl, rfl, rfl, rfl, rfl, rfl, trivial⟩, ?_⟩
    refine xa_cond rfl (fun hc => ?_) (fun hc => ?_)
    · try simp only [decide_eq_true_eq, decide_eq_false_iff_not, Bool.not_eq_true', Bool.not_eq_false', bne_iff_ne, beq_iff_eq, ne_eq, Bool.not_true, Bool.not_false, beq_eq_false_iff_ne, bne_eq_false_iff_eq, Decidable.not_not, Int.not_lt, Int.not_le, Bool.and_eq_true, Bool.and_eq_false_iff, Bool.or_eq_true, Bool.or_eq_false_iff, List.length_map] at hc
      refine xa_seq ?_
      refine xa_region ?_
      refine x_assign rfl rfl rfl ?_
      refine xr_nil ⟨nofun, [(.t 2, _)], ⟨rfl, rfl, trivial⟩, ?_⟩
      refine xa_ret ?_
      refine ret_val' rfl rfl trivial ?_
      exact congrArg bV (vo_bad (show i < xs.length by omega) (by omega)).symm
    · try simp only [decide_eq_true_eq, decide_eq_false_iff_not, Bool.not_eq_true', Bool.not_eq_false', bne_iff_ne, beq_iff_eq, ne_eq, Bool.not_true, Bool.not_false, beq_eq_false_iff_ne, bne_eq_false_iff_eq, Decidable.not_not, Int.not_lt, Int.not_le, Bool.and_eq_true, Bool.and_eq_false_iff, Bool.or_eq_true, Bool.or_eq_false_iff, List.length_map] at hc
      refine xa_skip ?_
      refine xa_region ?_
      refine x_move rfl rfl ?_
      refine x_add rfl rfl (inI64 (by omega)) ?_
      refine x_assign rfl rfl rfl ?_
      refine xr_nil ⟨nofun, [(.t 0, _), (.t 3, _)], ⟨rfl, rfl, rfl, rfl, trivial⟩, ?_⟩
      refine ⟨i + 1, ⟨by omega, fun a ha => by rcases Nat.lt_succ_iff_lt_or_eq.1 ha with h | h; exact hi2 a h; subst h; exact (by simpa using hc)⟩, (by omega), ⟨rfl, rfl, trivial⟩⟩
  · try simp only [decide_eq_true_eq, decide_eq_false_iff_not, Bool.not_eq_true', Bool.not_eq_false', bne_iff_ne, beq_iff_eq, ne_eq, Bool.not_true, Bool.not_false, beq_eq_false_iff_ne, bne_eq_false_iff_eq, Decidable.not_not, Int.not_lt, Int.not_le, Bool.and_eq_true, Bool.and_eq_false_iff, Bool.or_eq_true, Bool.or_eq_false_iff, List.length_map] at hc
    refine xa_exit ?_
    refine xa_seq ?_
    refine xa_region ?_
    refine x_move rfl rfl ?_
    refine x_len_map rfl rfl ?_
    apply x_call rfl
    · apply pa_cons
      · exact pa_plain rfl
      apply pa_cons
      · exact pa_plain rfl
      apply pa_cons
      · exact pa_plain rfl
      exact pa_nil
    · exact s_inRange _ _ _
    · exact ⟨rfl, rfl, rfl, of_decide_eq_true rfl, rfl⟩
    · exact .inl rfl
    · exact back_nil
    · exact inst_plain rfl
    · exact fun _ => rfl
    intro g18
    refine x_assign rfl rfl rfl ?_
    refine xr_nil ⟨nofun, [(.t 2, _)], ⟨rfl, rfl, trivial⟩, ?_⟩
    refine xa_ret ?_
    refine ret_val' rfl rfl trivial ?_
    exact congrArg bV (vo_good fun j hj => hi2 j (by omega)).symm

theorem keep_s_sortedS : keepOf Try.f74 = [0, 2, 4, 10, 5, 3, 27] := by kernel_rfl
set_option maxHeartbeats 20000000 in
theorem s_sortedS (xs : List Int) (hl : xs.length ≤ 1000) : CW cxT 74 [L xs] = some (.own 1 ((sortI xs).map iV), []) := by
  refine fn_intro rfl Try.func74 rfl ⟨by kernel_rfl, rfl, of_decide_eq_true rfl, of_decide_eq_true rfl, by decide⟩ keep_s_sortedS ?_
  refine xa_seq ?_
  refine xa_region ?_
  (refine x_assign_nil rfl rfl (fun _ => rfl) ?_; intro g2)
  refine xr_nil ⟨nofun, [(.t 0, _)], ⟨rfl, rfl, trivial⟩, ?_⟩
  refine xa_seq ?_
  refine xa_region ?_
  refine x_buildSlice (es := List.map iV []) rfl rfl (by decide) rfl rfl (fun _ => slot_obj (noRef_map fun _ => rfl)) (fun _ => rfl) ?_
  intro g6
  (refine x_assign_own rfl rfl (by (simp; done)) rfl (fun _ => (slot_obj (by exact noRef_map fun _ => rfl))) (fun _ => rfl) ?_; intro g3)
  refine xr_nil ⟨nofun, [(.t 0, _), (.t 3, _), (.h 3, _)], ⟨rfl, rfl, rfl, rfl, rfl, rfl, trivial⟩, ?_⟩
  refine xa_seq ?_
  refine xa_seq ?_
  refine xa_region ?_
  refine x_assign rfl rfl rfl ?_
  refine xr_nil ⟨nofun, [(.t 0, _), (.t 3, _), (.t 4, _), (.h 3, _)], ⟨rfl, rfl, rfl, rfl, rfl, rfl, rfl, rfl, trivial⟩, ?_⟩
  refine xa_block ?_
  refine xa_loopK (β := Nat × List Int × Nat) [(.t 0, _)] (fun (z : Nat × List Int × Nat) => match z with | (i, out, g) => [(.t 4, iV i), (.t 3, .sl 3 g none 0 out.length), (.h 3, .obj g 0 1 (out.map iV))]) (fun (z : Nat × List Int × Nat) => match z with | (i, out, g) => i ≤ xs.length ∧ out = sortI (xs.take i)) (fun (z : Nat × List Int × Nat) => match z with | (i, out, g) => xs.length - i) (0, [], _) ⟨rfl, rfl, rfl, rfl, trivial⟩ ⟨Nat.zero_le _, rfl⟩ ?_
  intro z hb
  obtain ⟨i, out, g⟩ := z
  try dsimp only at hb
  obtain ⟨hi1, hi2⟩ := hb
  have hol : out.length = i := by rw [hi2, sortI_length, List.length_take]; omega
  refine xa_seq ?_
  refine xa_seq ?_
  refine xa_region ?_
  refine x_move rfl rfl ?_
  refine x_move rfl rfl ?_
  refine x_len_map rfl rfl ?_
  refine x_lss rfl rfl ?_
  refine xr_nil ⟨nofun, [(.t 0, _), (.t 3, _), (.t 4, _), (.t 10, _), (.h 3, _)], ⟨rfl, rfl, rfl, rfl, rfl, rfl, rfl, rfl, rfl, rfl, trivial⟩, ?_⟩
  refine xa_cond rfl (fun hc => ?_) (fun hc => ?_)
  · try simp only [decide_eq_true_eq, decide_eq_false_iff_not, Bool.not_eq_true', Bool.not_eq_false', bne_iff_ne, beq_iff_eq, ne_eq, Bool.not_true, Bool.not_false, beq_eq_false_iff_ne, bne_eq_false_iff_eq, Decidable.not_not, Int.not_lt, Int.not_le, Bool.and_eq_true, Bool.and_eq_false_iff, Bool.or_eq_true, Bool.or_eq_false_iff, List.length_map] at hc
    refine xa_skip ?_
    refine xa_seq ?_
    refine xa_block ?_
    refine xa_seq ?_
    refine xa_region ?_
    refine x_assign rfl rfl rfl ?_
    refine xr_nil ⟨nofun, [(.t 0, _), (.t 3, _), (.t 4, _), (.t 5, _), (.h 3, _)], ⟨rfl, rfl, rfl, rfl, rfl, rfl, rfl, rfl, rfl, rfl, trivial⟩, ?_⟩
    refine xa_seq ?_
    refine xa_block ?_
    refine xa_loopK (β := Nat) [(.t 0, _), (.t 3, _), (.t 4, _), (.h 3, _)] (fun (k : Nat) => [(.t 5, iV k)]) (fun (k : Nat) => k ≤ out.length ∧ ∀ j, j < k → out.getD j default ≤ xs.getD i default) (fun (k : Nat) => out.length - k) 0 ⟨rfl, rfl, rfl, rfl, rfl, trivial⟩ ⟨Nat.zero_le _, fun j h => by omega⟩ ?_
    intro k hb
    obtain ⟨hk1, hk2⟩ := hb
    refine xa_seq ?_
    refine xa_seq ?_
    refine xa_region ?_
    refine x_move rfl rfl ?_
    refine x_move rfl rfl ?_
    refine x_len_sl rfl rfl ?_
    refine x_lss rfl rfl ?_
    refine x_move rfl rfl ?_
    refine x_guard_split rfl rfl (fun hg0 => ?_) (fun hg0 => ?_)
    · have hg := hg0; try simp only [decide_eq_true_eq, decide_eq_false_iff_not, Bool.not_eq_true', Bool.not_eq_false', bne_iff_ne, beq_iff_eq, ne_eq, Bool.not_true, Bool.not_false, beq_eq_false_iff_ne, bne_eq_false_iff_eq, Decidable.not_not, Int.not_lt, Int.not_le, Bool.and_eq_true, Bool.and_eq_false_iff, Bool.or_eq_true, Bool.or_eq_false_iff] at hg
      refine x_move rfl rfl ?_
      refine x_guard_t rfl rfl (by assumption) ?_
      refine x_move rfl rfl ?_
      refine x_guard_t rfl rfl (by assumption) ?_
      refine x_index_slN rfl rfl rfl rfl (by omega) (by (simp; done)) rfl ?_
      refine x_guard_t rfl rfl (by assumption) ?_
      refine x_load_mapV rfl rfl (by omega) (fun _ => rfl) (fun _ => rfl) rfl ?_
      refine x_guard_t rfl rfl (by assumption) ?_
      refine x_move rfl rfl ?_
      refine x_guard_t rfl rfl (by assumption) ?_
      refine x_move rfl rfl ?_
      refine x_guard_t rfl rfl (by assumption) ?_
      refine x_index_listN rfl rfl rfl (fun _ => rfl) (by omega) ?_
      refine x_guard_t rfl rfl (by assumption) ?_
      refine x_load_iptV rfl rfl rfl ?_
      refine x_guard_t rfl rfl (by assumption) ?_
      refine x_leq rfl rfl ?_
      refine x_pick_t rfl (by assumption) rfl rfl ?_
      refine xr_nil ⟨fun _ => ⟨by decide +kernel, by decide +kernel⟩, [(.t 0, _), (.t 3, _), (.t 4, _), (.t 5, _), (.t 27, _), (.h 3, _)], ⟨rfl, rfl, rfl, rfl, rfl, rfl, rfl, rfl, rfl, rfl, rfl, rfl, trivial⟩, ?_⟩
      refine xa_cond rfl (fun hc => ?_) (fun hc => ?_)
      · try simp only [decide_eq_true_eq, decide_eq_false_iff_not, Bool.not_eq_true', Bool.not_eq_false', bne_iff_ne, beq_iff_eq, ne_eq, Bool.not_true, Bool.not_false, beq_eq_false_iff_ne, bne_eq_false_iff_eq, Decidable.not_not, Int.not_lt, Int.not_le, Bool.and_eq_true, Bool.and_eq_false_iff, Bool.or_eq_true, Bool.or_eq_false_iff, List.length_map] at hc
        refine xa_skip ?_
        refine xa_block ?_
        refine xa_region ?_
        refine x_move rfl rfl ?_
        refine x_add rfl rfl (inI64 (by omega)) ?_
        refine x_assign rfl rfl rfl ?_
        refine xr_nil ⟨nofun, [(.t 0, _), (.t 3, _), (.t 4, _), (.t 5, _), (.h 3, _)], ⟨rfl, rfl, rfl, rfl, rfl, rfl, rfl, rfl, rfl, rfl, trivial⟩, ?_⟩
        refine ⟨k + 1, ⟨by omega, fun a ha => by rcases Nat.lt_succ_iff_lt_or_eq.1 ha with h | h; exact hk2 a h; subst h; exact hc⟩, (by omega), ⟨rfl, rfl, rfl, rfl, rfl, trivial⟩⟩
      · try simp only [decide_eq_true_eq, decide_eq_false_iff_not, Bool.not_eq_true', Bool.not_eq_false', bne_iff_ne, beq_iff_eq, ne_eq, Bool.not_true, Bool.not_false, beq_eq_false_iff_ne, bne_eq_false_iff_eq, Decidable.not_not, Int.not_lt, Int.not_le, Bool.and_eq_true, Bool.and_eq_false_iff, Bool.or_eq_true, Bool.or_eq_false_iff, List.length_map] at hc
        refine xa_exit ?_
        refine xa_region ?_
        refine x_buildSlice (es := List.map iV []) rfl rfl (by decide) rfl rfl (fun _ => slot_obj (noRef_map fun _ => rfl)) (fun _ => rfl) ?_
        intro g30
        refine x_move rfl rfl ?_
        refine x_move rfl rfl ?_
        refine x_slice_sl rfl rfl rfl (optNat_someN rfl) (by omega) rfl ?_
        refine x_append_rdM rfl rfl rfl rfl (by decide) rfl (by simp) (by omega) rfl rfl rfl (by decide) (fun _ => ⟨rfl, rfl, rfl⟩) (by simp only [maxL]; (simp only [List.length_nil, List.length_cons, List.length_append, Nat.zero_add, List.length_map]; omega)) (fun _ => rfl) ?_
        intro g34
        refine x_move rfl rfl ?_
        refine x_move rfl rfl ?_
        refine x_index_listN rfl rfl rfl (fun _ => rfl) (by omega) ?_
        refine x_load_iptV rfl rfl rfl ?_
        refine x_buildSlice (es := List.map iV [_]) rfl rfl (by decide) rfl rfl (fun _ => slot_obj (noRef_map fun _ => rfl)) (fun _ => rfl) ?_
        intro g39
        refine x_append_map rfl rfl rfl rfl (by simp) (by simp) (by decide) rfl rfl rfl rfl (by decide) (fun _ => ⟨rfl, rfl⟩) (by simp only [maxL]; (simp; omega)) (fun _ => rfl) ?_
        intro g40
        refine x_move rfl rfl ?_
        refine x_move rfl rfl ?_
        refine x_slice_slx rfl rfl rfl optNat_none (optNat_someN rfl) (by omega) rfl ?_
        refine x_append_rdM rfl rfl rfl rfl (by decide) rfl (by simp) (by omega) rfl rfl rfl (by decide) (fun _ => ⟨rfl, rfl, rfl⟩) (by simp only [maxL]; (simp; omega)) (fun _ => rfl) ?_
        intro g44
        (refine x_assign_own rfl rfl (by (simp; done)) rfl (fun _ => (slot_obj (by exact noRef_map fun _ => rfl))) (fun _ => rfl) ?_; intro g3)
        refine xr_nil ⟨fun _ => ⟨by decide +kernel, by decide +kernel⟩, [(.t 0, _), (.t 3, _), (.t 4, _), (.h 3, _)], ⟨rfl, rfl, rfl, rfl, rfl, rfl, rfl, rfl, trivial⟩, ?_⟩
        refine xa_region ?_
        refine x_move rfl rfl ?_
        refine x_add rfl rfl (inI64 (by omega)) ?_
        refine x_assign rfl rfl rfl ?_
        refine xr_nil ⟨nofun, [(.t 0, _), (.t 3, _), (.t 4, _), (.h 3, _)], ⟨rfl, rfl, rfl, rfl, rfl, rfl, rfl, rfl, trivial⟩, ?_⟩
        refine ⟨(i + 1, _, _), ?_, (by simp only; omega), ⟨rfl, rfl, rfl, rfl, trivial⟩⟩
        exact ⟨by omega, by rw [sortI_take (by omega), ← hi2]; exact insert_step (hi2 ▸ sortI_sorted _) hk1 hk2 fun h => by omega⟩
    · have hg := hg0; try simp only [decide_eq_true_eq, decide_eq_false_iff_not, Bool.not_eq_true', Bool.not_eq_false', bne_iff_ne, beq_iff_eq, ne_eq, Bool.not_true, Bool.not_false, beq_eq_false_iff_ne, bne_eq_false_iff_eq, Decidable.not_not, Int.not_lt, Int.not_le, Bool.and_eq_true, Bool.and_eq_false_iff, Bool.or_eq_true, Bool.or_eq_false_iff] at hg
      refine x_guard_f rfl rfl (by assumption) ?_
      refine x_guard_f rfl rfl (by assumption) ?_
      refine x_guard_f rfl rfl (by assumption) ?_
      refine x_guard_f rfl rfl (by assumption) ?_
      refine x_guard_f rfl rfl (by assumption) ?_
      refine x_guard_f rfl rfl (by assumption) ?_
      refine x_guard_f rfl rfl (by assumption) ?_
      refine x_guard_f rfl rfl (by assumption) ?_
      refine x_pick_f rfl (by assumption) rfl rfl ?_
      refine xr_nil ⟨fun _ => ⟨by decide +kernel, by decide +kernel⟩, [(.t 0, _), (.t 3, _), (.t 4, _), (.t 5, _), (.t 27, _), (.h 3, _)], ⟨rfl, rfl, rfl, rfl, rfl, rfl, rfl, rfl, rfl, rfl, rfl, rfl, trivial⟩, ?_⟩
      refine xa_cond rfl (fun hc => absurd hc (by decide)) (fun hc => ?_)
      refine xa_exit ?_
      refine xa_region ?_
      refine x_buildSlice (es := List.map iV []) rfl rfl (by decide) rfl rfl (fun _ => slot_obj (noRef_map fun _ => rfl)) (fun _ => rfl) ?_
      intro g30
      refine x_move rfl rfl ?_
      refine x_move rfl rfl ?_
      refine x_slice_sl rfl rfl rfl (optNat_someN rfl) (by omega) rfl ?_
      refine x_append_rdM rfl rfl rfl rfl (by decide) rfl (by simp) (by omega) rfl rfl rfl (by decide) (fun _ => ⟨rfl, rfl, rfl⟩) (by simp only [maxL]; (simp only [List.length_nil, List.length_cons, List.length_append, Nat.zero_add, List.length_map]; omega)) (fun _ => rfl) ?_
      intro g34
      refine x_move rfl rfl ?_
      refine x_move rfl rfl ?_
      refine x_index_listN rfl rfl rfl (fun _ => rfl) (by omega) ?_
      refine x_load_iptV rfl rfl rfl ?_
      refine x_buildSlice (es := List.map iV [_]) rfl rfl (by decide) rfl rfl (fun _ => slot_obj (noRef_map fun _ => rfl)) (fun _ => rfl) ?_
      intro g39
      refine x_append_map rfl rfl rfl rfl (by simp) (by simp) (by decide) rfl rfl rfl rfl (by decide) (fun _ => ⟨rfl, rfl⟩) (by simp only [maxL]; (simp; omega)) (fun _ => rfl) ?_
      intro g40
      refine x_move rfl rfl ?_
      refine x_move rfl rfl ?_
      refine x_slice_slx rfl rfl rfl optNat_none (optNat_someN rfl) (by omega) rfl ?_
      refine x_append_rdM rfl rfl rfl rfl (by decide) rfl (by simp) (by omega) rfl rfl rfl (by decide) (fun _ => ⟨rfl, rfl, rfl⟩) (by simp only [maxL]; (simp; omega)) (fun _ => rfl) ?_
      intro g44
      (refine x_assign_own rfl rfl (by (simp; done)) rfl (fun _ => (slot_obj (by exact noRef_map fun _ => rfl))) (fun _ => rfl) ?_; intro g3)
      refine xr_nil ⟨fun _ => ⟨by decide +kernel, by decide +kernel⟩, [(.t 0, _), (.t 3, _), (.t 4, _), (.h 3, _)], ⟨rfl, rfl, rfl, rfl, rfl, rfl, rfl, rfl, trivial⟩, ?_⟩
      refine xa_region ?_
      refine x_move rfl rfl ?_
      refine x_add rfl rfl (inI64 (by omega)) ?_
      refine x_assign rfl rfl rfl ?_
      refine xr_nil ⟨nofun, [(.t 0, _), (.t 3, _), (.t 4, _), (.h 3, _)], ⟨rfl, rfl, rfl, rfl, rfl, rfl, rfl, rfl, trivial⟩, ?_⟩
      refine ⟨(i + 1, _, _), ?_, (by simp only; omega), ⟨rfl, rfl, rfl, rfl, trivial⟩⟩
      exact ⟨by omega, by rw [sortI_take (by omega), ← hi2]; exact insert_step (hi2 ▸ sortI_sorted _) hk1 hk2 fun h => by omega⟩
  · try simp only [decide_eq_true_eq, decide_eq_false_iff_not, Bool.not_eq_true', Bool.not_eq_false', bne_iff_ne, beq_iff_eq, ne_eq, Bool.not_true, Bool.not_false, beq_eq_false_iff_ne, bne_eq_false_iff_eq, Decidable.not_not, Int.not_lt, Int.not_le, Bool.and_eq_true, Bool.and_eq_false_iff, Bool.or_eq_true, Bool.or_eq_false_iff, List.length_map] at hc
    refine xa_exit ?_
    refine xa_seq ?_
    refine xa_region ?_
    refine x_move rfl rfl ?_
    (refine x_assign_own rfl rfl (by (simp; done)) rfl (fun _ => (slot_obj (by exact noRef_map fun _ => rfl))) (fun _ => rfl) ?_; intro g2)
    refine xr_nil ⟨nofun, [(.t 2, _), (.h 2, _)], ⟨rfl, rfl, rfl, rfl, trivial⟩, ?_⟩
    refine xa_ret ?_
    refine ret_own' rfl rfl (by simp) (by exact noRef_map fun _ => rfl) trivial ?_
    rw [hi2, List.take_of_length_le (by omega)]

theorem keep_s_foundSet : keepOf Try.f45 = [0, 1, 2, 6, 13, 7, 24, 23, 25, 22, 8, 9, 37] := by kernel_rfl
set_option maxHeartbeats 20000000 in
theorem s_foundSet (xs : List Int) (hl : xs.length ≤ 6) (hb : ∀ x ∈ xs, 0 ≤ x ∧ x ≤ 1000) (hp : 0 < xs.length) (lev : Int) (hlev : 0 ≤ lev ∧ lev ≤ 1000) (e : Bool) : CW cxT 45 [L xs, iV lev, sV (kO (some e))] = some (bV (fnd e (sortI xs) lev), []) := by
  have hsb := sorted_bound hb
  have hsl := sortI_length xs
  refine fn_intro rfl Try.func45 rfl ⟨by kernel_rfl, rfl, of_decide_eq_true rfl, of_decide_eq_true rfl, by decide⟩ keep_s_foundSet ?_
  refine xa_seq ?_
  refine xa_region ?_
  refine x_assign rfl rfl rfl ?_
  refine xr_nil ⟨nofun, [(.t 0, _), (.t 1, _), (.t 2, _)], ⟨rfl, rfl, rfl, rfl, rfl, rfl, trivial⟩, ?_⟩
  refine xa_seq ?_
  refine xa_region ?_
  refine x_move rfl rfl ?_
  apply x_call rfl
  · apply pa_cons
    · exact pa_plain rfl
    exact pa_nil
  · exact s_sorted xs (by simp only [maxL]; omega)
  · exact ⟨rfl, rfl, rfl, of_decide_eq_true rfl, rfl⟩
  · exact .inl rfl
  · exact back_nil
  · exact inst_own
  · exact fun _ => rfl
  intro g11
  simp only [List.length_map]
  (refine x_assign_own rfl rfl (by (simp; done)) rfl (fun _ => (slot_obj (by exact noRef_map fun _ => rfl))) (fun _ => rfl) ?_; intro g7)
  refine xr_nil ⟨nofun, [(.t 1, _), (.t 2, _), (.t 7, _), (.h 7, _)], ⟨rfl, rfl, rfl, rfl, rfl, rfl, rfl, rfl, trivial⟩, ?_⟩
  refine xa_seq ?_
  refine xa_seq ?_
  refine xa_region ?_
  refine x_move rfl rfl ?_
  refine x_seqV (t := !e) rfl rfl (by cases e <;> decide +kernel) ?_
  refine xr_nil ⟨nofun, [(.t 1, _), (.t 7, _), (.t 13, _), (.h 7, _)], ⟨rfl, rfl, rfl, rfl, rfl, rfl, rfl, rfl, trivial⟩, ?_⟩
  refine xa_cond rfl (fun hc => ?_) (fun hc => ?_)
  · try simp only [decide_eq_true_eq, decide_eq_false_iff_not, Bool.not_eq_true', Bool.not_eq_false', bne_iff_ne, beq_iff_eq, ne_eq, Bool.not_true, Bool.not_false, beq_eq_false_iff_ne, bne_eq_false_iff_eq, Decidable.not_not, Int.not_lt, Int.not_le, Bool.and_eq_true, Bool.and_eq_false_iff, Bool.or_eq_true, Bool.or_eq_false_iff, List.length_map] at hc
    subst hc
    refine xa_seq ?_
    refine xa_region ?_
    refine x_move rfl rfl ?_
    refine x_index_slN rfl rfl rfl rfl (by (change 0 < _; omega)) (by (simp; done)) rfl ?_
    refine x_load_mapV rfl rfl (by (change 0 < _; omega)) (fun _ => rfl) (fun _ => rfl) rfl ?_
    refine x_move rfl rfl ?_
    refine x_len_sl rfl rfl ?_
    have hb0 := hsb 0 (by omega)
    have hm := mul_bound hb0 (show ((sortI xs).length : Int) ≤ 6 by omega) (by omega)
    refine x_mul rfl rfl (inI64 ⟨Int.le_trans (by decide) hm.1, Int.le_trans hm.2 (by decide)⟩) ?_
    refine x_move rfl rfl ?_
    refine x_leq rfl rfl ?_
    refine x_assign rfl rfl rfl ?_
    refine xr_nil ⟨nofun, [(.t 6, _)], ⟨rfl, rfl, trivial⟩, ?_⟩
    refine xa_ret ?_
    refine ret_val' rfl rfl trivial ?_
    exact congrArg bV (fnd_least hp).symm
  · try simp only [decide_eq_true_eq, decide_eq_false_iff_not, Bool.not_eq_true', Bool.not_eq_false', bne_iff_ne, beq_iff_eq, ne_eq, Bool.not_true, Bool.not_false, beq_eq_false_iff_ne, bne_eq_false_iff_eq, Decidable.not_not, Int.not_lt, Int.not_le, Bool.and_eq_true, Bool.and_eq_false_iff, Bool.or_eq_true, Bool.or_eq_false_iff, List.length_map] at hc
    subst hc
    refine xa_skip ?_
    refine xa_seq ?_
    refine xa_seq ?_
    refine xa_region ?_
    refine x_move rfl rfl ?_
    refine x_len_sl rfl rfl ?_
    refine x_move rfl rfl ?_
    refine xr_nil ⟨nofun, [(.t 1, _), (.t 7, _), (.t 22, _), (.t 23, _), (.t 24, _), (.h 7, _)], ⟨rfl, rfl, rfl, rfl, rfl, rfl, rfl, rfl, rfl, rfl, rfl, rfl, trivial⟩, ?_⟩
    refine xa_block ?_
    refine xa_loopK (β := Nat) [(.t 1, _), (.t 7, _), (.t 22, _), (.t 23, _), (.h 7, _)] (fun (i : Nat) => [(.t 24, iV i)]) (fun (i : Nat) => i ≤ xs.length ∧ ∀ j, j < i → ¬ ((sortI xs).getD j default * ((sortI xs).length : Int) ≤ ((j : Int) + 1) * lev)) (fun (i : Nat) => xs.length - i) 0 ⟨rfl, rfl, rfl, rfl, rfl, rfl, trivial⟩ ⟨Nat.zero_le _, fun j h => by omega⟩ ?_
    intro i hb
    obtain ⟨hi1, hi2⟩ := hb
    refine xa_seq ?_
    refine xa_region ?_
    refine x_lss rfl rfl ?_
    refine xr_nil ⟨nofun, [(.t 1, _), (.t 7, _), (.t 22, _), (.t 23, _), (.t 24, _), (.t 25, _), (.h 7, _)], ⟨rfl, rfl, rfl, rfl, rfl, rfl, rfl, rfl, rfl, rfl, rfl, rfl, rfl, rfl, trivial⟩, ?_⟩
    refine xa_seq ?_
    refine xa_cond rfl (fun hc => ?_) (fun hc => ?_)
    · try simp only [decide_eq_true_eq, decide_eq_false_iff_not, Bool.not_eq_true', Bool.not_eq_false', bne_iff_ne, beq_iff_eq, ne_eq, Bool.not_true, Bool.not_false, beq_eq_false_iff_ne, bne_eq_false_iff_eq, Decidable.not_not, Int.not_lt, Int.not_le, Bool.and_eq_true, Bool.and_eq_false_iff, Bool.or_eq_true, Bool.or_eq_false_iff, List.length_map] at hc
      refine xa_skip ?_
      refine xa_seq ?_
      refine xa_block ?_
      refine xa_seq ?_
      refine xa_region ?_
      refine x_move rfl rfl ?_
      refine x_index_slN rfl rfl rfl rfl (by omega) (by (simp; done)) rfl ?_
      refine x_load_mapV rfl rfl (by omega) (fun _ => rfl) (fun _ => rfl) rfl ?_
      refine x_assign rfl rfl rfl ?_
      refine x_assign rfl rfl rfl ?_
      refine xr_nil ⟨nofun, [(.t 1, _), (.t 7, _), (.t 8, _), (.t 9, _), (.t 22, _), (.t 23, _), (.t 24, _), (.h 7, _)], ⟨rfl, rfl, rfl, rfl, rfl, rfl, rfl, rfl, rfl, rfl, rfl, rfl, rfl, rfl, rfl, rfl, trivial⟩, ?_⟩
      refine xa_seq ?_
      refine xa_region ?_
      refine x_move rfl rfl ?_
      refine x_move rfl rfl ?_
      refine x_len_sl rfl rfl ?_
      have hb0 := hsb i (by omega)
      have hm := mul_bound hb0 (show ((sortI xs).length : Int) ≤ 6 by omega) (by omega)
      have hm2 := mul_bound hlev (show ((i : Int) + 1) ≤ 6 by omega) (by omega)
      rw [Int.mul_comm] at hm2
      refine x_mul rfl rfl (inI64 (by omega)) ?_
      refine x_move rfl rfl ?_
      refine x_add rfl rfl (inI64 (by omega)) ?_
      refine x_move rfl rfl ?_
      refine x_mul rfl rfl (inI64 (by omega)) ?_
      refine x_leq rfl rfl ?_
      refine xr_nil ⟨nofun, [(.t 1, _), (.t 7, _), (.t 22, _), (.t 23, _), (.t 24, _), (.t 37, _), (.h 7, _)], ⟨rfl, rfl, rfl, rfl, rfl, rfl, rfl, rfl, rfl, rfl, rfl, rfl, rfl, rfl, trivial⟩, ?_⟩
      refine xa_cond rfl (fun hc => ?_) (fun hc => ?_)
      · try simp only [decide_eq_true_eq, decide_eq_false_iff_not, Bool.not_eq_true', Bool.not_eq_false', bne_iff_ne, beq_iff_eq, ne_eq, Bool.not_true, Bool.not_false, beq_eq_false_iff_ne, bne_eq_false_iff_eq, Decidable.not_not, Int.not_lt, Int.not_le, Bool.and_eq_true, Bool.and_eq_false_iff, Bool.or_eq_true, Bool.or_eq_false_iff, List.length_map] at hc
        refine xa_seq ?_
        refine xa_region ?_
        refine x_assign rfl rfl rfl ?_
        refine xr_nil ⟨nofun, [(.t 6, _)], ⟨rfl, rfl, trivial⟩, ?_⟩
        refine xa_ret ?_
        refine ret_val' rfl rfl trivial ?_
        exact congrArg bV (fnd_t ⟨i, by omega, by simp only [if_true]; exact hc⟩).symm
      · try simp only [decide_eq_true_eq, decide_eq_false_iff_not, Bool.not_eq_true', Bool.not_eq_false', bne_iff_ne, beq_iff_eq, ne_eq, Bool.not_true, Bool.not_false, beq_eq_false_iff_ne, bne_eq_false_iff_eq, Decidable.not_not, Int.not_lt, Int.not_le, Bool.and_eq_true, Bool.and_eq_false_iff, Bool.or_eq_true, Bool.or_eq_false_iff, List.length_map] at hc
        refine xa_skip ?_
        refine xa_region ?_
        refine x_add rfl rfl (inI64 (by omega)) ?_
        refine x_move rfl rfl ?_
        refine xr_nil ⟨nofun, [(.t 1, _), (.t 7, _), (.t 22, _), (.t 23, _), (.t 24, _), (.h 7, _)], ⟨rfl, rfl, rfl, rfl, rfl, rfl, rfl, rfl, rfl, rfl, rfl, rfl, trivial⟩, ?_⟩
        refine ⟨i + 1, ⟨by omega, fun a ha => by rcases Nat.lt_succ_iff_lt_or_eq.1 ha with h | h; exact hi2 a h; subst h; exact (by omega)⟩, (by omega), ⟨rfl, rfl, rfl, rfl, rfl, rfl, trivial⟩⟩
    · try simp only [decide_eq_true_eq, decide_eq_false_iff_not, Bool.not_eq_true', Bool.not_eq_false', bne_iff_ne, beq_iff_eq, ne_eq, Bool.not_true, Bool.not_false, beq_eq_false_iff_ne, bne_eq_false_iff_eq, Decidable.not_not, Int.not_lt, Int.not_le, Bool.and_eq_true, Bool.and_eq_false_iff, Bool.or_eq_true, Bool.or_eq_false_iff, List.length_map] at hc
      refine xa_exit ?_
      refine xa_seq ?_
      refine xa_region ?_
      refine x_assign rfl rfl rfl ?_
      refine xr_nil ⟨nofun, [(.t 6, _)], ⟨rfl, rfl, trivial⟩, ?_⟩
      refine xa_ret ?_
      refine ret_val' rfl rfl trivial ?_
      exact congrArg bV (fnd_f fun ⟨j, hj, h⟩ => hi2 j (by omega) (by simpa using h)).symm

theorem keep_s_ClipI : keepOf Try.f46 = [0, 2] := by kernel_rfl
set_option maxHeartbeats 20000000 in
theorem s_ClipI (xs : List Int) (hx : xs.length ≤ maxL) : CW cxT 46 [.own 1 (xs.map iV)] = some (.own 1 (xs.map iV), []) := by
  refine fn_intro rfl Try.func46 rfl ⟨by kernel_rfl, rfl, of_decide_eq_true rfl, of_decide_eq_true rfl, by decide⟩ keep_s_ClipI ?_
  refine xa_seq ?_
  refine xa_region ?_
  (refine x_assign_nil rfl rfl (fun _ => rfl) ?_; intro g2)
  refine xr_nil ⟨nofun, [(.t 0, _), (.h 0, _)], ⟨rfl, rfl, rfl, rfl, trivial⟩, ?_⟩
  refine xa_seq ?_
  refine xa_region ?_
  refine x_move rfl rfl ?_
  refine x_move rfl rfl ?_
  refine x_len_sl rfl rfl ?_
  refine x_move rfl rfl ?_
  refine x_len_sl rfl rfl ?_
  refine x_clip rfl rfl rfl rfl rfl rfl (fun hz => ?_) (fun hz => ?_)
  · skip
    (refine x_assign_nil rfl rfl (fun _ => rfl) ?_; intro g2)
    refine xr_nil ⟨nofun, [(.t 2, _), (.h 0, _), (.h 2, _)], ⟨rfl, rfl, rfl, rfl, rfl, rfl, trivial⟩, ?_⟩
    refine xa_ret ?_
    refine ret_own' rfl rfl (by (simp; done)) (by rfl) trivial ?_
    (have h0 : xs = [] := (by simpa using hz); subst h0; rfl)
  · skip
    (refine x_assign_own rfl rfl (by (simp; done)) rfl (fun _ => (slot_obj (by exact noRef_map fun _ => rfl))) (fun _ => rfl) ?_; intro g2)
    refine xr_nil ⟨nofun, [(.t 2, _), (.h 0, _), (.h 2, _)], ⟨rfl, rfl, rfl, rfl, rfl, rfl, trivial⟩, ?_⟩
    refine xa_ret ?_
    refine ret_own' rfl rfl (by (simp; done)) (by exact noRef_map fun _ => rfl) trivial ?_
    rfl

theorem keep_s_closedI : keepOf Try.f17 = [0, 1, 2, 6, 29, 8, 34, 39, 38, 40, 37, 10, 48, 11, 9, 58, 7, 64, 63, 65, 13, 71, 12] := by kernel_rfl
set_option maxHeartbeats 20000000 in
theorem s_closedI (l : List Int) (hl : l.length ≤ 1000) (lev : Int) (o : Option Bool) : CW cxT 17 [L l, iV lev, sV (kO o)] = some (.own 1 ((cbR l lev o).map iV), []) := by
  refine fn_intro rfl Try.func17 rfl ⟨by kernel_rfl, rfl, of_decide_eq_true rfl, of_decide_eq_true rfl, by decide⟩ keep_s_closedI ?_
  refine xa_seq ?_
  refine xa_region ?_
  (refine x_assign_nil rfl rfl (fun _ => rfl) ?_; intro g6)
  refine xr_nil ⟨nofun, [(.t 0, _), (.t 1, _), (.t 2, _)], ⟨rfl, rfl, rfl, rfl, rfl, rfl, trivial⟩, ?_⟩
  refine xa_seq ?_
  refine xa_seq ?_
  refine xa_region ?_
  refine x_move rfl rfl ?_
  apply x_call rfl
  · apply pa_cons
    · exact pa_plain rfl
    exact pa_nil
  · exact s_voI l hl
  · exact ⟨rfl, rfl, rfl, of_decide_eq_true rfl, rfl⟩
  · exact .inl rfl
  · exact back_nil
  · exact inst_plain rfl
  · exact fun _ => rfl
  intro g15
  refine x_not rfl ?_
  refine x_move rfl rfl ?_
  refine x_guard_split rfl rfl (fun hg0 => ?_) (fun hg0 => ?_)
  · have hg := hg0; try simp only [decide_eq_true_eq, decide_eq_false_iff_not, Bool.not_eq_true', Bool.not_eq_false', bne_iff_ne, beq_iff_eq, ne_eq, Bool.not_true, Bool.not_false, beq_eq_false_iff_ne, bne_eq_false_iff_eq, Decidable.not_not, Int.not_lt, Int.not_le, Bool.and_eq_true, Bool.and_eq_false_iff, Bool.or_eq_true, Bool.or_eq_false_iff] at hg
    refine x_move rfl rfl ?_
    refine x_guard_t rfl rfl (by assumption) ?_
    apply x_call rfl
    · apply pa_cons
      · exact pa_plain rfl
      apply pa_cons
      · exact pa_plain rfl
      apply pa_cons
      · exact pa_plain rfl
      exact pa_nil
    · exact s_in _ _ _
    · exact ⟨rfl, rfl, rfl, of_decide_eq_true rfl, rfl⟩
    · exact .inl rfl
    · exact back_nil
    · exact inst_plain rfl
    · exact fun _ => rfl
    intro g19
    refine x_guard_t rfl rfl (by assumption) ?_
    refine x_not rfl ?_
    refine x_pick_f rfl (by assumption) rfl rfl ?_
    refine x_move rfl rfl ?_
    refine x_guard_split rfl rfl (fun hg0 => ?_) (fun hg0 => ?_)
    · have hg := hg0; try simp only [decide_eq_true_eq, decide_eq_false_iff_not, Bool.not_eq_true', Bool.not_eq_false', bne_iff_ne, beq_iff_eq, ne_eq, Bool.not_true, Bool.not_false, beq_eq_false_iff_ne, bne_eq_false_iff_eq, Decidable.not_not, Int.not_lt, Int.not_le, Bool.and_eq_true, Bool.and_eq_false_iff, Bool.or_eq_true, Bool.or_eq_false_iff] at hg
      refine x_move rfl rfl ?_
      refine x_guard_t rfl rfl (by assumption) ?_
      refine x_sneV (t := !(o == some false)) rfl rfl (by rcases o with _ | _ | _ <;> decide +kernel) ?_
      refine x_guard_t rfl rfl (by assumption) ?_
      refine x_move rfl rfl ?_
      refine x_guard_split rfl rfl (fun hg0 => ?_) (fun hg0 => ?_)
      · have hg := hg0; try simp only [decide_eq_true_eq, decide_eq_false_iff_not, Bool.not_eq_true', Bool.not_eq_false', bne_iff_ne, beq_iff_eq, ne_eq, Bool.not_true, Bool.not_false, beq_eq_false_iff_ne, bne_eq_false_iff_eq, Decidable.not_not, Int.not_lt, Int.not_le, Bool.and_eq_true, Bool.and_eq_false_iff, Bool.or_eq_true, Bool.or_eq_false_iff] at hg
        refine x_move rfl rfl ?_
        refine x_guard_t rfl rfl (by assumption) ?_
        refine x_sneV (t := !(o == some true)) rfl rfl (by rcases o with _ | _ | _ <;> decide +kernel) ?_
        refine x_guard_t rfl rfl (by assumption) ?_
        refine x_pick_t rfl (by assumption) rfl rfl ?_
        refine x_pick_f rfl (by assumption) rfl rfl ?_
        refine xr_nil ⟨nofun, [(.t 0, _), (.t 1, _), (.t 2, _), (.t 29, _)], ⟨rfl, rfl, rfl, rfl, rfl, rfl, rfl, rfl, trivial⟩, ?_⟩
        refine xa_cond rfl (fun hc => ?_) (fun hc => ?_)
        · try simp only [decide_eq_true_eq, decide_eq_false_iff_not, Bool.not_eq_true', Bool.not_eq_false', bne_iff_ne, beq_iff_eq, ne_eq, Bool.not_true, Bool.not_false, beq_eq_false_iff_ne, bne_eq_false_iff_eq, Decidable.not_not, Int.not_lt, Int.not_le, Bool.and_eq_true, Bool.and_eq_false_iff, Bool.or_eq_true, Bool.or_eq_false_iff, List.length_map] at hc
          refine xa_seq ?_
          refine xa_region ?_
          (refine x_assign_nil rfl rfl (fun _ => rfl) ?_; intro g6)
          refine xr_nil ⟨nofun, [(.t 6, _), (.h 6, _)], ⟨rfl, rfl, rfl, rfl, trivial⟩, ?_⟩
          refine xa_ret ?_
          refine ret_own' rfl rfl (by simp) (by rfl) trivial ?_
          rw [cbR_none (by rintro ⟨h1, h2, h3⟩; (simp_all; done))]
          rfl
        · try simp only [decide_eq_true_eq, decide_eq_false_iff_not, Bool.not_eq_true', Bool.not_eq_false', bne_iff_ne, beq_iff_eq, ne_eq, Bool.not_true, Bool.not_false, beq_eq_false_iff_ne, bne_eq_false_iff_eq, Decidable.not_not, Int.not_lt, Int.not_le, Bool.and_eq_true, Bool.and_eq_false_iff, Bool.or_eq_true, Bool.or_eq_false_iff, List.length_map] at hc
          refine xa_skip ?_
          refine xa_seq ?_
          refine xa_region ?_
          refine x_assign rfl rfl rfl ?_
          refine xr_nil ⟨nofun, [(.t 0, _), (.t 1, _), (.t 2, _), (.t 7, _)], ⟨rfl, rfl, rfl, rfl, rfl, rfl, rfl, rfl, trivial⟩, ?_⟩
          refine xa_seq ?_
          refine xa_seq ?_
          refine xa_region ?_
          refine x_assign rfl rfl rfl ?_
          refine xr_nil ⟨nofun, [(.t 0, _), (.t 1, _), (.t 2, _), (.t 7, _), (.t 8, _)], ⟨rfl, rfl, rfl, rfl, rfl, rfl, rfl, rfl, rfl, rfl, trivial⟩, ?_⟩
          refine xa_block ?_
          obtain ⟨e, rfl, hvo, hlev⟩ := closed_in (l := l) (lev := lev) (o := o) (by simp_all) (by simp_all) (by simp_all)
          have hv := vo_iff.1 hvo
          have hn6 := hv.2.1
          have hn1 := hv.1
          have hall := fun x (hx : x ∈ l) => allB_mem hv.2.2 hx
          have hp6 := pow6 hn6
          refine xa_loopK (β := Nat × Nat) [(.t 0, _), (.t 1, _), (.t 2, _)] (fun (z : Nat × Nat) => match z with | (s, mi) => [(.t 8, iV s), (.t 7, iV mi)]) (fun (z : Nat × Nat) => match z with | (s, mi) => Mis l lev e s mi) (fun (z : Nat × Nat) => match z with | (s, mi) => 2 ^ l.length - s) (1, 0) ⟨rfl, rfl, rfl, rfl, rfl, trivial⟩ (Mis.start _ _ _) ?_
          intro z hb
          obtain ⟨s, mi⟩ := z
          try dsimp only at hb
          have hmi := hb
          have hm2 := hmi.2.1
          have hm3 := hmi.2.2.1
          refine xa_seq ?_
          refine xa_seq ?_
          refine xa_region ?_
          refine x_move rfl rfl ?_
          refine x_move rfl rfl ?_
          refine x_len_map rfl rfl ?_
          refine x_shlN (x := 1) rfl rfl (by omega) ?_
          refine x_lss rfl rfl ?_
          refine xr_nil ⟨nofun, [(.t 0, _), (.t 1, _), (.t 2, _), (.t 7, _), (.t 8, _), (.t 34, _)], ⟨rfl, rfl, rfl, rfl, rfl, rfl, rfl, rfl, rfl, rfl, rfl, rfl, trivial⟩, ?_⟩
          refine xa_cond rfl (fun hc => ?_) (fun hc => ?_)
          · try simp only [decide_eq_true_eq, decide_eq_false_iff_not, Bool.not_eq_true', Bool.not_eq_false', bne_iff_ne, beq_iff_eq, ne_eq, Bool.not_true, Bool.not_false, beq_eq_false_iff_ne, bne_eq_false_iff_eq, Decidable.not_not, Int.not_lt, Int.not_le, Bool.and_eq_true, Bool.and_eq_false_iff, Bool.or_eq_true, Bool.or_eq_false_iff, List.length_map] at hc
            refine xa_skip ?_
            refine xa_seq ?_
            refine xa_block ?_
            refine xa_seq ?_
            refine xa_region ?_
            (refine x_assign_nil rfl rfl (fun _ => rfl) ?_; intro g9)
            refine xr_nil ⟨nofun, [(.t 0, _), (.t 1, _), (.t 2, _), (.t 7, _), (.t 8, _), (.t 9, _), (.h 9, _)], ⟨rfl, rfl, rfl, rfl, rfl, rfl, rfl, rfl, rfl, rfl, rfl, rfl, rfl, rfl, trivial⟩, ?_⟩
            refine xa_seq ?_
            refine xa_seq ?_
            refine xa_region ?_
            refine x_move rfl rfl ?_
            refine x_len_map rfl rfl ?_
            refine x_move rfl rfl ?_
            refine xr_nil ⟨nofun, [(.t 0, _), (.t 1, _), (.t 2, _), (.t 7, _), (.t 8, _), (.t 9, _), (.t 37, _), (.t 38, _), (.t 39, _), (.h 9, _)], ⟨rfl, rfl, rfl, rfl, rfl, rfl, rfl, rfl, rfl, rfl, rfl, rfl, rfl, rfl, rfl, rfl, rfl, rfl, rfl, rfl, trivial⟩, ?_⟩
            refine xa_block ?_
            refine xa_loopK (β := Nat × List Int × Nat) [(.t 0, _), (.t 1, _), (.t 2, _), (.t 7, _), (.t 8, _), (.t 37, _), (.t 38, _)] (fun (z : Nat × List Int × Nat) => match z with | (i, xs, g) => [(.t 39, iV i), (.t 9, .sl 9 g none 0 xs.length), (.h 9, .obj g 0 1 (xs.map iV))]) (fun (z : Nat × List Int × Nat) => match z with | (i, xs, g) => i ≤ l.length ∧ xs = selU l s i) (fun (z : Nat × List Int × Nat) => match z with | (i, xs, g) => l.length - i) (0, [], _) ⟨rfl, rfl, rfl, rfl, rfl, rfl, rfl, rfl, rfl, rfl, trivial⟩ ⟨Nat.zero_le _, rfl⟩ ?_
            intro z hb
            obtain ⟨i, xs, g⟩ := z
            try dsimp only at hb
            obtain ⟨hi1, hxs⟩ := hb
            have hxl := selU_len l s i
            rw [← hxs] at hxl
            refine xa_seq ?_
            refine xa_region ?_
            refine x_lss rfl rfl ?_
            refine xr_nil ⟨nofun, [(.t 0, _), (.t 1, _), (.t 2, _), (.t 7, _), (.t 8, _), (.t 9, _), (.t 37, _), (.t 38, _), (.t 39, _), (.t 40, _), (.h 9, _)], ⟨rfl, rfl, rfl, rfl, rfl, rfl, rfl, rfl, rfl, rfl, rfl, rfl, rfl, rfl, rfl, rfl, rfl, rfl, rfl, rfl, rfl, rfl, trivial⟩, ?_⟩
            refine xa_seq ?_
            refine xa_cond rfl (fun hc => ?_) (fun hc => ?_)
            · try simp only [decide_eq_true_eq, decide_eq_false_iff_not, Bool.not_eq_true', Bool.not_eq_false', bne_iff_ne, beq_iff_eq, ne_eq, Bool.not_true, Bool.not_false, beq_eq_false_iff_ne, bne_eq_false_iff_eq, Decidable.not_not, Int.not_lt, Int.not_le, Bool.and_eq_true, Bool.and_eq_false_iff, Bool.or_eq_true, Bool.or_eq_false_iff, List.length_map] at hc
              refine xa_skip ?_
              refine xa_seq ?_
              refine xa_block ?_
              refine xa_seq ?_
              refine xa_region ?_
              refine x_move rfl rfl ?_
              refine x_index_listN rfl rfl rfl (fun _ => rfl) (by omega) ?_
              refine x_load_iptV rfl rfl rfl ?_
              refine x_assign rfl rfl rfl ?_
              refine x_assign rfl rfl rfl ?_
              refine xr_nil ⟨nofun, [(.t 0, _), (.t 1, _), (.t 2, _), (.t 7, _), (.t 8, _), (.t 9, _), (.t 10, _), (.t 11, _), (.t 37, _), (.t 38, _), (.t 39, _), (.h 9, _)], ⟨rfl, rfl, rfl, rfl, rfl, rfl, rfl, rfl, rfl, rfl, rfl, rfl, rfl, rfl, rfl, rfl, rfl, rfl, rfl, rfl, rfl, rfl, rfl, rfl, trivial⟩, ?_⟩
              refine xa_seq ?_
              refine xa_region ?_
              refine x_move rfl rfl ?_
              refine x_move rfl rfl ?_
              refine x_shrN rfl rfl (by omega) ?_
              refine x_and1 rfl rfl (by have := Nat.div_le_self s (2 ^ i); omega) ?_
              refine x_eql rfl rfl ?_
              refine xr_nil ⟨nofun, [(.t 0, _), (.t 1, _), (.t 2, _), (.t 7, _), (.t 8, _), (.t 9, _), (.t 11, _), (.t 37, _), (.t 38, _), (.t 39, _), (.t 48, _), (.h 9, _)], ⟨rfl, rfl, rfl, rfl, rfl, rfl, rfl, rfl, rfl, rfl, rfl, rfl, rfl, rfl, rfl, rfl, rfl, rfl, rfl, rfl, rfl, rfl, rfl, rfl, trivial⟩, ?_⟩
              refine xa_cond rfl (fun hc => ?_) (fun hc => ?_)
              · try simp only [decide_eq_true_eq, decide_eq_false_iff_not, Bool.not_eq_true', Bool.not_eq_false', bne_iff_ne, beq_iff_eq, ne_eq, Bool.not_true, Bool.not_false, beq_eq_false_iff_ne, bne_eq_false_iff_eq, Decidable.not_not, Int.not_lt, Int.not_le, Bool.and_eq_true, Bool.and_eq_false_iff, Bool.or_eq_true, Bool.or_eq_false_iff, List.length_map] at hc
                refine xa_region ?_
                refine x_move rfl rfl ?_
                refine x_move rfl rfl ?_
                refine x_buildSlice (es := List.map iV [_]) rfl rfl (by decide) rfl rfl (fun _ => slot_obj (noRef_map fun _ => rfl)) (fun _ => rfl) ?_
                intro g51
                refine x_append_map rfl rfl rfl rfl (by simp) (by simp) (by decide) rfl rfl rfl rfl (by decide) (fun _ => ⟨rfl, rfl⟩) (by simp only [maxL]; (simp only [List.length_nil, List.length_cons, List.length_append, Nat.zero_add, List.length_map]; omega)) (fun _ => rfl) ?_
                intro g52
                (refine x_assign_own rfl rfl (by (simp; done)) rfl (fun _ => (slot_obj (by exact noRef_map fun _ => rfl))) (fun _ => rfl) ?_; intro g9)
                refine xr_nil ⟨nofun, [(.t 0, _), (.t 1, _), (.t 2, _), (.t 7, _), (.t 8, _), (.t 9, _), (.t 37, _), (.t 38, _), (.t 39, _), (.h 9, _)], ⟨rfl, rfl, rfl, rfl, rfl, rfl, rfl, rfl, rfl, rfl, rfl, rfl, rfl, rfl, rfl, rfl, rfl, rfl, rfl, rfl, trivial⟩, ?_⟩
                refine xa_region ?_
                refine x_add rfl rfl (inI64 (by omega)) ?_
                refine x_move rfl rfl ?_
                refine xr_nil ⟨nofun, [(.t 0, _), (.t 1, _), (.t 2, _), (.t 7, _), (.t 8, _), (.t 9, _), (.t 37, _), (.t 38, _), (.t 39, _), (.h 9, _)], ⟨rfl, rfl, rfl, rfl, rfl, rfl, rfl, rfl, rfl, rfl, rfl, rfl, rfl, rfl, rfl, rfl, rfl, rfl, rfl, rfl, trivial⟩, ?_⟩
                refine ⟨(i + 1, xs ++ [l.getD i default], _), ?_, (by simp only; omega), ⟨rfl, rfl, rfl, rfl, rfl, rfl, rfl, rfl, rfl, rfl, trivial⟩⟩
                exact ⟨by omega, by rw [selU, if_pos (show bitN s i = 1 by unfold bitN; omega), hxs]⟩
              · try simp only [decide_eq_true_eq, decide_eq_false_iff_not, Bool.not_eq_true', Bool.not_eq_false', bne_iff_ne, beq_iff_eq, ne_eq, Bool.not_true, Bool.not_false, beq_eq_false_iff_ne, bne_eq_false_iff_eq, Decidable.not_not, Int.not_lt, Int.not_le, Bool.and_eq_true, Bool.and_eq_false_iff, Bool.or_eq_true, Bool.or_eq_false_iff, List.length_map] at hc
                refine xa_skip ?_
                refine xa_region ?_
                refine x_add rfl rfl (inI64 (by omega)) ?_
                refine x_move rfl rfl ?_
                refine xr_nil ⟨nofun, [(.t 0, _), (.t 1, _), (.t 2, _), (.t 7, _), (.t 8, _), (.t 9, _), (.t 37, _), (.t 38, _), (.t 39, _), (.h 9, _)], ⟨rfl, rfl, rfl, rfl, rfl, rfl, rfl, rfl, rfl, rfl, rfl, rfl, rfl, rfl, rfl, rfl, rfl, rfl, rfl, rfl, trivial⟩, ?_⟩
                refine ⟨(i + 1, xs, _), ?_, (by simp only; omega), ⟨rfl, rfl, rfl, rfl, rfl, rfl, rfl, rfl, rfl, rfl, trivial⟩⟩
                exact ⟨by omega, by rw [selU, if_neg (show ¬ bitN s i = 1 by unfold bitN; omega), hxs]⟩
            · try simp only [decide_eq_true_eq, decide_eq_false_iff_not, Bool.not_eq_true', Bool.not_eq_false', bne_iff_ne, beq_iff_eq, ne_eq, Bool.not_true, Bool.not_false, beq_eq_false_iff_ne, bne_eq_false_iff_eq, Decidable.not_not, Int.not_lt, Int.not_le, Bool.and_eq_true, Bool.and_eq_false_iff, Bool.or_eq_true, Bool.or_eq_false_iff, List.length_map] at hc
              refine xa_exit ?_
              refine xa_seq ?_
              refine xa_region ?_
              refine x_move rfl rfl ?_
              refine x_move rfl rfl ?_
              refine x_move rfl rfl ?_
              have hsx : xs = sel l s := by rw [hxs]; unfold sel; congr 1; omega
              subst hsx
              apply x_call rfl
              · apply pa_cons
                · exact pa_lend_map rfl rfl rfl (by (simp; done)) (fun _ => rfl)
                apply pa_cons
                · exact pa_plain rfl
                apply pa_cons
                · exact pa_plain rfl
                exact pa_nil
              · exact s_foundSet (sel l s) (Nat.le_trans (selU_len l s _) hn6) (fun x hx => hall x (sel_mem hx)) (sel_pos hmi.1 (by omega)) lev hlev e
              · exact ⟨rfl, rfl, rfl, of_decide_eq_true rfl, rfl⟩
              · exact .inr ⟨rfl, rfl⟩
              · exact back_nil
              · exact inst_plain rfl
              · exact fun _ => rfl
              intro g57
              refine x_not rfl ?_
              refine xr_nil ⟨nofun, [(.t 0, _), (.t 1, _), (.t 2, _), (.t 7, _), (.t 8, _), (.t 58, _)], ⟨rfl, rfl, rfl, rfl, rfl, rfl, rfl, rfl, rfl, rfl, rfl, rfl, trivial⟩, ?_⟩
              refine xa_cond rfl (fun hc => ?_) (fun hc => ?_)
              · try simp only [decide_eq_true_eq, decide_eq_false_iff_not, Bool.not_eq_true', Bool.not_eq_false', bne_iff_ne, beq_iff_eq, ne_eq, Bool.not_true, Bool.not_false, beq_eq_false_iff_ne, bne_eq_false_iff_eq, Decidable.not_not, Int.not_lt, Int.not_le, Bool.and_eq_true, Bool.and_eq_false_iff, Bool.or_eq_true, Bool.or_eq_false_iff, List.length_map] at hc
                refine xa_region ?_
                refine x_move rfl rfl ?_
                refine x_move rfl rfl ?_
                refine x_orN rfl rfl (by have := hmi.2.2.1; omega) ?_
                refine x_assign rfl rfl rfl ?_
                refine xr_nil ⟨nofun, [(.t 0, _), (.t 1, _), (.t 2, _), (.t 7, _), (.t 8, _)], ⟨rfl, rfl, rfl, rfl, rfl, rfl, rfl, rfl, rfl, rfl, trivial⟩, ?_⟩
                refine xa_region ?_
                refine x_move rfl rfl ?_
                refine x_add rfl rfl (inI64 (by omega)) ?_
                refine x_assign rfl rfl rfl ?_
                refine xr_nil ⟨nofun, [(.t 0, _), (.t 1, _), (.t 2, _), (.t 7, _), (.t 8, _)], ⟨rfl, rfl, rfl, rfl, rfl, rfl, rfl, rfl, rfl, rfl, trivial⟩, ?_⟩
                refine ⟨(s + 1, mi ||| s), ?_, (by simp only; omega), ⟨rfl, rfl, rfl, rfl, rfl, trivial⟩⟩
                exact hmi.miss (by omega) hc
              · try simp only [decide_eq_true_eq, decide_eq_false_iff_not, Bool.not_eq_true', Bool.not_eq_false', bne_iff_ne, beq_iff_eq, ne_eq, Bool.not_true, Bool.not_false, beq_eq_false_iff_ne, bne_eq_false_iff_eq, Decidable.not_not, Int.not_lt, Int.not_le, Bool.and_eq_true, Bool.and_eq_false_iff, Bool.or_eq_true, Bool.or_eq_false_iff, List.length_map] at hc
                refine xa_skip ?_
                refine xa_region ?_
                refine x_move rfl rfl ?_
                refine x_add rfl rfl (inI64 (by omega)) ?_
                refine x_assign rfl rfl rfl ?_
                refine xr_nil ⟨nofun, [(.t 0, _), (.t 1, _), (.t 2, _), (.t 7, _), (.t 8, _)], ⟨rfl, rfl, rfl, rfl, rfl, rfl, rfl, rfl, rfl, rfl, trivial⟩, ?_⟩
                refine ⟨(s + 1, mi), ?_, (by simp only; omega), ⟨rfl, rfl, rfl, rfl, rfl, trivial⟩⟩
                exact hmi.hit (by omega) hc
          · try simp only [decide_eq_true_eq, decide_eq_false_iff_not, Bool.not_eq_true', Bool.not_eq_false', bne_iff_ne, beq_iff_eq, ne_eq, Bool.not_true, Bool.not_false, beq_eq_false_iff_ne, bne_eq_false_iff_eq, Decidable.not_not, Int.not_lt, Int.not_le, Bool.and_eq_true, Bool.and_eq_false_iff, Bool.or_eq_true, Bool.or_eq_false_iff, List.length_map] at hc
            refine xa_exit ?_
            refine xa_seq ?_
            refine xa_region ?_
            (refine x_assign_nil rfl rfl (fun _ => rfl) ?_; intro g12)
            refine xr_nil ⟨nofun, [(.t 0, _), (.t 7, _), (.t 12, _), (.h 12, _)], ⟨rfl, rfl, rfl, rfl, rfl, rfl, rfl, rfl, trivial⟩, ?_⟩
            refine xa_seq ?_
            refine xa_seq ?_
            refine xa_region ?_
            refine x_move rfl rfl ?_
            refine x_len_map rfl rfl ?_
            refine x_move rfl rfl ?_
            refine xr_nil ⟨nofun, [(.t 7, _), (.t 12, _), (.t 63, _), (.t 64, _), (.h 12, _)], ⟨rfl, rfl, rfl, rfl, rfl, rfl, rfl, rfl, rfl, rfl, trivial⟩, ?_⟩
            refine xa_block ?_
            refine xa_loopK (β := Nat × List Int × Nat) [(.t 7, _), (.t 63, _)] (fun (z : Nat × List Int × Nat) => match z with | (i, xs, g) => [(.t 64, iV i), (.t 12, .sl 12 g none 0 xs.length), (.h 12, .obj g 0 1 (xs.map iV))]) (fun (z : Nat × List Int × Nat) => match z with | (i, xs, g) => i ≤ l.length ∧ xs = cloU l lev e i) (fun (z : Nat × List Int × Nat) => match z with | (i, xs, g) => l.length - i) (0, [], _) ⟨rfl, rfl, rfl, rfl, rfl, trivial⟩ ⟨Nat.zero_le _, rfl⟩ ?_
            intro z hb
            obtain ⟨i, xs, g⟩ := z
            try dsimp only at hb
            obtain ⟨hi1, hxs⟩ := hb
            have hxl := cloU_len l lev e i
            rw [← hxs] at hxl
            refine xa_seq ?_
            refine xa_region ?_
            refine x_lss rfl rfl ?_
            refine xr_nil ⟨nofun, [(.t 7, _), (.t 12, _), (.t 63, _), (.t 64, _), (.t 65, _), (.h 12, _)], ⟨rfl, rfl, rfl, rfl, rfl, rfl, rfl, rfl, rfl, rfl, rfl, rfl, trivial⟩, ?_⟩
            refine xa_seq ?_
            refine xa_cond rfl (fun hc => ?_) (fun hc => ?_)
            · try simp only [decide_eq_true_eq, decide_eq_false_iff_not, Bool.not_eq_true', Bool.not_eq_false', bne_iff_ne, beq_iff_eq, ne_eq, Bool.not_true, Bool.not_false, beq_eq_false_iff_ne, bne_eq_false_iff_eq, Decidable.not_not, Int.not_lt, Int.not_le, Bool.and_eq_true, Bool.and_eq_false_iff, Bool.or_eq_true, Bool.or_eq_false_iff, List.length_map] at hc
              refine xa_skip ?_
              refine xa_seq ?_
              refine xa_block ?_
              refine xa_seq ?_
              refine xa_region ?_
              refine x_move rfl rfl ?_
              refine x_assign rfl rfl rfl ?_
              refine xr_nil ⟨nofun, [(.t 7, _), (.t 12, _), (.t 13, _), (.t 63, _), (.t 64, _), (.h 12, _)], ⟨rfl, rfl, rfl, rfl, rfl, rfl, rfl, rfl, rfl, rfl, rfl, rfl, trivial⟩, ?_⟩
              refine xa_seq ?_
              refine xa_region ?_
              refine x_move rfl rfl ?_
              refine x_move rfl rfl ?_
              refine x_shrN rfl rfl (by omega) ?_
              refine x_and1 rfl rfl (by have := Nat.div_le_self mi (2 ^ i); have := hmi.2.2.1; omega) ?_
              refine x_eql rfl rfl ?_
              refine xr_nil ⟨nofun, [(.t 7, _), (.t 12, _), (.t 13, _), (.t 63, _), (.t 64, _), (.t 71, _), (.h 12, _)], ⟨rfl, rfl, rfl, rfl, rfl, rfl, rfl, rfl, rfl, rfl, rfl, rfl, rfl, rfl, trivial⟩, ?_⟩
              refine xa_cond rfl (fun hc => ?_) (fun hc => ?_)
              · try simp only [decide_eq_true_eq, decide_eq_false_iff_not, Bool.not_eq_true', Bool.not_eq_false', bne_iff_ne, beq_iff_eq, ne_eq, Bool.not_true, Bool.not_false, beq_eq_false_iff_ne, bne_eq_false_iff_eq, Decidable.not_not, Int.not_lt, Int.not_le, Bool.and_eq_true, Bool.and_eq_false_iff, Bool.or_eq_true, Bool.or_eq_false_iff, List.length_map] at hc
                refine xa_region ?_
                refine x_move rfl rfl ?_
                refine x_move rfl rfl ?_
                refine x_buildSlice (es := List.map iV [_]) rfl rfl (by decide) rfl rfl (fun _ => slot_obj (noRef_map fun _ => rfl)) (fun _ => rfl) ?_
                intro g74
                refine x_append_map rfl rfl rfl rfl (by simp) (by simp) (by decide) rfl rfl rfl rfl (by decide) (fun _ => ⟨rfl, rfl⟩) (by simp only [maxL]; (simp only [List.length_nil, List.length_cons, List.length_append, Nat.zero_add, List.length_map]; omega)) (fun _ => rfl) ?_
                intro g75
                (refine x_assign_own rfl rfl (by (simp; done)) rfl (fun _ => (slot_obj (by exact noRef_map fun _ => rfl))) (fun _ => rfl) ?_; intro g12)
                refine xr_nil ⟨nofun, [(.t 7, _), (.t 12, _), (.t 63, _), (.t 64, _), (.h 12, _)], ⟨rfl, rfl, rfl, rfl, rfl, rfl, rfl, rfl, rfl, rfl, trivial⟩, ?_⟩
                refine xa_region ?_
                refine x_add rfl rfl (inI64 (by omega)) ?_
                refine x_move rfl rfl ?_
                refine xr_nil ⟨nofun, [(.t 7, _), (.t 12, _), (.t 63, _), (.t 64, _), (.h 12, _)], ⟨rfl, rfl, rfl, rfl, rfl, rfl, rfl, rfl, rfl, rfl, trivial⟩, ?_⟩
                refine ⟨(i + 1, xs ++ [(i : Int)], _), ?_, (by simp only; omega), ⟨rfl, rfl, rfl, rfl, rfl, trivial⟩⟩
                exact ⟨by omega, by rw [cloU_t ((hmi.fin (by omega) (show i < l.length by omega)).1 (by unfold bitN; omega)), hxs]⟩
              · try simp only [decide_eq_true_eq, decide_eq_false_iff_not, Bool.not_eq_true', Bool.not_eq_false', bne_iff_ne, beq_iff_eq, ne_eq, Bool.not_true, Bool.not_false, beq_eq_false_iff_ne, bne_eq_false_iff_eq, Decidable.not_not, Int.not_lt, Int.not_le, Bool.and_eq_true, Bool.and_eq_false_iff, Bool.or_eq_true, Bool.or_eq_false_iff, List.length_map] at hc
                refine xa_skip ?_
                refine xa_region ?_
                refine x_add rfl rfl (inI64 (by omega)) ?_
                refine x_move rfl rfl ?_
                refine xr_nil ⟨nofun, [(.t 7, _), (.t 12, _), (.t 63, _), (.t 64, _), (.h 12, _)], ⟨rfl, rfl, rfl, rfl, rfl, rfl, rfl, rfl, rfl, rfl, trivial⟩, ?_⟩
                refine ⟨(i + 1, xs, _), ?_, (by simp only; omega), ⟨rfl, rfl, rfl, rfl, rfl, trivial⟩⟩
                exact ⟨by omega, by rw [cloU_f (fun h => absurd ((hmi.fin (by omega) (show i < l.length by omega)).2 h) (by unfold bitN; omega)), hxs]⟩
            · try simp only [decide_eq_true_eq, decide_eq_false_iff_not, Bool.not_eq_true', Bool.not_eq_false', bne_iff_ne, beq_iff_eq, ne_eq, Bool.not_true, Bool.not_false, beq_eq_false_iff_ne, bne_eq_false_iff_eq, Decidable.not_not, Int.not_lt, Int.not_le, Bool.and_eq_true, Bool.and_eq_false_iff, Bool.or_eq_true, Bool.or_eq_false_iff, List.length_map] at hc
              refine xa_exit ?_
              refine xa_seq ?_
              refine xa_region ?_
              refine x_move rfl rfl ?_
              apply x_call rfl
              · apply pa_cons
                · exact pa_give rfl rfl (by (simp; done)) (noRef_map fun _ => rfl)
                exact pa_nil
              · exact s_ClipI xs (by simp only [maxL]; rw [hxs]; have := cloU_len l lev e i; omega)
              · exact ⟨rfl, rfl, rfl, of_decide_eq_true rfl, rfl⟩
              · exact .inl rfl
              · exact back_nil
              · exact inst_own
              · exact fun _ => rfl
              intro g78
              (refine x_assign_own rfl rfl (by (simp; done)) rfl (fun _ => (slot_obj (by exact noRef_map fun _ => rfl))) (fun _ => rfl) ?_; intro g6)
              refine xr_nil ⟨nofun, [(.t 6, _), (.h 6, _)], ⟨rfl, rfl, rfl, rfl, trivial⟩, ?_⟩
              refine xa_ret ?_
              refine ret_own' rfl rfl (by simp) (by exact noRef_map fun _ => rfl) trivial ?_
              rw [cbR_ok hvo hlev, hxs, clo, show i = l.length by omega]
      · have hg := hg0; try simp only [decide_eq_true_eq, decide_eq_false_iff_not, Bool.not_eq_true', Bool.not_eq_false', bne_iff_ne, beq_iff_eq, ne_eq, Bool.not_true, Bool.not_false, beq_eq_false_iff_ne, bne_eq_false_iff_eq, Decidable.not_not, Int.not_lt, Int.not_le, Bool.and_eq_true, Bool.and_eq_false_iff, Bool.or_eq_true, Bool.or_eq_false_iff] at hg
        refine x_guard_f rfl rfl (by assumption) ?_
        refine x_guard_t rfl rfl (by assumption) ?_
        refine x_pick_f rfl (by assumption) rfl rfl ?_
        refine x_pick_f rfl (by assumption) rfl rfl ?_
        refine xr_nil ⟨nofun, [(.t 0, _), (.t 1, _), (.t 2, _), (.t 29, _)], ⟨rfl, rfl, rfl, rfl, rfl, rfl, rfl, rfl, trivial⟩, ?_⟩
        refine xa_cond rfl (fun hc => absurd hc (by decide)) (fun hc => ?_)
        refine xa_skip ?_
        refine xa_seq ?_
        refine xa_region ?_
        refine x_assign rfl rfl rfl ?_
        refine xr_nil ⟨nofun, [(.t 0, _), (.t 1, _), (.t 2, _), (.t 7, _)], ⟨rfl, rfl, rfl, rfl, rfl, rfl, rfl, rfl, trivial⟩, ?_⟩
        refine xa_seq ?_
        refine xa_seq ?_
        refine xa_region ?_
        refine x_assign rfl rfl rfl ?_
        refine xr_nil ⟨nofun, [(.t 0, _), (.t 1, _), (.t 2, _), (.t 7, _), (.t 8, _)], ⟨rfl, rfl, rfl, rfl, rfl, rfl, rfl, rfl, rfl, rfl, trivial⟩, ?_⟩
        refine xa_block ?_
        obtain ⟨e, rfl, hvo, hlev⟩ := closed_in (l := l) (lev := lev) (o := o) (by simp_all) (by simp_all) (by simp_all)
        have hv := vo_iff.1 hvo
        have hn6 := hv.2.1
        have hn1 := hv.1
        have hall := fun x (hx : x ∈ l) => allB_mem hv.2.2 hx
        have hp6 := pow6 hn6
        refine xa_loopK (β := Nat × Nat) [(.t 0, _), (.t 1, _), (.t 2, _)] (fun (z : Nat × Nat) => match z with | (s, mi) => [(.t 8, iV s), (.t 7, iV mi)]) (fun (z : Nat × Nat) => match z with | (s, mi) => Mis l lev e s mi) (fun (z : Nat × Nat) => match z with | (s, mi) => 2 ^ l.length - s) (1, 0) ⟨rfl, rfl, rfl, rfl, rfl, trivial⟩ (Mis.start _ _ _) ?_
        intro z hb
        obtain ⟨s, mi⟩ := z
        try dsimp only at hb
        have hmi := hb
        have hm2 := hmi.2.1
        have hm3 := hmi.2.2.1
        refine xa_seq ?_
        refine xa_seq ?_
        refine xa_region ?_
        refine x_move rfl rfl ?_
        refine x_move rfl rfl ?_
        refine x_len_map rfl rfl ?_
        refine x_shlN (x := 1) rfl rfl (by omega) ?_
        refine x_lss rfl rfl ?_
        refine xr_nil ⟨nofun, [(.t 0, _), (.t 1, _), (.t 2, _), (.t 7, _), (.t 8, _), (.t 34, _)], ⟨rfl, rfl, rfl, rfl, rfl, rfl, rfl, rfl, rfl, rfl, rfl, rfl, trivial⟩, ?_⟩
        refine xa_cond rfl (fun hc => ?_) (fun hc => ?_)
        · try simp only [decide_eq_true_eq, decide_eq_false_iff_not, Bool.not_eq_true', Bool.not_eq_false', bne_iff_ne, beq_iff_eq, ne_eq, Bool.not_true, Bool.not_false, beq_eq_false_iff_ne, bne_eq_false_iff_eq, Decidable.not_not, Int.not_lt, Int.not_le, Bool.and_eq_true, Bool.and_eq_false_iff, Bool.or_eq_true, Bool.or_eq_false_iff, List.length_map] at hc
          refine xa_skip ?_
          refine xa_seq ?_
          refine xa_block ?_
          refine xa_seq ?_
          refine xa_region ?_
          (refine x_assign_nil rfl rfl (fun _ => rfl) ?_; intro g9)
          refine xr_nil ⟨nofun, [(.t 0, _), (.t 1, _), (.t 2, _), (.t 7, _), (.t 8, _), (.t 9, _), (.h 9, _)], ⟨rfl, rfl, rfl, rfl, rfl, rfl, rfl, rfl, rfl, rfl, rfl, rfl, rfl, rfl, trivial⟩, ?_⟩
          refine xa_seq ?_
          refine xa_seq ?_
          refine xa_region ?_
          refine x_move rfl rfl ?_
          refine x_len_map rfl rfl ?_
          refine x_move rfl rfl ?_
          refine xr_nil ⟨nofun, [(.t 0, _), (.t 1, _), (.t 2, _), (.t 7, _), (.t 8, _), (.t 9, _), (.t 37, _), (.t 38, _), (.t 39, _), (.h 9, _)], ⟨rfl, rfl, rfl, rfl, rfl, rfl, rfl, rfl, rfl, rfl, rfl, rfl, rfl, rfl, rfl, rfl, rfl, rfl, rfl, rfl, trivial⟩, ?_⟩
          refine xa_block ?_
          refine xa_loopK (β := Nat × List Int × Nat) [(.t 0, _), (.t 1, _), (.t 2, _), (.t 7, _), (.t 8, _), (.t 37, _), (.t 38, _)] (fun (z : Nat × List Int × Nat) => match z with | (i, xs, g) => [(.t 39, iV i), (.t 9, .sl 9 g none 0 xs.length), (.h 9, .obj g 0 1 (xs.map iV))]) (fun (z : Nat × List Int × Nat) => match z with | (i, xs, g) => i ≤ l.length ∧ xs = selU l s i) (fun (z : Nat × List Int × Nat) => match z with | (i, xs, g) => l.length - i) (0, [], _) ⟨rfl, rfl, rfl, rfl, rfl, rfl, rfl, rfl, rfl, rfl, trivial⟩ ⟨Nat.zero_le _, rfl⟩ ?_
          intro z hb
          obtain ⟨i, xs, g⟩ := z
          try dsimp only at hb
          obtain ⟨hi1, hxs⟩ := hb
          have hxl := selU_len l s i
          rw [← hxs] at hxl
          refine xa_seq ?_
          refine xa_region ?_
          refine x_lss rfl rfl ?_
          refine xr_nil ⟨nofun, [(.t 0, _), (.t 1, _), (.t 2, _), (.t 7, _), (.t 8, _), (.t 9, _), (.t 37, _), (.t 38, _), (.t 39, _), (.t 40, _), (.h 9, _)], ⟨rfl, rfl, rfl, rfl, rfl, rfl, rfl, rfl, rfl, rfl, rfl, rfl, rfl, rfl, rfl, rfl, rfl, rfl, rfl, rfl, rfl, rfl, trivial⟩, ?_⟩
          refine xa_seq ?_
          refine xa_cond rfl (fun hc => ?_) (fun hc => ?_)
          · try simp only [decide_eq_true_eq, decide_eq_false_iff_not, Bool.not_eq_true', Bool.not_eq_false', bne_iff_ne, beq_iff_eq, ne_eq, Bool.not_true, Bool.not_false, beq_eq_false_iff_ne, bne_eq_false_iff_eq, Decidable.not_not, Int.not_lt, Int.not_le, Bool.and_eq_true, Bool.and_eq_false_iff, Bool.or_eq_true, Bool.or_eq_false_iff, List.length_map] at hc
            refine xa_skip ?_
            refine xa_seq ?_
            refine xa_block ?_
            refine xa_seq ?_
            refine xa_region ?_
            refine x_move rfl rfl ?_
            refine x_index_listN rfl rfl rfl (fun _ => rfl) (by omega) ?_
            refine x_load_iptV rfl rfl rfl ?_
            refine x_assign rfl rfl rfl ?_
            refine x_assign rfl rfl rfl ?_
            refine xr_nil ⟨nofun, [(.t 0, _), (.t 1, _), (.t 2, _), (.t 7, _), (.t 8, _), (.t 9, _), (.t 10, _), (.t 11, _), (.t 37, _), (.t 38, _), (.t 39, _), (.h 9, _)], ⟨rfl, rfl, rfl, rfl, rfl, rfl, rfl, rfl, rfl, rfl, rfl, rfl, rfl, rfl, rfl, rfl, rfl, rfl, rfl, rfl, rfl, rfl, rfl, rfl, trivial⟩, ?_⟩
            refine xa_seq ?_
            refine xa_region ?_
            refine x_move rfl rfl ?_
            refine x_move rfl rfl ?_
            refine x_shrN rfl rfl (by omega) ?_
            refine x_and1 rfl rfl (by have := Nat.div_le_self s (2 ^ i); omega) ?_
            refine x_eql rfl rfl ?_
            refine xr_nil ⟨nofun, [(.t 0, _), (.t 1, _), (.t 2, _), (.t 7, _), (.t 8, _), (.t 9, _), (.t 11, _), (.t 37, _), (.t 38, _), (.t 39, _), (.t 48, _), (.h 9, _)], ⟨rfl, rfl, rfl, rfl, rfl, rfl, rfl, rfl, rfl, rfl, rfl, rfl, rfl, rfl, rfl, rfl, rfl, rfl, rfl, rfl, rfl, rfl, rfl, rfl, trivial⟩, ?_⟩
            refine xa_cond rfl (fun hc => ?_) (fun hc => ?_)
            · try simp only [decide_eq_true_eq, decide_eq_false_iff_not, Bool.not_eq_true', Bool.not_eq_false', bne_iff_ne, beq_iff_eq, ne_eq, Bool.not_true, Bool.not_false, beq_eq_false_iff_ne, bne_eq_false_iff_eq, Decidable.not_not, Int.not_lt, Int.not_le, Bool.and_eq_true, Bool.and_eq_false_iff, Bool.or_eq_true, Bool.or_eq_false_iff, List.length_map] at hc
              refine xa_region ?_
              refine x_move rfl rfl ?_
              refine x_move rfl rfl ?_
              refine x_buildSlice (es := List.map iV [_]) rfl rfl (by decide) rfl rfl (fun _ => slot_obj (noRef_map fun _ => rfl)) (fun _ => rfl) ?_
              intro g51
              refine x_append_map rfl rfl rfl rfl (by simp) (by simp) (by decide) rfl rfl rfl rfl (by decide) (fun _ => ⟨rfl, rfl⟩) (by simp only [maxL]; (simp only [List.length_nil, List.length_cons, List.length_append, Nat.zero_add, List.length_map]; omega)) (fun _ => rfl) ?_
              intro g52
              (refine x_assign_own rfl rfl (by (simp; done)) rfl (fun _ => (slot_obj (by exact noRef_map fun _ => rfl))) (fun _ => rfl) ?_; intro g9)
              refine xr_nil ⟨nofun, [(.t 0, _), (.t 1, _), (.t 2, _), (.t 7, _), (.t 8, _), (.t 9, _), (.t 37, _), (.t 38, _), (.t 39, _), (.h 9, _)], ⟨rfl, rfl, rfl, rfl, rfl, rfl, rfl, rfl, rfl, rfl, rfl, rfl, rfl, rfl, rfl, rfl, rfl, rfl, rfl, rfl, trivial⟩, ?_⟩
              refine xa_region ?_
              refine x_add rfl rfl (inI64 (by omega)) ?_
              refine x_move rfl rfl ?_
              refine xr_nil ⟨nofun, [(.t 0, _), (.t 1, _), (.t 2, _), (.t 7, _), (.t 8, _), (.t 9, _), (.t 37, _), (.t 38, _), (.t 39, _), (.h 9, _)], ⟨rfl, rfl, rfl, rfl, rfl, rfl, rfl, rfl, rfl, rfl, rfl, rfl, rfl, rfl, rfl, rfl, rfl, rfl, rfl, rfl, trivial⟩, ?_⟩
              refine ⟨(i + 1, xs ++ [l.getD i default], _), ?_, (by simp only; omega), ⟨rfl, rfl, rfl, rfl, rfl, rfl, rfl, rfl, rfl, rfl, trivial⟩⟩
              exact ⟨by omega, by rw [selU, if_pos (show bitN s i = 1 by unfold bitN; omega), hxs]⟩
            · try simp only [decide_eq_true_eq, decide_eq_false_iff_not, Bool.not_eq_true', Bool.not_eq_false', bne_iff_ne, beq_iff_eq, ne_eq, Bool.not_true, Bool.not_false, beq_eq_false_iff_ne, bne_eq_false_iff_eq, Decidable.not_not, Int.not_lt, Int.not_le, Bool.and_eq_true, Bool.and_eq_false_iff, Bool.or_eq_true, Bool.or_eq_false_iff, List.length_map] at hc
              refine xa_skip ?_
              refine xa_region ?_
              refine x_add rfl rfl (inI64 (by omega)) ?_
              refine x_move rfl rfl ?_
              refine xr_nil ⟨nofun, [(.t 0, _), (.t 1, _), (.t 2, _), (.t 7, _), (.t 8, _), (.t 9, _), (.t 37, _), (.t 38, _), (.t 39, _), (.h 9, _)], ⟨rfl, rfl, rfl, rfl, rfl, rfl, rfl, rfl, rfl, rfl, rfl, rfl, rfl, rfl, rfl, rfl, rfl, rfl, rfl, rfl, trivial⟩, ?_⟩
              refine ⟨(i + 1, xs, _), ?_, (by simp only; omega), ⟨rfl, rfl, rfl, rfl, rfl, rfl, rfl, rfl, rfl, rfl, trivial⟩⟩
              exact ⟨by omega, by rw [selU, if_neg (show ¬ bitN s i = 1 by unfold bitN; omega), hxs]⟩
          · try simp only [decide_eq_true_eq, decide_eq_false_iff_not, Bool.not_eq_true', Bool.not_eq_false', bne_iff_ne, beq_iff_eq, ne_eq, Bool.not_true, Bool.not_false, beq_eq_false_iff_ne, bne_eq_false_iff_eq, Decidable.not_not, Int.not_lt, Int.not_le, Bool.and_eq_true, Bool.and_eq_false_iff, Bool.or_eq_true, Bool.or_eq_false_iff, List.length_map] at hc
            refine xa_exit ?_
            refine xa_seq ?_
            refine xa_region ?_
            refine x_move rfl rfl ?_
            refine x_move rfl rfl ?_
            refine x_move rfl rfl ?_
            have hsx : xs = sel l s := by rw [hxs]; unfold sel; congr 1; omega
            subst hsx
            apply x_call rfl
            · apply pa_cons
              · exact pa_lend_map rfl rfl rfl (by (simp; done)) (fun _ => rfl)
              apply pa_cons
              · exact pa_plain rfl
              apply pa_cons
              · exact pa_plain rfl
              exact pa_nil
            · exact s_foundSet (sel l s) (Nat.le_trans (selU_len l s _) hn6) (fun x hx => hall x (sel_mem hx)) (sel_pos hmi.1 (by omega)) lev hlev e
            · exact ⟨rfl, rfl, rfl, of_decide_eq_true rfl, rfl⟩
            · exact .inr ⟨rfl, rfl⟩
            · exact back_nil
            · exact inst_plain rfl
            · exact fun _ => rfl
            intro g57
            refine x_not rfl ?_
            refine xr_nil ⟨nofun, [(.t 0, _), (.t 1, _), (.t 2, _), (.t 7, _), (.t 8, _), (.t 58, _)], ⟨rfl, rfl, rfl, rfl, rfl, rfl, rfl, rfl, rfl, rfl, rfl, rfl, trivial⟩, ?_⟩
            refine xa_cond rfl (fun hc => ?_) (fun hc => ?_)
            · try simp only [decide_eq_true_eq, decide_eq_false_iff_not, Bool.not_eq_true', Bool.not_eq_false', bne_iff_ne, beq_iff_eq, ne_eq, Bool.not_true, Bool.not_false, beq_eq_false_iff_ne, bne_eq_false_iff_eq, Decidable.not_not, Int.not_lt, Int.not_le, Bool.and_eq_true, Bool.and_eq_false_iff, Bool.or_eq_true, Bool.or_eq_false_iff, List.length_map] at hc
              refine xa_region ?_
              refine x_move rfl rfl ?_
              refine x_move rfl rfl ?_
              refine x_orN rfl rfl (by have := hmi.2.2.1; omega) ?_
              refine x_assign rfl rfl rfl ?_
              refine xr_nil ⟨nofun, [(.t 0, _), (.t 1, _), (.t 2, _), (.t 7, _), (.t 8, _)], ⟨rfl, rfl, rfl, rfl, rfl, rfl, rfl, rfl, rfl, rfl, trivial⟩, ?_⟩
              refine xa_region ?_
              refine x_move rfl rfl ?_
              refine x_add rfl rfl (inI64 (by omega)) ?_
              refine x_assign rfl rfl rfl ?_
              refine xr_nil ⟨nofun, [(.t 0, _), (.t 1, _), (.t 2, _), (.t 7, _), (.t 8, _)], ⟨rfl, rfl, rfl, rfl, rfl, rfl, rfl, rfl, rfl, rfl, trivial⟩, ?_⟩
              refine ⟨(s + 1, mi ||| s), ?_, (by simp only; omega), ⟨rfl, rfl, rfl, rfl, rfl, trivial⟩⟩
              exact hmi.miss (by omega) hc
            · try simp only [decide_eq_true_eq, decide_eq_false_iff_not, Bool.not_eq_true', Bool.not_eq_false', bne_iff_ne, beq_iff_eq, ne_eq, Bool.not_true, Bool.not_false, beq_eq_false_iff_ne, bne_eq_false_iff_eq, Decidable.not_not, Int.not_lt, Int.not_le, Bool.and_eq_true, Bool.and_eq_false_iff, Bool.or_eq_true, Bool.or_eq_false_iff, List.length_map] at hc
              refine xa_skip ?_
              refine xa_region ?_
              refine x_move rfl rfl ?_
              refine x_add rfl rfl (inI64 (by omega)) ?_
              refine x_assign rfl rfl rfl ?_
              refine xr_nil ⟨nofun, [(.t 0, _), (.t 1, _), (.t 2, _), (.t 7, _), (.t 8, _)], ⟨rfl, rfl, rfl, rfl, rfl, rfl, rfl, rfl, rfl, rfl, trivial⟩, ?_⟩
              refine ⟨(s + 1, mi), ?_, (by simp only; omega), ⟨rfl, rfl, rfl, rfl, rfl, trivial⟩⟩
              exact hmi.hit (by omega) hc
        · try simp only [decide_eq_true_eq, decide_eq_false_iff_not, Bool.not_eq_true', Bool.not_eq_false', bne_iff_ne, beq_iff_eq, ne_eq, Bool.not_true, Bool.not_false, beq_eq_false_iff_ne, bne_eq_false_iff_eq, Decidable.not_not, Int.not_lt, Int.not_le, Bool.and_eq_true, Bool.and_eq_false_iff, Bool.or_eq_true, Bool.or_eq_false_iff, List.length_map] at hc
          refine xa_exit ?_
          refine xa_seq ?_
          refine xa_region ?_
          (refine x_assign_nil rfl rfl (fun _ => rfl) ?_; intro g12)
          refine xr_nil ⟨nofun, [(.t 0, _), (.t 7, _), (.t 12, _), (.h 12, _)], ⟨rfl, rfl, rfl, rfl, rfl, rfl, rfl, rfl, trivial⟩, ?_⟩
          refine xa_seq ?_
          refine xa_seq ?_
          refine xa_region ?_
          refine x_move rfl rfl ?_
          refine x_len_map rfl rfl ?_
          refine x_move rfl rfl ?_
          refine xr_nil ⟨nofun, [(.t 7, _), (.t 12, _), (.t 63, _), (.t 64, _), (.h 12, _)], ⟨rfl, rfl, rfl, rfl, rfl, rfl, rfl, rfl, rfl, rfl, trivial⟩, ?_⟩
          refine xa_block ?_
          refine xa_loopK (β := Nat × List Int × Nat) [(.t 7, _), (.t 63, _)] (fun (z : Nat × List Int × Nat) => match z with | (i, xs, g) => [(.t 64, iV i), (.t 12, .sl 12 g none 0 xs.length), (.h 12, .obj g 0 1 (xs.map iV))]) (fun (z : Nat × List Int × Nat) => match z with | (i, xs, g) => i ≤ l.length ∧ xs = cloU l lev e i) (fun (z : Nat × List Int × Nat) => match z with | (i, xs, g) => l.length - i) (0, [], _) ⟨rfl, rfl, rfl, rfl, rfl, trivial⟩ ⟨Nat.zero_le _, rfl⟩ ?_
          intro z hb
          obtain ⟨i, xs, g⟩ := z
          try dsimp only at hb
          obtain ⟨hi1, hxs⟩ := hb
          have hxl := cloU_len l lev e i
          rw [← hxs] at hxl
          refine xa_seq ?_
          refine xa_region ?_
          refine x_lss rfl rfl ?_
          refine xr_nil ⟨nofun, [(.t 7, _), (.t 12, _), (.t 63, _), (.t 64, _), (.t 65, _), (.h 12, _)], ⟨rfl, rfl, rfl, rfl, rfl, rfl, rfl, rfl, rfl, rfl, rfl, rfl, trivial⟩, ?_⟩
          refine xa_seq ?_
          refine xa_cond rfl (fun hc => ?_) (fun hc => ?_)
          · try simp only [decide_eq_true_eq, decide_eq_false_iff_not, Bool.not_eq_true', Bool.not_eq_false', bne_iff_ne, beq_iff_eq, ne_eq, Bool.not_true, Bool.not_false, beq_eq_false_iff_ne, bne_eq_false_iff_eq, Decidable.not_not, Int.not_lt, Int.not_le, Bool.and_eq_true, Bool.and_eq_false_iff, Bool.or_eq_true, Bool.or_eq_false_iff, List.length_map] at hc
            refine xa_skip ?_
            refine xa_seq ?_
            refine xa_block ?_
            refine xa_seq ?_
            refine xa_region ?_
            refine x_move rfl rfl ?_
            refine x_assign rfl rfl rfl ?_
            refine xr_nil ⟨nofun, [(.t 7, _), (.t 12, _), (.t 13, _), (.t 63, _), (.t 64, _), (.h 12, _)], ⟨rfl, rfl, rfl, rfl, rfl, rfl, rfl, rfl, rfl, rfl, rfl, rfl, trivial⟩, ?_⟩
            refine xa_seq ?_
            refine xa_region ?_
            refine x_move rfl rfl ?_
            refine x_move rfl rfl ?_
            refine x_shrN rfl rfl (by omega) ?_
            refine x_and1 rfl rfl (by have := Nat.div_le_self mi (2 ^ i); have := hmi.2.2.1; omega) ?_
            refine x_eql rfl rfl ?_
            refine xr_nil ⟨nofun, [(.t 7, _), (.t 12, _), (.t 13, _), (.t 63, _), (.t 64, _), (.t 71, _), (.h 12, _)], ⟨rfl, rfl, rfl, rfl, rfl, rfl, rfl, rfl, rfl, rfl, rfl, rfl, rfl, rfl, trivial⟩, ?_⟩
            refine xa_cond rfl (fun hc => ?_) (fun hc => ?_)
            · try simp only [decide_eq_true_eq, decide_eq_false_iff_not, Bool.not_eq_true', Bool.not_eq_false', bne_iff_ne, beq_iff_eq, ne_eq, Bool.not_true, Bool.not_false, beq_eq_false_iff_ne, bne_eq_false_iff_eq, Decidable.not_not, Int.not_lt, Int.not_le, Bool.and_eq_true, Bool.and_eq_false_iff, Bool.or_eq_true, Bool.or_eq_false_iff, List.length_map] at hc
              refine xa_region ?_
              refine x_move rfl rfl ?_
              refine x_move rfl rfl ?_
              refine x_buildSlice (es := List.map iV [_]) rfl rfl (by decide) rfl rfl (fun _ => slot_obj (noRef_map fun _ => rfl)) (fun _ => rfl) ?_
              intro g74
              refine x_append_map rfl rfl rfl rfl (by simp) (by simp) (by decide) rfl rfl rfl rfl (by decide) (fun _ => ⟨rfl, rfl⟩) (by simp only [maxL]; (simp only [List.length_nil, List.length_cons, List.length_append, Nat.zero_add, List.length_map]; omega)) (fun _ => rfl) ?_
              intro g75
              (refine x_assign_own rfl rfl (by (simp; done)) rfl (fun _ => (slot_obj (by exact noRef_map fun _ => rfl))) (fun _ => rfl) ?_; intro g12)
              refine xr_nil ⟨nofun, [(.t 7, _), (.t 12, _), (.t 63, _), (.t 64, _), (.h 12, _)], ⟨rfl, rfl, rfl, rfl, rfl, rfl, rfl, rfl, rfl, rfl, trivial⟩, ?_⟩
              refine xa_region ?_
              refine x_add rfl rfl (inI64 (by omega)) ?_
              refine x_move rfl rfl ?_
              refine xr_nil ⟨nofun, [(.t 7, _), (.t 12, _), (.t 63, _), (.t 64, _), (.h 12, _)], ⟨rfl, rfl, rfl, rfl, rfl, rfl, rfl, rfl, rfl, rfl, trivial⟩, ?_⟩
              refine ⟨(i + 1, xs ++ [(i : Int)], _), ?_, (by simp only; omega), ⟨rfl, rfl, rfl, rfl, rfl, trivial⟩⟩
              exact ⟨by omega, by rw [cloU_t ((hmi.fin (by omega) (show i < l.length by omega)).1 (by unfold bitN; omega)), hxs]⟩
            · try simp only [decide_eq_true_eq, decide_eq_false_iff_not, Bool.not_eq_true', Bool.not_eq_false', bne_iff_ne, beq_iff_eq, ne_eq, Bool.not_true, Bool.not_false, beq_eq_false_iff_ne, bne_eq_false_iff_eq, Decidable.not_not, Int.not_lt, Int.not_le, Bool.and_eq_true, Bool.and_eq_false_iff, Bool.or_eq_true, Bool.or_eq_false_iff, List.length_map] at hc
              refine xa_skip ?_
              refine xa_region ?_
              refine x_add rfl rfl (inI64 (by omega)) ?_
              refine x_move rfl rfl ?_
              refine xr_nil ⟨nofun, [(.t 7, _), (.t 12, _), (.t 63, _), (.t 64, _), (.h 12, _)], ⟨rfl, rfl, rfl, rfl, rfl, rfl, rfl, rfl, rfl, rfl, trivial⟩, ?_⟩
              refine ⟨(i + 1, xs, _), ?_, (by simp only; omega), ⟨rfl, rfl, rfl, rfl, rfl, trivial⟩⟩
              exact ⟨by omega, by rw [cloU_f (fun h => absurd ((hmi.fin (by omega) (show i < l.length by omega)).2 h) (by unfold bitN; omega)), hxs]⟩
          · try simp only [decide_eq_true_eq, decide_eq_false_iff_not, Bool.not_eq_true', Bool.not_eq_false', bne_iff_ne, beq_iff_eq, ne_eq, Bool.not_true, Bool.not_false, beq_eq_false_iff_ne, bne_eq_false_iff_eq, Decidable.not_not, Int.not_lt, Int.not_le, Bool.and_eq_true, Bool.and_eq_false_iff, Bool.or_eq_true, Bool.or_eq_false_iff, List.length_map] at hc
            refine xa_exit ?_
            refine xa_seq ?_
            refine xa_region ?_
            refine x_move rfl rfl ?_
            apply x_call rfl
            · apply pa_cons
              · exact pa_give rfl rfl (by (simp; done)) (noRef_map fun _ => rfl)
              exact pa_nil
            · exact s_ClipI xs (by simp only [maxL]; rw [hxs]; have := cloU_len l lev e i; omega)
            · exact ⟨rfl, rfl, rfl, of_decide_eq_true rfl, rfl⟩
            · exact .inl rfl
            · exact back_nil
            · exact inst_own
            · exact fun _ => rfl
            intro g78
            (refine x_assign_own rfl rfl (by (simp; done)) rfl (fun _ => (slot_obj (by exact noRef_map fun _ => rfl))) (fun _ => rfl) ?_; intro g6)
            refine xr_nil ⟨nofun, [(.t 6, _), (.h 6, _)], ⟨rfl, rfl, rfl, rfl, trivial⟩, ?_⟩
            refine xa_ret ?_
            refine ret_own' rfl rfl (by simp) (by exact noRef_map fun _ => rfl) trivial ?_
            rw [cbR_ok hvo hlev, hxs, clo, show i = l.length by omega]
    · have hg := hg0; try simp only [decide_eq_true_eq, decide_eq_false_iff_not, Bool.not_eq_true', Bool.not_eq_false', bne_iff_ne, beq_iff_eq, ne_eq, Bool.not_true, Bool.not_false, beq_eq_false_iff_ne, bne_eq_false_iff_eq, Decidable.not_not, Int.not_lt, Int.not_le, Bool.and_eq_true, Bool.and_eq_false_iff, Bool.or_eq_true, Bool.or_eq_false_iff] at hg
      refine x_guard_f rfl rfl (by assumption) ?_
      refine x_guard_f rfl rfl (by assumption) ?_
      refine x_guard_u rfl rfl ?_
      refine x_guard_u rfl rfl ?_
      refine x_guard_f rfl rfl (by assumption) ?_
      refine x_pick_t rfl (by assumption) rfl rfl ?_
      refine xr_nil ⟨nofun, [(.t 0, _), (.t 1, _), (.t 2, _), (.t 29, _)], ⟨rfl, rfl, rfl, rfl, rfl, rfl, rfl, rfl, trivial⟩, ?_⟩
      refine xa_cond rfl (fun hc => ?_) (fun hc => absurd hc (by decide))
      refine xa_seq ?_
      refine xa_region ?_
      (refine x_assign_nil rfl rfl (fun _ => rfl) ?_; intro g6)
      refine xr_nil ⟨nofun, [(.t 6, _), (.h 6, _)], ⟨rfl, rfl, rfl, rfl, trivial⟩, ?_⟩
      refine xa_ret ?_
      refine ret_own' rfl rfl (by simp) (by rfl) trivial ?_
      rw [cbR_none (by rintro ⟨h1, h2, h3⟩; omega)]
      rfl
  · have hg := hg0; try simp only [decide_eq_true_eq, decide_eq_false_iff_not, Bool.not_eq_true', Bool.not_eq_false', bne_iff_ne, beq_iff_eq, ne_eq, Bool.not_true, Bool.not_false, beq_eq_false_iff_ne, bne_eq_false_iff_eq, Decidable.not_not, Int.not_lt, Int.not_le, Bool.and_eq_true, Bool.and_eq_false_iff, Bool.or_eq_true, Bool.or_eq_false_iff] at hg
    refine x_guard_f rfl rfl (by assumption) ?_
    refine x_guard_f rfl rfl (by assumption) ?_
    refine x_pick_t rfl (by assumption) rfl rfl ?_
    refine x_move rfl rfl ?_
    refine x_guard_f rfl rfl (by rfl) ?_
    refine x_guard_f rfl rfl (by rfl) ?_
    refine x_guard_f rfl rfl (by rfl) ?_
    refine x_guard_u rfl rfl ?_
    refine x_guard_u rfl rfl ?_
    refine x_guard_f rfl rfl (by rfl) ?_
    refine x_pick_t rfl (by rfl) rfl rfl ?_
    refine xr_nil ⟨nofun, [(.t 0, _), (.t 1, _), (.t 2, _), (.t 29, _)], ⟨rfl, rfl, rfl, rfl, rfl, rfl, rfl, rfl, trivial⟩, ?_⟩
    refine xa_cond rfl (fun hc => ?_) (fun hc => absurd hc (by decide))
    refine xa_seq ?_
    refine xa_region ?_
    (refine x_assign_nil rfl rfl (fun _ => rfl) ?_; intro g6)
    refine xr_nil ⟨nofun, [(.t 6, _), (.h 6, _)], ⟨rfl, rfl, rfl, rfl, trivial⟩, ?_⟩
    refine xa_ret ?_
    refine ret_own' rfl rfl (by simp) (by rfl) trivial ?_
    rw [cbR_none (by rintro ⟨h1, h2, h3⟩; (simp_all; done))]
    rfl

theorem keep_s_power : keepOf Try.f60 = [0, 2, 5, 3] := by kernel_rfl
set_option maxHeartbeats 20000000 in
theorem s_power (n : Nat) (hn : n ≤ 40) : CW cxT 60 [iV n] = some (iV ((2 ^ n : Nat) : Int), []) := by
  refine fn_intro rfl Try.func60 rfl ⟨by kernel_rfl, rfl, of_decide_eq_true rfl, of_decide_eq_true rfl, by decide⟩ keep_s_power ?_
  refine xa_seq ?_
  refine xa_region ?_
  refine x_assign rfl rfl rfl ?_
  refine xr_nil ⟨nofun, [(.t 0, _)], ⟨rfl, rfl, trivial⟩, ?_⟩
  refine xa_seq ?_
  refine xa_region ?_
  refine x_assign rfl rfl rfl ?_
  refine xr_nil ⟨nofun, [(.t 0, _), (.t 3, _)], ⟨rfl, rfl, rfl, rfl, trivial⟩, ?_⟩
  refine xa_seq ?_
  refine xa_block ?_
  refine xa_loop (β := Nat) (fun (k : Nat) => [(.t 0, iV ((n - k : Nat) : Int)), (.t 3, iV ((2 ^ k : Nat) : Int))]) (fun (k : Nat) => k ≤ n) (fun (k : Nat) => n - k) 0 ⟨rfl, rfl, trivial⟩ (Nat.zero_le _) ?_
  intro k hb
  have hp0 := Nat.two_pow_pos k
  have hpk := Nat.pow_le_pow_right (n := 2) (by decide) hb
  have hpn := Nat.pow_le_pow_right (n := 2) (by decide) hn
  refine xa_seq ?_
  refine xa_seq ?_
  refine xa_region ?_
  refine x_move rfl rfl ?_
  refine x_gtr rfl rfl ?_
  refine xr_nil ⟨nofun, [(.t 0, _), (.t 3, _), (.t 5, _)], ⟨rfl, rfl, rfl, rfl, rfl, rfl, trivial⟩, ?_⟩
  refine xa_cond rfl (fun hc => ?_) (fun hc => ?_)
  · try simp only [decide_eq_true_eq, decide_eq_false_iff_not, Bool.not_eq_true', Bool.not_eq_false', bne_iff_ne, beq_iff_eq, ne_eq, Bool.not_true, Bool.not_false, beq_eq_false_iff_ne, bne_eq_false_iff_eq, Decidable.not_not, Int.not_lt, Int.not_le, Bool.and_eq_true, Bool.and_eq_false_iff, Bool.or_eq_true, Bool.or_eq_false_iff, List.length_map] at hc
    refine xa_skip ?_
    refine xa_seq ?_
    refine xa_block ?_
    refine xa_region ?_
    refine x_move rfl rfl ?_
    refine x_mul rfl rfl (inI64 (by omega)) ?_
    refine x_assign rfl rfl rfl ?_
    refine xr_nil ⟨nofun, [(.t 0, _), (.t 3, _)], ⟨rfl, rfl, rfl, rfl, trivial⟩, ?_⟩
    refine xa_region ?_
    refine x_move rfl rfl ?_
    refine x_sub rfl rfl (inI64 (by omega)) ?_
    refine x_assign rfl rfl rfl ?_
    refine xr_nil ⟨nofun, [(.t 0, _), (.t 3, _)], ⟨rfl, rfl, rfl, rfl, trivial⟩, ?_⟩
    refine ⟨k + 1, by omega, by omega, ?_⟩
    rw [show ((n - (k + 1) : Nat) : Int) = ((n - k : Nat) : Int) - 1 from by omega, show ((2 ^ (k + 1) : Nat) : Int) = 2 * ((2 ^ k : Nat) : Int) from by rw [Nat.pow_succ]; omega]
    exact ⟨rfl, rfl, trivial⟩
  · try simp only [decide_eq_true_eq, decide_eq_false_iff_not, Bool.not_eq_true', Bool.not_eq_false', bne_iff_ne, beq_iff_eq, ne_eq, Bool.not_true, Bool.not_false, beq_eq_false_iff_ne, bne_eq_false_iff_eq, Decidable.not_not, Int.not_lt, Int.not_le, Bool.and_eq_true, Bool.and_eq_false_iff, Bool.or_eq_true, Bool.or_eq_false_iff, List.length_map] at hc
    refine xa_exit ?_
    refine xa_seq ?_
    refine xa_region ?_
    refine x_move rfl rfl ?_
    refine x_assign rfl rfl rfl ?_
    refine xr_nil ⟨nofun, [(.t 2, _)], ⟨rfl, rfl, trivial⟩, ?_⟩
    refine xa_ret ?_
    refine ret_val' rfl rfl trivial ?_
    rw [show k = n from by omega]

theorem keep_s_bit : keepOf Try.f61 = [0, 1, 4] := by kernel_rfl
set_option maxHeartbeats 20000000 in
theorem s_bit (s i : Nat) (hs : s ≤ 1000000) (hi : i ≤ 40) : CW cxT 61 [iV s, iV i] = some (iV (bitN s i : Int), []) := by
  refine fn_intro rfl Try.func61 rfl ⟨by kernel_rfl, rfl, of_decide_eq_true rfl, of_decide_eq_true rfl, by decide⟩ keep_s_bit ?_
  refine xa_seq ?_
  refine xa_region ?_
  refine x_assign rfl rfl rfl ?_
  refine xr_nil ⟨nofun, [(.t 0, _), (.t 1, _)], ⟨rfl, rfl, rfl, rfl, trivial⟩, ?_⟩
  refine xa_seq ?_
  refine xa_region ?_
  refine x_move rfl rfl ?_
  refine x_move rfl rfl ?_
  apply x_call rfl
  · apply pa_cons
    · exact pa_plain rfl
    exact pa_nil
  · exact s_power i hi
  · exact ⟨rfl, rfl, rfl, of_decide_eq_true rfl, rfl⟩
  · exact .inl rfl
  · exact back_nil
  · exact inst_plain rfl
  · exact fun _ => rfl
  intro g7
  have hpp := Nat.two_pow_pos i
  have hdv := tdiv_nat s (2 ^ i)
  have hdl := Nat.div_le_self s (2 ^ i)
  refine x_quo rfl rfl ⟨by omega, inI64 (by rw [hdv]; exact nat_i64 (Nat.le_trans hdl hs))⟩ ?_
  rw [hdv]
  refine x_rem rfl rfl (by omega) ?_
  refine x_assign rfl rfl rfl ?_
  refine xr_nil ⟨nofun, [(.t 4, _)], ⟨rfl, rfl, trivial⟩, ?_⟩
  refine xa_ret ?_
  refine ret_val' rfl rfl trivial ?_
  rw [bit_val]

theorem keep_s_holds : keepOf Try.f62 = [0, 1, 2, 3, 8, 10, 16, 22, 9, 11, 35, 63] := by kernel_rfl
set_option maxHeartbeats 20000000 in
theorem s_holds (l : List Int) (hl : l.length ≤ 6) (hall : ∀ x ∈ l, 0 ≤ x ∧ x ≤ 1000) (s : Nat) (hs : s ≤ 64) (lev : Int) (hlev : 0 ≤ lev ∧ lev ≤ 1000) (e : Bool) : CW cxT 62 [L l, iV s, iV lev, bV e] = some (bV (fnd e (sortI (sel l s)) lev), []) := by
  refine fn_intro rfl Try.func62 rfl ⟨by kernel_rfl, rfl, of_decide_eq_true rfl, of_decide_eq_true rfl, by decide⟩ keep_s_holds ?_
  refine xa_seq ?_
  refine xa_region ?_
  refine x_assign rfl rfl rfl ?_
  refine xr_nil ⟨nofun, [(.t 0, _), (.t 1, _), (.t 2, _), (.t 3, _)], ⟨rfl, rfl, rfl, rfl, rfl, rfl, rfl, rfl, trivial⟩, ?_⟩
  refine xa_seq ?_
  refine xa_region ?_
  refine x_buildSlice (es := List.map iV []) rfl rfl (by decide) rfl rfl (fun _ => slot_obj (noRef_map fun _ => rfl)) (fun _ => rfl) ?_
  intro g12
  (refine x_assign_own rfl rfl (by (simp; done)) rfl (fun _ => (slot_obj (by exact noRef_map fun _ => rfl))) (fun _ => rfl) ?_; intro g9)
  refine xr_nil ⟨nofun, [(.t 0, _), (.t 1, _), (.t 2, _), (.t 3, _), (.t 9, _), (.h 9, _)], ⟨rfl, rfl, rfl, rfl, rfl, rfl, rfl, rfl, rfl, rfl, rfl, rfl, trivial⟩, ?_⟩
  refine xa_seq ?_
  refine xa_seq ?_
  refine xa_region ?_
  refine x_assign rfl rfl rfl ?_
  refine xr_nil ⟨nofun, [(.t 0, _), (.t 1, _), (.t 2, _), (.t 3, _), (.t 9, _), (.t 10, _), (.h 9, _)], ⟨rfl, rfl, rfl, rfl, rfl, rfl, rfl, rfl, rfl, rfl, rfl, rfl, rfl, rfl, trivial⟩, ?_⟩
  refine xa_block ?_
  refine xa_loopK (β := Nat × List Int × Nat) [(.t 0, _), (.t 1, _), (.t 2, _), (.t 3, _)] (fun (z : Nat × List Int × Nat) => match z with | (i, xs, g) => [(.t 10, iV i), (.t 9, .sl 9 g none 0 xs.length), (.h 9, .obj g 0 1 (xs.map iV))]) (fun (z : Nat × List Int × Nat) => match z with | (i, xs, g) => i ≤ l.length ∧ xs = selU l s i) (fun (z : Nat × List Int × Nat) => match z with | (i, xs, g) => l.length - i) (0, [], _) ⟨rfl, rfl, rfl, rfl, rfl, rfl, rfl, trivial⟩ ⟨Nat.zero_le _, rfl⟩ ?_
  intro z hb
  obtain ⟨i, xs, g⟩ := z
  try dsimp only at hb
  obtain ⟨hi1, hxs⟩ := hb
  have hxl := selU_len l s i
  rw [← hxs] at hxl
  refine xa_seq ?_
  refine xa_seq ?_
  refine xa_region ?_
  refine x_move rfl rfl ?_
  refine x_move rfl rfl ?_
  refine x_len_map rfl rfl ?_
  refine x_lss rfl rfl ?_
  refine xr_nil ⟨nofun, [(.t 0, _), (.t 1, _), (.t 2, _), (.t 3, _), (.t 9, _), (.t 10, _), (.t 16, _), (.h 9, _)], ⟨rfl, rfl, rfl, rfl, rfl, rfl, rfl, rfl, rfl, rfl, rfl, rfl, rfl, rfl, rfl, rfl, trivial⟩, ?_⟩
  refine xa_cond rfl (fun hc => ?_) (fun hc => ?_)
  · try simp only [decide_eq_true_eq, decide_eq_false_iff_not, Bool.not_eq_true', Bool.not_eq_false', bne_iff_ne, beq_iff_eq, ne_eq, Bool.not_true, Bool.not_false, beq_eq_false_iff_ne, bne_eq_false_iff_eq, Decidable.not_not, Int.not_lt, Int.not_le, Bool.and_eq_true, Bool.and_eq_false_iff, Bool.or_eq_true, Bool.or_eq_false_iff, List.length_map] at hc
    refine xa_skip ?_
    refine xa_seq ?_
    refine xa_block ?_
    refine xa_seq ?_
    refine xa_region ?_
    refine x_move rfl rfl ?_
    refine x_move rfl rfl ?_
    apply x_call rfl
    · apply pa_cons
      · exact pa_plain rfl
      apply pa_cons
      · exact pa_plain rfl
      exact pa_nil
    · exact s_bit s i (by omega) (by omega)
    · exact ⟨rfl, rfl, rfl, of_decide_eq_true rfl, rfl⟩
    · exact .inl rfl
    · exact back_nil
    · exact inst_plain rfl
    · exact fun _ => rfl
    intro g21
    refine x_eql rfl rfl ?_
    refine xr_nil ⟨nofun, [(.t 0, _), (.t 1, _), (.t 2, _), (.t 3, _), (.t 9, _), (.t 10, _), (.t 22, _), (.h 9, _)], ⟨rfl, rfl, rfl, rfl, rfl, rfl, rfl, rfl, rfl, rfl, rfl, rfl, rfl, rfl, rfl, rfl, trivial⟩, ?_⟩
    refine xa_cond rfl (fun hc => ?_) (fun hc => ?_)
    · try simp only [decide_eq_true_eq, decide_eq_false_iff_not, Bool.not_eq_true', Bool.not_eq_false', bne_iff_ne, beq_iff_eq, ne_eq, Bool.not_true, Bool.not_false, beq_eq_false_iff_ne, bne_eq_false_iff_eq, Decidable.not_not, Int.not_lt, Int.not_le, Bool.and_eq_true, Bool.and_eq_false_iff, Bool.or_eq_true, Bool.or_eq_false_iff, List.length_map] at hc
      refine xa_region ?_
      refine x_move rfl rfl ?_
      refine x_move rfl rfl ?_
      refine x_move rfl rfl ?_
      refine x_index_listN rfl rfl rfl (fun _ => rfl) (by omega) ?_
      refine x_load_iptV rfl rfl rfl ?_
      refine x_buildSlice (es := List.map iV [_]) rfl rfl (by decide) rfl rfl (fun _ => slot_obj (noRef_map fun _ => rfl)) (fun _ => rfl) ?_
      intro g28
      refine x_append_map rfl rfl rfl rfl (by simp) (by simp) (by decide) rfl rfl rfl rfl (by decide) (fun _ => ⟨rfl, rfl⟩) (by simp only [maxL]; (simp only [List.length_nil, List.length_cons, List.length_append, Nat.zero_add, List.length_map]; omega)) (fun _ => rfl) ?_
      intro g29
      (refine x_assign_own rfl rfl (by (simp; done)) rfl (fun _ => (slot_obj (by exact noRef_map fun _ => rfl))) (fun _ => rfl) ?_; intro g9)
      refine xr_nil ⟨nofun, [(.t 0, _), (.t 1, _), (.t 2, _), (.t 3, _), (.t 9, _), (.t 10, _), (.h 9, _)], ⟨rfl, rfl, rfl, rfl, rfl, rfl, rfl, rfl, rfl, rfl, rfl, rfl, rfl, rfl, trivial⟩, ?_⟩
      refine xa_region ?_
      refine x_move rfl rfl ?_
      refine x_add rfl rfl (inI64 (by omega)) ?_
      refine x_assign rfl rfl rfl ?_
      refine xr_nil ⟨nofun, [(.t 0, _), (.t 1, _), (.t 2, _), (.t 3, _), (.t 9, _), (.t 10, _), (.h 9, _)], ⟨rfl, rfl, rfl, rfl, rfl, rfl, rfl, rfl, rfl, rfl, rfl, rfl, rfl, rfl, trivial⟩, ?_⟩
      refine ⟨(i + 1, xs ++ [l.getD i default], _), ?_, (by simp only; omega), ⟨rfl, rfl, rfl, rfl, rfl, rfl, rfl, trivial⟩⟩
      exact ⟨by omega, by rw [selU, if_pos (show bitN s i = 1 by omega), hxs]⟩
    · try simp only [decide_eq_true_eq, decide_eq_false_iff_not, Bool.not_eq_true', Bool.not_eq_false', bne_iff_ne, beq_iff_eq, ne_eq, Bool.not_true, Bool.not_false, beq_eq_false_iff_ne, bne_eq_false_iff_eq, Decidable.not_not, Int.not_lt, Int.not_le, Bool.and_eq_true, Bool.and_eq_false_iff, Bool.or_eq_true, Bool.or_eq_false_iff, List.length_map] at hc
      refine xa_skip ?_
      refine xa_region ?_
      refine x_move rfl rfl ?_
      refine x_add rfl rfl (inI64 (by omega)) ?_
      refine x_assign rfl rfl rfl ?_
      refine xr_nil ⟨nofun, [(.t 0, _), (.t 1, _), (.t 2, _), (.t 3, _), (.t 9, _), (.t 10, _), (.h 9, _)], ⟨rfl, rfl, rfl, rfl, rfl, rfl, rfl, rfl, rfl, rfl, rfl, rfl, rfl, rfl, trivial⟩, ?_⟩
      refine ⟨(i + 1, xs, _), ?_, (by simp only; omega), ⟨rfl, rfl, rfl, rfl, rfl, rfl, rfl, trivial⟩⟩
      exact ⟨by omega, by rw [selU, if_neg (show ¬ bitN s i = 1 by omega), hxs]⟩
  · try simp only [decide_eq_true_eq, decide_eq_false_iff_not, Bool.not_eq_true', Bool.not_eq_false', bne_iff_ne, beq_iff_eq, ne_eq, Bool.not_true, Bool.not_false, beq_eq_false_iff_ne, bne_eq_false_iff_eq, Decidable.not_not, Int.not_lt, Int.not_le, Bool.and_eq_true, Bool.and_eq_false_iff, Bool.or_eq_true, Bool.or_eq_false_iff, List.length_map] at hc
    refine xa_exit ?_
    refine xa_seq ?_
    refine xa_region ?_
    refine x_move rfl rfl ?_
    have hsx : xs = sel l s := by rw [hxs]; unfold sel; congr 1; omega
    subst hsx
    have hsl := selU_len l s l.length
    have hsl2 : (sel l s).length ≤ 6 := Nat.le_trans hsl hl
    have hsb := sorted_bound (xs := sel l s) (fun x hx => hall x (sel_mem hx))
    have hse := sortI_length (sel l s)
    apply x_call rfl
    · apply pa_cons
      · exact pa_lend_map rfl rfl rfl (by (simp; done)) (fun _ => rfl)
      exact pa_nil
    · exact s_sortedS (sel l s) (by omega)
    · exact ⟨rfl, rfl, rfl, of_decide_eq_true rfl, rfl⟩
    · exact .inr ⟨hasListL_mapF fun _ => rfl, rfl⟩
    · exact back_nil
    · exact inst_own
    · exact fun _ => rfl
    intro g31
    simp only [List.length_map]
    (refine x_assign_own rfl rfl (by (simp; done)) rfl (fun _ => (slot_obj (by exact noRef_map fun _ => rfl))) (fun _ => rfl) ?_; intro g9)
    refine xr_nil ⟨nofun, [(.t 2, _), (.t 3, _), (.t 9, _), (.h 9, _)], ⟨rfl, rfl, rfl, rfl, rfl, rfl, rfl, rfl, trivial⟩, ?_⟩
    refine xa_seq ?_
    refine xa_seq ?_
    refine xa_region ?_
    refine x_assign rfl rfl rfl ?_
    refine xr_nil ⟨nofun, [(.t 2, _), (.t 3, _), (.t 9, _), (.t 11, _), (.h 9, _)], ⟨rfl, rfl, rfl, rfl, rfl, rfl, rfl, rfl, rfl, rfl, trivial⟩, ?_⟩
    refine xa_block ?_
    refine xa_loopK (β := Nat) [(.t 2, _), (.t 3, _), (.t 9, _), (.h 9, _)] (fun (j : Nat) => [(.t 11, iV j)]) (fun (j : Nat) => j ≤ (sel l s).length ∧ ∀ i, i < j → ¬ FndAt e (sortI (sel l s)) lev i) (fun (j : Nat) => (sel l s).length - j) 0 ⟨rfl, rfl, rfl, rfl, rfl, trivial⟩ ⟨Nat.zero_le _, fun j h => by omega⟩ ?_
    intro j hb
    obtain ⟨hj1, hj2⟩ := hb
    refine xa_seq ?_
    refine xa_seq ?_
    refine xa_region ?_
    refine x_move rfl rfl ?_
    refine x_move rfl rfl ?_
    refine x_len_sl rfl rfl ?_
    refine x_lss rfl rfl ?_
    refine xr_nil ⟨nofun, [(.t 2, _), (.t 3, _), (.t 9, _), (.t 11, _), (.t 35, _), (.h 9, _)], ⟨rfl, rfl, rfl, rfl, rfl, rfl, rfl, rfl, rfl, rfl, rfl, rfl, trivial⟩, ?_⟩
    refine xa_cond rfl (fun hc => ?_) (fun hc => ?_)
    · try simp only [decide_eq_true_eq, decide_eq_false_iff_not, Bool.not_eq_true', Bool.not_eq_false', bne_iff_ne, beq_iff_eq, ne_eq, Bool.not_true, Bool.not_false, beq_eq_false_iff_ne, bne_eq_false_iff_eq, Decidable.not_not, Int.not_lt, Int.not_le, Bool.and_eq_true, Bool.and_eq_false_iff, Bool.or_eq_true, Bool.or_eq_false_iff, List.length_map] at hc
      refine xa_skip ?_
      refine xa_seq ?_
      refine xa_block ?_
      refine xa_seq ?_
      refine xa_region ?_
      refine x_move rfl rfl ?_
      refine x_move rfl rfl ?_
      refine x_guard_split rfl rfl (fun hg0 => ?_) (fun hg0 => ?_)
      · have hg := hg0; try simp only [decide_eq_true_eq, decide_eq_false_iff_not, Bool.not_eq_true', Bool.not_eq_false', bne_iff_ne, beq_iff_eq, ne_eq, Bool.not_true, Bool.not_false, beq_eq_false_iff_ne, bne_eq_false_iff_eq, Decidable.not_not, Int.not_lt, Int.not_le, Bool.and_eq_true, Bool.and_eq_false_iff, Bool.or_eq_true, Bool.or_eq_false_iff] at hg
        refine x_move rfl rfl ?_
        refine x_guard_t rfl rfl (by assumption) ?_
        refine x_move rfl rfl ?_
        refine x_guard_t rfl rfl (by assumption) ?_
        refine x_index_slN rfl rfl rfl rfl (by omega) (by (simp; done)) rfl ?_
        have hb0 := hsb j (by omega)
        have hm := mul_bound hb0 (show ((sortI (sel l s)).length : Int) ≤ 6 by omega) (by omega)
        have hm2 := mul_bound hlev (show ((j : Int) + 1) ≤ 6 by omega) (by omega)
        refine x_guard_t rfl rfl (by assumption) ?_
        refine x_load_mapV rfl rfl (by omega) (fun _ => rfl) (fun _ => rfl) rfl ?_
        refine x_guard_t rfl rfl (by assumption) ?_
        refine x_move rfl rfl ?_
        refine x_guard_t rfl rfl (by assumption) ?_
        refine x_len_sl rfl rfl ?_
        refine x_guard_t rfl rfl (by assumption) ?_
        refine x_mul rfl rfl (inI64 (by omega)) ?_
        refine x_guard_t rfl rfl (by assumption) ?_
        refine x_move rfl rfl ?_
        refine x_guard_t rfl rfl (by assumption) ?_
        refine x_move rfl rfl ?_
        refine x_guard_t rfl rfl (by assumption) ?_
        refine x_add rfl rfl (inI64 (by omega)) ?_
        refine x_guard_t rfl rfl (by assumption) ?_
        refine x_mul rfl rfl (inI64 (by omega)) ?_
        refine x_guard_t rfl rfl (by assumption) ?_
        refine x_leq rfl rfl ?_
        refine x_pick_t rfl (by assumption) rfl rfl ?_
        refine x_move rfl rfl ?_
        refine x_guard_split rfl rfl (fun hg0 => ?_) (fun hg0 => ?_)
        · have hg := hg0; try simp only [decide_eq_true_eq, decide_eq_false_iff_not, Bool.not_eq_true', Bool.not_eq_false', bne_iff_ne, beq_iff_eq, ne_eq, Bool.not_true, Bool.not_false, beq_eq_false_iff_ne, bne_eq_false_iff_eq, Decidable.not_not, Int.not_lt, Int.not_le, Bool.and_eq_true, Bool.and_eq_false_iff, Bool.or_eq_true, Bool.or_eq_false_iff] at hg
          refine x_move rfl rfl ?_
          refine x_guard_t rfl rfl (by assumption) ?_
          refine x_move rfl rfl ?_
          refine x_guard_t rfl rfl (by assumption) ?_
          refine x_index_slN rfl rfl rfl rfl (by omega) (by (simp; done)) rfl ?_
          have hb0 := hsb j (by omega)
          have hm := mul_bound hb0 (show ((sortI (sel l s)).length : Int) ≤ 6 by omega) (by omega)
          refine x_guard_t rfl rfl (by assumption) ?_
          refine x_load_mapV rfl rfl (by omega) (fun _ => rfl) (fun _ => rfl) rfl ?_
          refine x_guard_t rfl rfl (by assumption) ?_
          refine x_move rfl rfl ?_
          refine x_guard_t rfl rfl (by assumption) ?_
          refine x_len_sl rfl rfl ?_
          refine x_guard_t rfl rfl (by assumption) ?_
          refine x_mul rfl rfl (inI64 (by omega)) ?_
          refine x_guard_t rfl rfl (by assumption) ?_
          refine x_move rfl rfl ?_
          refine x_guard_t rfl rfl (by assumption) ?_
          refine x_leq rfl rfl ?_
          refine x_pick_f rfl (by assumption) rfl rfl ?_
          refine xr_nil ⟨nofun, [(.t 2, _), (.t 3, _), (.t 9, _), (.t 11, _), (.t 63, _), (.h 9, _)], ⟨rfl, rfl, rfl, rfl, rfl, rfl, rfl, rfl, rfl, rfl, rfl, rfl, trivial⟩, ?_⟩
          refine xa_cond rfl (fun hc => ?_) (fun hc => ?_)
          · try simp only [decide_eq_true_eq, decide_eq_false_iff_not, Bool.not_eq_true', Bool.not_eq_false', bne_iff_ne, beq_iff_eq, ne_eq, Bool.not_true, Bool.not_false, beq_eq_false_iff_ne, bne_eq_false_iff_eq, Decidable.not_not, Int.not_lt, Int.not_le, Bool.and_eq_true, Bool.and_eq_false_iff, Bool.or_eq_true, Bool.or_eq_false_iff, List.length_map] at hc
            refine xa_seq ?_
            refine xa_region ?_
            refine x_assign rfl rfl rfl ?_
            refine xr_nil ⟨nofun, [(.t 8, _)], ⟨rfl, rfl, trivial⟩, ?_⟩
            refine xa_ret ?_
            refine ret_val' rfl rfl trivial ?_
            exact congrArg bV (fnd_t (FndAt.hit (j := j) (by omega) (by simp_all [FndAt]; try omega) hlev)).symm
          · try simp only [decide_eq_true_eq, decide_eq_false_iff_not, Bool.not_eq_true', Bool.not_eq_false', bne_iff_ne, beq_iff_eq, ne_eq, Bool.not_true, Bool.not_false, beq_eq_false_iff_ne, bne_eq_false_iff_eq, Decidable.not_not, Int.not_lt, Int.not_le, Bool.and_eq_true, Bool.and_eq_false_iff, Bool.or_eq_true, Bool.or_eq_false_iff, List.length_map] at hc
            refine xa_skip ?_
            refine xa_region ?_
            refine x_move rfl rfl ?_
            refine x_add rfl rfl (inI64 (by omega)) ?_
            refine x_assign rfl rfl rfl ?_
            refine xr_nil ⟨nofun, [(.t 2, _), (.t 3, _), (.t 9, _), (.t 11, _), (.h 9, _)], ⟨rfl, rfl, rfl, rfl, rfl, rfl, rfl, rfl, rfl, rfl, trivial⟩, ?_⟩
            refine ⟨j + 1, ⟨by omega, fun a ha => by rcases Nat.lt_succ_iff_lt_or_eq.1 ha with h | h; exact hj2 a h; subst h; exact (by simp_all [FndAt]; try omega)⟩, (by omega), ⟨rfl, rfl, rfl, rfl, rfl, trivial⟩⟩
        · have hg := hg0; try simp only [decide_eq_true_eq, decide_eq_false_iff_not, Bool.not_eq_true', Bool.not_eq_false', bne_iff_ne, beq_iff_eq, ne_eq, Bool.not_true, Bool.not_false, beq_eq_false_iff_ne, bne_eq_false_iff_eq, Decidable.not_not, Int.not_lt, Int.not_le, Bool.and_eq_true, Bool.and_eq_false_iff, Bool.or_eq_true, Bool.or_eq_false_iff] at hg
          refine x_guard_f rfl rfl (by assumption) ?_
          refine x_guard_f rfl rfl (by assumption) ?_
          have hb0 := hsb j (by omega)
          have hm := mul_bound hb0 (show ((sortI (sel l s)).length : Int) ≤ 6 by omega) (by omega)
          refine x_guard_f rfl rfl (by assumption) ?_
          refine x_guard_f rfl rfl (by assumption) ?_
          refine x_guard_f rfl rfl (by assumption) ?_
          refine x_guard_f rfl rfl (by assumption) ?_
          refine x_guard_f rfl rfl (by assumption) ?_
          refine x_guard_f rfl rfl (by assumption) ?_
          refine x_pick_t rfl (by assumption) rfl rfl ?_
          refine xr_nil ⟨nofun, [(.t 2, _), (.t 3, _), (.t 9, _), (.t 11, _), (.t 63, _), (.h 9, _)], ⟨rfl, rfl, rfl, rfl, rfl, rfl, rfl, rfl, rfl, rfl, rfl, rfl, trivial⟩, ?_⟩
          refine xa_cond rfl (fun hc => ?_) (fun hc => absurd hc (by decide))
          refine xa_seq ?_
          refine xa_region ?_
          refine x_assign rfl rfl rfl ?_
          refine xr_nil ⟨nofun, [(.t 8, _)], ⟨rfl, rfl, trivial⟩, ?_⟩
          refine xa_ret ?_
          refine ret_val' rfl rfl trivial ?_
          exact congrArg bV (fnd_t (FndAt.hit (j := j) (by omega) (by simp_all [FndAt]; try omega) hlev)).symm
      · have hg := hg0; try simp only [decide_eq_true_eq, decide_eq_false_iff_not, Bool.not_eq_true', Bool.not_eq_false', bne_iff_ne, beq_iff_eq, ne_eq, Bool.not_true, Bool.not_false, beq_eq_false_iff_ne, bne_eq_false_iff_eq, Decidable.not_not, Int.not_lt, Int.not_le, Bool.and_eq_true, Bool.and_eq_false_iff, Bool.or_eq_true, Bool.or_eq_false_iff] at hg
        refine x_guard_f rfl rfl (by assumption) ?_
        refine x_guard_f rfl rfl (by assumption) ?_
        have hb0 := hsb j (by omega)
        have hm := mul_bound hb0 (show ((sortI (sel l s)).length : Int) ≤ 6 by omega) (by omega)
        have hm2 := mul_bound hlev (show ((j : Int) + 1) ≤ 6 by omega) (by omega)
        refine x_guard_f rfl rfl (by assumption) ?_
        refine x_guard_f rfl rfl (by assumption) ?_
        refine x_guard_f rfl rfl (by assumption) ?_
        refine x_guard_f rfl rfl (by assumption) ?_
        refine x_guard_f rfl rfl (by assumption) ?_
        refine x_guard_f rfl rfl (by assumption) ?_
        refine x_guard_f rfl rfl (by assumption) ?_
        refine x_guard_f rfl rfl (by assumption) ?_
        refine x_guard_f rfl rfl (by assumption) ?_
        refine x_pick_f rfl (by assumption) rfl rfl ?_
        refine x_move rfl rfl ?_
        refine x_guard_t rfl rfl (by rfl) ?_
        refine x_move rfl rfl ?_
        refine x_guard_t rfl rfl (by rfl) ?_
        refine x_move rfl rfl ?_
        refine x_guard_t rfl rfl (by rfl) ?_
        refine x_index_slN rfl rfl rfl rfl (by omega) (by (simp; done)) rfl ?_
        have hb0 := hsb j (by omega)
        have hm := mul_bound hb0 (show ((sortI (sel l s)).length : Int) ≤ 6 by omega) (by omega)
        refine x_guard_t rfl rfl (by rfl) ?_
        refine x_load_mapV rfl rfl (by omega) (fun _ => rfl) (fun _ => rfl) rfl ?_
        refine x_guard_t rfl rfl (by rfl) ?_
        refine x_move rfl rfl ?_
        refine x_guard_t rfl rfl (by rfl) ?_
        refine x_len_sl rfl rfl ?_
        refine x_guard_t rfl rfl (by rfl) ?_
        refine x_mul rfl rfl (inI64 (by omega)) ?_
        refine x_guard_t rfl rfl (by rfl) ?_
        refine x_move rfl rfl ?_
        refine x_guard_t rfl rfl (by rfl) ?_
        refine x_leq rfl rfl ?_
        refine x_pick_f rfl (by rfl) rfl rfl ?_
        refine xr_nil ⟨nofun, [(.t 2, _), (.t 3, _), (.t 9, _), (.t 11, _), (.t 63, _), (.h 9, _)], ⟨rfl, rfl, rfl, rfl, rfl, rfl, rfl, rfl, rfl, rfl, rfl, rfl, trivial⟩, ?_⟩
        refine xa_cond rfl (fun hc => ?_) (fun hc => ?_)
        · try simp only [decide_eq_true_eq, decide_eq_false_iff_not, Bool.not_eq_true', Bool.not_eq_false', bne_iff_ne, beq_iff_eq, ne_eq, Bool.not_true, Bool.not_false, beq_eq_false_iff_ne, bne_eq_false_iff_eq, Decidable.not_not, Int.not_lt, Int.not_le, Bool.and_eq_true, Bool.and_eq_false_iff, Bool.or_eq_true, Bool.or_eq_false_iff, List.length_map] at hc
          refine xa_seq ?_
          refine xa_region ?_
          refine x_assign rfl rfl rfl ?_
          refine xr_nil ⟨nofun, [(.t 8, _)], ⟨rfl, rfl, trivial⟩, ?_⟩
          refine xa_ret ?_
          refine ret_val' rfl rfl trivial ?_
          exact congrArg bV (fnd_t (FndAt.hit (j := j) (by omega) (by simp_all [FndAt]; try omega) hlev)).symm
        · try simp only [decide_eq_true_eq, decide_eq_false_iff_not, Bool.not_eq_true', Bool.not_eq_false', bne_iff_ne, beq_iff_eq, ne_eq, Bool.not_true, Bool.not_false, beq_eq_false_iff_ne, bne_eq_false_iff_eq, Decidable.not_not, Int.not_lt, Int.not_le, Bool.and_eq_true, Bool.and_eq_false_iff, Bool.or_eq_true, Bool.or_eq_false_iff, List.length_map] at hc
          refine xa_skip ?_
          refine xa_region ?_
          refine x_move rfl rfl ?_
          refine x_add rfl rfl (inI64 (by omega)) ?_
          refine x_assign rfl rfl rfl ?_
          refine xr_nil ⟨nofun, [(.t 2, _), (.t 3, _), (.t 9, _), (.t 11, _), (.h 9, _)], ⟨rfl, rfl, rfl, rfl, rfl, rfl, rfl, rfl, rfl, rfl, trivial⟩, ?_⟩
          refine ⟨j + 1, ⟨by omega, fun a ha => by rcases Nat.lt_succ_iff_lt_or_eq.1 ha with h | h; exact hj2 a h; subst h; exact (by simp_all [FndAt]; try omega)⟩, (by omega), ⟨rfl, rfl, rfl, rfl, rfl, trivial⟩⟩
    · try simp only [decide_eq_true_eq, decide_eq_false_iff_not, Bool.not_eq_true', Bool.not_eq_false', bne_iff_ne, beq_iff_eq, ne_eq, Bool.not_true, Bool.not_false, beq_eq_false_iff_ne, bne_eq_false_iff_eq, Decidable.not_not, Int.not_lt, Int.not_le, Bool.and_eq_true, Bool.and_eq_false_iff, Bool.or_eq_true, Bool.or_eq_false_iff, List.length_map] at hc
      refine xa_exit ?_
      refine xa_seq ?_
      refine xa_region ?_
      refine x_assign rfl rfl rfl ?_
      refine xr_nil ⟨nofun, [(.t 8, _)], ⟨rfl, rfl, trivial⟩, ?_⟩
      refine xa_ret ?_
      refine ret_val' rfl rfl trivial ?_
      exact congrArg bV (fnd_f (FndAt.none hlev fun i hi => hj2 i (by omega))).symm

theorem keep_s_closedC : keepOf Try.f49 = [0, 1, 2, 6, 8, 15, 10, 22, 9, 39, 7] := by kernel_rfl
set_option maxHeartbeats 20000000 in
theorem s_closedC (l : List Int) (hl : l.length ≤ 6) (hall : ∀ x ∈ l, 0 ≤ x ∧ x ≤ 1000) (lev : Int) (hlev : 0 ≤ lev ∧ lev ≤ 1000) (e : Bool) : CW cxT 49 [L l, iV lev, bV e] = some (.own 1 ((clo l lev e).map iV), []) := by
  have hp6 := pow6 hl
  refine fn_intro rfl Try.func49 rfl ⟨by kernel_rfl, rfl, of_decide_eq_true rfl, of_decide_eq_true rfl, by decide⟩ keep_s_closedC ?_
  refine xa_seq ?_
  refine xa_region ?_
  (refine x_assign_nil rfl rfl (fun _ => rfl) ?_; intro g6)
  refine xr_nil ⟨nofun, [(.t 0, _), (.t 1, _), (.t 2, _)], ⟨rfl, rfl, rfl, rfl, rfl, rfl, trivial⟩, ?_⟩
  refine xa_seq ?_
  refine xa_region ?_
  refine x_buildSlice (es := List.map iV []) rfl rfl (by decide) rfl rfl (fun _ => slot_obj (noRef_map fun _ => rfl)) (fun _ => rfl) ?_
  intro g11
  (refine x_assign_own rfl rfl (by (simp; done)) rfl (fun _ => (slot_obj (by exact noRef_map fun _ => rfl))) (fun _ => rfl) ?_; intro g7)
  refine xr_nil ⟨nofun, [(.t 0, _), (.t 1, _), (.t 2, _), (.t 7, _), (.h 7, _)], ⟨rfl, rfl, rfl, rfl, rfl, rfl, rfl, rfl, rfl, rfl, trivial⟩, ?_⟩
  refine xa_seq ?_
  refine xa_seq ?_
  refine xa_region ?_
  refine x_assign rfl rfl rfl ?_
  refine xr_nil ⟨nofun, [(.t 0, _), (.t 1, _), (.t 2, _), (.t 7, _), (.t 8, _), (.h 7, _)], ⟨rfl, rfl, rfl, rfl, rfl, rfl, rfl, rfl, rfl, rfl, rfl, rfl, trivial⟩, ?_⟩
  refine xa_block ?_
  refine xa_loopK (β := Nat × List Int × Nat) [(.t 0, _), (.t 1, _), (.t 2, _)] (fun (z : Nat × List Int × Nat) => match z with | (i, xs, g) => [(.t 8, iV i), (.t 7, .sl 7 g none 0 xs.length), (.h 7, .obj g 0 1 (xs.map iV))]) (fun (z : Nat × List Int × Nat) => match z with | (i, xs, g) => i ≤ l.length ∧ xs = cloU l lev e i) (fun (z : Nat × List Int × Nat) => match z with | (i, xs, g) => l.length - i) (0, [], _) ⟨rfl, rfl, rfl, rfl, rfl, rfl, trivial⟩ ⟨Nat.zero_le _, rfl⟩ ?_
  intro z hb
  obtain ⟨i, xs, g⟩ := z
  try dsimp only at hb
  obtain ⟨hi1, hxs⟩ := hb
  have hxl := cloU_len l lev e i
  rw [← hxs] at hxl
  refine xa_seq ?_
  refine xa_seq ?_
  refine xa_region ?_
  refine x_move rfl rfl ?_
  refine x_move rfl rfl ?_
  refine x_len_map rfl rfl ?_
  refine x_lss rfl rfl ?_
  refine xr_nil ⟨nofun, [(.t 0, _), (.t 1, _), (.t 2, _), (.t 7, _), (.t 8, _), (.t 15, _), (.h 7, _)], ⟨rfl, rfl, rfl, rfl, rfl, rfl, rfl, rfl, rfl, rfl, rfl, rfl, rfl, rfl, trivial⟩, ?_⟩
  refine xa_cond rfl (fun hc => ?_) (fun hc => ?_)
  · try simp only [decide_eq_true_eq, decide_eq_false_iff_not, Bool.not_eq_true', Bool.not_eq_false', bne_iff_ne, beq_iff_eq, ne_eq, Bool.not_true, Bool.not_false, beq_eq_false_iff_ne, bne_eq_false_iff_eq, Decidable.not_not, Int.not_lt, Int.not_le, Bool.and_eq_true, Bool.and_eq_false_iff, Bool.or_eq_true, Bool.or_eq_false_iff, List.length_map] at hc
    refine xa_skip ?_
    refine xa_seq ?_
    refine xa_block ?_
    refine xa_seq ?_
    refine xa_region ?_
    refine x_assign rfl rfl rfl ?_
    refine xr_nil ⟨nofun, [(.t 0, _), (.t 1, _), (.t 2, _), (.t 7, _), (.t 8, _), (.t 9, _), (.h 7, _)], ⟨rfl, rfl, rfl, rfl, rfl, rfl, rfl, rfl, rfl, rfl, rfl, rfl, rfl, rfl, trivial⟩, ?_⟩
    refine xa_seq ?_
    refine xa_seq ?_
    refine xa_region ?_
    refine x_assign rfl rfl rfl ?_
    refine xr_nil ⟨nofun, [(.t 0, _), (.t 1, _), (.t 2, _), (.t 7, _), (.t 8, _), (.t 9, _), (.t 10, _), (.h 7, _)], ⟨rfl, rfl, rfl, rfl, rfl, rfl, rfl, rfl, rfl, rfl, rfl, rfl, rfl, rfl, rfl, rfl, trivial⟩, ?_⟩
    refine xa_block ?_
    refine xa_loopK (β := Nat × Bool) [(.t 0, _), (.t 1, _), (.t 2, _), (.t 7, _), (.t 8, _), (.h 7, _)] (fun (z : Nat × Bool) => match z with | (s, b) => [(.t 10, iV s), (.t 9, bV b)]) (fun (z : Nat × Bool) => match z with | (s, b) => 1 ≤ s ∧ s ≤ 2 ^ l.length ∧ (b = true ↔ ∀ s1, 1 ≤ s1 → s1 < s → bitN s1 i = 1 → Fnd e (sortI (sel l s1)) lev)) (fun (z : Nat × Bool) => match z with | (s, b) => 2 ^ l.length - s) (1, true) ⟨rfl, rfl, rfl, rfl, rfl, rfl, rfl, rfl, trivial⟩ ⟨Nat.le_refl _, Nat.one_le_two_pow, fun _ s1 h1 h2 => by omega, fun _ => rfl⟩ ?_
    intro z hb
    obtain ⟨s, b⟩ := z
    try dsimp only at hb
    obtain ⟨hs1, hs2, hs3⟩ := hb
    refine xa_seq ?_
    refine xa_seq ?_
    refine xa_region ?_
    refine x_move rfl rfl ?_
    refine x_move rfl rfl ?_
    refine x_len_map rfl rfl ?_
    apply x_call rfl
    · apply pa_cons
      · exact pa_plain rfl
      exact pa_nil
    · exact s_power l.length (by omega)
    · exact ⟨rfl, rfl, rfl, of_decide_eq_true rfl, rfl⟩
    · exact .inl rfl
    · exact back_nil
    · exact inst_plain rfl
    · exact fun _ => rfl
    intro g21
    refine x_lss rfl rfl ?_
    refine xr_nil ⟨nofun, [(.t 0, _), (.t 1, _), (.t 2, _), (.t 7, _), (.t 8, _), (.t 9, _), (.t 10, _), (.t 22, _), (.h 7, _)], ⟨rfl, rfl, rfl, rfl, rfl, rfl, rfl, rfl, rfl, rfl, rfl, rfl, rfl, rfl, rfl, rfl, rfl, rfl, trivial⟩, ?_⟩
    refine xa_cond rfl (fun hc => ?_) (fun hc => ?_)
    · try simp only [decide_eq_true_eq, decide_eq_false_iff_not, Bool.not_eq_true', Bool.not_eq_false', bne_iff_ne, beq_iff_eq, ne_eq, Bool.not_true, Bool.not_false, beq_eq_false_iff_ne, bne_eq_false_iff_eq, Decidable.not_not, Int.not_lt, Int.not_le, Bool.and_eq_true, Bool.and_eq_false_iff, Bool.or_eq_true, Bool.or_eq_false_iff, List.length_map] at hc
      refine xa_skip ?_
      refine xa_seq ?_
      refine xa_block ?_
      refine xa_region ?_
      refine x_move rfl rfl ?_
      refine x_move rfl rfl ?_
      refine x_guard_split rfl rfl (fun hg0 => ?_) (fun hg0 => ?_)
      · have hg := hg0; try simp only [decide_eq_true_eq, decide_eq_false_iff_not, Bool.not_eq_true', Bool.not_eq_false', bne_iff_ne, beq_iff_eq, ne_eq, Bool.not_true, Bool.not_false, beq_eq_false_iff_ne, bne_eq_false_iff_eq, Decidable.not_not, Int.not_lt, Int.not_le, Bool.and_eq_true, Bool.and_eq_false_iff, Bool.or_eq_true, Bool.or_eq_false_iff] at hg
        refine x_move rfl rfl ?_
        refine x_guard_t rfl rfl (by assumption) ?_
        refine x_move rfl rfl ?_
        refine x_guard_t rfl rfl (by assumption) ?_
        apply x_call rfl
        · apply pa_cons
          · exact pa_plain rfl
          apply pa_cons
          · exact pa_plain rfl
          exact pa_nil
        · exact s_bit s i (by omega) (by omega)
        · exact ⟨rfl, rfl, rfl, of_decide_eq_true rfl, rfl⟩
        · exact .inl rfl
        · exact back_nil
        · exact inst_plain rfl
        · exact fun _ => rfl
        intro g29
        refine x_guard_t rfl rfl (by assumption) ?_
        refine x_eql rfl rfl ?_
        refine x_guard_t rfl rfl (by assumption) ?_
        refine x_move rfl rfl ?_
        refine x_guard_split rfl rfl (fun hg0 => ?_) (fun hg0 => ?_)
        · have hg := hg0; try simp only [decide_eq_true_eq, decide_eq_false_iff_not, Bool.not_eq_true', Bool.not_eq_false', bne_iff_ne, beq_iff_eq, ne_eq, Bool.not_true, Bool.not_false, beq_eq_false_iff_ne, bne_eq_false_iff_eq, Decidable.not_not, Int.not_lt, Int.not_le, Bool.and_eq_true, Bool.and_eq_false_iff, Bool.or_eq_true, Bool.or_eq_false_iff] at hg
          refine x_move rfl rfl ?_
          refine x_guard_t rfl rfl (by assumption) ?_
          refine x_move rfl rfl ?_
          refine x_guard_t rfl rfl (by assumption) ?_
          refine x_move rfl rfl ?_
          refine x_guard_t rfl rfl (by assumption) ?_
          refine x_move rfl rfl ?_
          refine x_guard_t rfl rfl (by assumption) ?_
          apply x_call rfl
          · apply pa_cons
            · exact pa_plain rfl
            apply pa_cons
            · exact pa_plain rfl
            apply pa_cons
            · exact pa_plain rfl
            apply pa_cons
            · exact pa_plain rfl
            exact pa_nil
          · exact s_holds l hl hall s (by omega) lev hlev e
          · exact ⟨rfl, rfl, rfl, of_decide_eq_true rfl, rfl⟩
          · exact .inl rfl
          · exact back_nil
          · exact inst_plain rfl
          · exact fun _ => rfl
          intro g36
          refine x_guard_t rfl rfl (by assumption) ?_
          refine x_pick_f rfl (by assumption) rfl rfl ?_
          refine x_pick_t rfl (by assumption) rfl rfl ?_
          refine x_assign rfl rfl rfl ?_
          refine xr_nil ⟨nofun, [(.t 0, _), (.t 1, _), (.t 2, _), (.t 7, _), (.t 8, _), (.t 9, _), (.t 10, _), (.h 7, _)], ⟨rfl, rfl, rfl, rfl, rfl, rfl, rfl, rfl, rfl, rfl, rfl, rfl, rfl, rfl, rfl, rfl, trivial⟩, ?_⟩
          refine xa_region ?_
          refine x_move rfl rfl ?_
          refine x_add rfl rfl (inI64 (by omega)) ?_
          refine x_assign rfl rfl rfl ?_
          refine xr_nil ⟨nofun, [(.t 0, _), (.t 1, _), (.t 2, _), (.t 7, _), (.t 8, _), (.t 9, _), (.t 10, _), (.h 7, _)], ⟨rfl, rfl, rfl, rfl, rfl, rfl, rfl, rfl, rfl, rfl, rfl, rfl, rfl, rfl, rfl, rfl, trivial⟩, ?_⟩
          refine ⟨(s + 1, _), ?_, (by simp only; omega), ⟨rfl, rfl, rfl, rfl, rfl, rfl, rfl, rfl, trivial⟩⟩
          refine ⟨by omega, by omega, closed_step hs3 (by omega) ?_⟩
          simp_all [ofConst]
        · have hg := hg0; try simp only [decide_eq_true_eq, decide_eq_false_iff_not, Bool.not_eq_true', Bool.not_eq_false', bne_iff_ne, beq_iff_eq, ne_eq, Bool.not_true, Bool.not_false, beq_eq_false_iff_ne, bne_eq_false_iff_eq, Decidable.not_not, Int.not_lt, Int.not_le, Bool.and_eq_true, Bool.and_eq_false_iff, Bool.or_eq_true, Bool.or_eq_false_iff] at hg
          refine x_guard_f rfl rfl (by assumption) ?_
          refine x_guard_f rfl rfl (by assumption) ?_
          refine x_guard_f rfl rfl (by assumption) ?_
          refine x_guard_f rfl rfl (by assumption) ?_
          refine x_guard_t rfl rfl (by assumption) ?_
          refine x_pick_t rfl (by assumption) rfl rfl ?_
          refine x_pick_t rfl (by assumption) rfl rfl ?_
          refine x_assign rfl rfl rfl ?_
          refine xr_nil ⟨nofun, [(.t 0, _), (.t 1, _), (.t 2, _), (.t 7, _), (.t 8, _), (.t 9, _), (.t 10, _), (.h 7, _)], ⟨rfl, rfl, rfl, rfl, rfl, rfl, rfl, rfl, rfl, rfl, rfl, rfl, rfl, rfl, rfl, rfl, trivial⟩, ?_⟩
          refine xa_region ?_
          refine x_move rfl rfl ?_
          refine x_add rfl rfl (inI64 (by omega)) ?_
          refine x_assign rfl rfl rfl ?_
          refine xr_nil ⟨nofun, [(.t 0, _), (.t 1, _), (.t 2, _), (.t 7, _), (.t 8, _), (.t 9, _), (.t 10, _), (.h 7, _)], ⟨rfl, rfl, rfl, rfl, rfl, rfl, rfl, rfl, rfl, rfl, rfl, rfl, rfl, rfl, rfl, rfl, trivial⟩, ?_⟩
          refine ⟨(s + 1, _), ?_, (by simp only; omega), ⟨rfl, rfl, rfl, rfl, rfl, rfl, rfl, rfl, trivial⟩⟩
          refine ⟨by omega, by omega, closed_step hs3 (by omega) ?_⟩
          simp_all [ofConst]
      · have hg := hg0; try simp only [decide_eq_true_eq, decide_eq_false_iff_not, Bool.not_eq_true', Bool.not_eq_false', bne_iff_ne, beq_iff_eq, ne_eq, Bool.not_true, Bool.not_false, beq_eq_false_iff_ne, bne_eq_false_iff_eq, Decidable.not_not, Int.not_lt, Int.not_le, Bool.and_eq_true, Bool.and_eq_false_iff, Bool.or_eq_true, Bool.or_eq_false_iff] at hg
        refine x_guard_f rfl rfl (by assumption) ?_
        refine x_guard_f rfl rfl (by assumption) ?_
        refine x_guard_f rfl rfl (by assumption) ?_
        refine x_guard_f rfl rfl (by assumption) ?_
        refine x_guard_u rfl rfl ?_
        refine x_guard_u rfl rfl ?_
        refine x_guard_u rfl rfl ?_
        refine x_guard_u rfl rfl ?_
        refine x_guard_u rfl rfl ?_
        refine x_guard_f rfl rfl (by assumption) ?_
        refine x_pick_f rfl (by assumption) rfl rfl ?_
        refine x_assign rfl rfl rfl ?_
        refine xr_nil ⟨nofun, [(.t 0, _), (.t 1, _), (.t 2, _), (.t 7, _), (.t 8, _), (.t 9, _), (.t 10, _), (.h 7, _)], ⟨rfl, rfl, rfl, rfl, rfl, rfl, rfl, rfl, rfl, rfl, rfl, rfl, rfl, rfl, rfl, rfl, trivial⟩, ?_⟩
        refine xa_region ?_
        refine x_move rfl rfl ?_
        refine x_add rfl rfl (inI64 (by omega)) ?_
        refine x_assign rfl rfl rfl ?_
        refine xr_nil ⟨nofun, [(.t 0, _), (.t 1, _), (.t 2, _), (.t 7, _), (.t 8, _), (.t 9, _), (.t 10, _), (.h 7, _)], ⟨rfl, rfl, rfl, rfl, rfl, rfl, rfl, rfl, rfl, rfl, rfl, rfl, rfl, rfl, rfl, rfl, trivial⟩, ?_⟩
        refine ⟨(s + 1, _), ?_, (by simp only; omega), ⟨rfl, rfl, rfl, rfl, rfl, rfl, rfl, rfl, trivial⟩⟩
        refine ⟨by omega, by omega, closed_step hs3 (by omega) ?_⟩
        simp_all [ofConst]
    · try simp only [decide_eq_true_eq, decide_eq_false_iff_not, Bool.not_eq_true', Bool.not_eq_false', bne_iff_ne, beq_iff_eq, ne_eq, Bool.not_true, Bool.not_false, beq_eq_false_iff_ne, bne_eq_false_iff_eq, Decidable.not_not, Int.not_lt, Int.not_le, Bool.and_eq_true, Bool.and_eq_false_iff, Bool.or_eq_true, Bool.or_eq_false_iff, List.length_map] at hc
      refine xa_exit ?_
      refine xa_seq ?_
      refine xa_region ?_
      refine x_move rfl rfl ?_
      refine xr_nil ⟨nofun, [(.t 0, _), (.t 1, _), (.t 2, _), (.t 7, _), (.t 8, _), (.t 39, _), (.h 7, _)], ⟨rfl, rfl, rfl, rfl, rfl, rfl, rfl, rfl, rfl, rfl, rfl, rfl, rfl, rfl, trivial⟩, ?_⟩
      refine xa_cond rfl (fun hc => ?_) (fun hc => ?_)
      · try simp only [decide_eq_true_eq, decide_eq_false_iff_not, Bool.not_eq_true', Bool.not_eq_false', bne_iff_ne, beq_iff_eq, ne_eq, Bool.not_true, Bool.not_false, beq_eq_false_iff_ne, bne_eq_false_iff_eq, Decidable.not_not, Int.not_lt, Int.not_le, Bool.and_eq_true, Bool.and_eq_false_iff, Bool.or_eq_true, Bool.or_eq_false_iff, List.length_map] at hc
        refine xa_region ?_
        refine x_move rfl rfl ?_
        refine x_move rfl rfl ?_
        refine x_buildSlice (es := List.map iV [_]) rfl rfl (by decide) rfl rfl (fun _ => slot_obj (noRef_map fun _ => rfl)) (fun _ => rfl) ?_
        intro g42
        refine x_append_map rfl rfl rfl rfl (by simp) (by simp) (by decide) rfl rfl rfl rfl (by decide) (fun _ => ⟨rfl, rfl⟩) (by simp only [maxL]; (simp only [List.length_nil, List.length_cons, List.length_append, Nat.zero_add, List.length_map]; omega)) (fun _ => rfl) ?_
        intro g43
        (refine x_assign_own rfl rfl (by (simp; done)) rfl (fun _ => (slot_obj (by exact noRef_map fun _ => rfl))) (fun _ => rfl) ?_; intro g7)
        refine xr_nil ⟨nofun, [(.t 0, _), (.t 1, _), (.t 2, _), (.t 7, _), (.t 8, _), (.h 7, _)], ⟨rfl, rfl, rfl, rfl, rfl, rfl, rfl, rfl, rfl, rfl, rfl, rfl, trivial⟩, ?_⟩
        refine xa_region ?_
        refine x_move rfl rfl ?_
        refine x_add rfl rfl (inI64 (by omega)) ?_
        refine x_assign rfl rfl rfl ?_
        refine xr_nil ⟨nofun, [(.t 0, _), (.t 1, _), (.t 2, _), (.t 7, _), (.t 8, _), (.h 7, _)], ⟨rfl, rfl, rfl, rfl, rfl, rfl, rfl, rfl, rfl, rfl, rfl, rfl, trivial⟩, ?_⟩
        refine ⟨(i + 1, xs ++ [(i : Int)], _), ?_, (by simp only; omega), ⟨rfl, rfl, rfl, rfl, rfl, rfl, trivial⟩⟩
        exact ⟨by omega, by rw [cloU_t (fun s1 q1 q2 q3 => hs3.1 hc s1 q1 (by omega) q3), hxs]⟩
      · try simp only [decide_eq_true_eq, decide_eq_false_iff_not, Bool.not_eq_true', Bool.not_eq_false', bne_iff_ne, beq_iff_eq, ne_eq, Bool.not_true, Bool.not_false, beq_eq_false_iff_ne, bne_eq_false_iff_eq, Decidable.not_not, Int.not_lt, Int.not_le, Bool.and_eq_true, Bool.and_eq_false_iff, Bool.or_eq_true, Bool.or_eq_false_iff, List.length_map] at hc
        refine xa_skip ?_
        refine xa_region ?_
        refine x_move rfl rfl ?_
        refine x_add rfl rfl (inI64 (by omega)) ?_
        refine x_assign rfl rfl rfl ?_
        refine xr_nil ⟨nofun, [(.t 0, _), (.t 1, _), (.t 2, _), (.t 7, _), (.t 8, _), (.h 7, _)], ⟨rfl, rfl, rfl, rfl, rfl, rfl, rfl, rfl, rfl, rfl, rfl, rfl, trivial⟩, ?_⟩
        refine ⟨(i + 1, xs, _), ?_, (by simp only; omega), ⟨rfl, rfl, rfl, rfl, rfl, rfl, trivial⟩⟩
        exact ⟨by omega, by rw [cloU_f (fun h => by have := hs3.2 (fun s1 q1 q2 q3 => h s1 q1 (by omega) q3); simp_all), hxs]⟩
  · try simp only [decide_eq_true_eq, decide_eq_false_iff_not, Bool.not_eq_true', Bool.not_eq_false', bne_iff_ne, beq_iff_eq, ne_eq, Bool.not_true, Bool.not_false, beq_eq_false_iff_ne, bne_eq_false_iff_eq, Decidable.not_not, Int.not_lt, Int.not_le, Bool.and_eq_true, Bool.and_eq_false_iff, Bool.or_eq_true, Bool.or_eq_false_iff, List.length_map] at hc
    refine xa_exit ?_
    refine xa_seq ?_
    refine xa_region ?_
    refine x_move rfl rfl ?_
    (refine x_assign_own rfl rfl (by (simp; done)) rfl (fun _ => (slot_obj (by exact noRef_map fun _ => rfl))) (fun _ => rfl) ?_; intro g6)
    refine xr_nil ⟨nofun, [(.t 6, _), (.h 6, _)], ⟨rfl, rfl, rfl, rfl, trivial⟩, ?_⟩
    refine xa_ret ?_
    refine ret_own' rfl rfl (by simp) (by exact noRef_map fun _ => rfl) trivial ?_
    rw [hxs, clo, show i = l.length by omega]

theorem keep_s_closedS : keepOf Try.f19 = [0, 1, 2, 6, 22] := by kernel_rfl
set_option maxHeartbeats 20000000 in
theorem s_closedS (l : List Int) (hl : l.length ≤ 1000) (lev : Int) (o : Option Bool) : CW cxT 19 [L l, iV lev, sV (kO o)] = some (.own 1 ((cbR l lev o).map iV), []) := by
  refine fn_intro rfl Try.func19 rfl ⟨by kernel_rfl, rfl, of_decide_eq_true rfl, of_decide_eq_true rfl, by decide⟩ keep_s_closedS ?_
  refine xa_seq ?_
  refine xa_region ?_
  (refine x_assign_nil rfl rfl (fun _ => rfl) ?_; intro g6)
  refine xr_nil ⟨nofun, [(.t 0, _), (.t 1, _), (.t 2, _)], ⟨rfl, rfl, rfl, rfl, rfl, rfl, trivial⟩, ?_⟩
  refine xa_seq ?_
  refine xa_seq ?_
  refine xa_region ?_
  refine x_move rfl rfl ?_
  apply x_call rfl
  · apply pa_cons
    · exact pa_plain rfl
    exact pa_nil
  · exact s_voS l hl
  · exact ⟨rfl, rfl, rfl, of_decide_eq_true rfl, rfl⟩
  · exact .inl rfl
  · exact back_nil
  · exact inst_plain rfl
  · exact fun _ => rfl
  intro g8
  refine x_not rfl ?_
  refine x_move rfl rfl ?_
  refine x_guard_split rfl rfl (fun hg0 => ?_) (fun hg0 => ?_)
  · have hg := hg0; try simp only [decide_eq_true_eq, decide_eq_false_iff_not, Bool.not_eq_true', Bool.not_eq_false', bne_iff_ne, beq_iff_eq, ne_eq, Bool.not_true, Bool.not_false, beq_eq_false_iff_ne, bne_eq_false_iff_eq, Decidable.not_not, Int.not_lt, Int.not_le, Bool.and_eq_true, Bool.and_eq_false_iff, Bool.or_eq_true, Bool.or_eq_false_iff] at hg
    refine x_move rfl rfl ?_
    refine x_guard_t rfl rfl (by assumption) ?_
    apply x_call rfl
    · apply pa_cons
      · exact pa_plain rfl
      apply pa_cons
      · exact pa_plain rfl
      apply pa_cons
      · exact pa_plain rfl
      exact pa_nil
    · exact s_inRange _ _ _
    · exact ⟨rfl, rfl, rfl, of_decide_eq_true rfl, rfl⟩
    · exact .inl rfl
    · exact back_nil
    · exact inst_plain rfl
    · exact fun _ => rfl
    intro g12
    refine x_guard_t rfl rfl (by assumption) ?_
    refine x_not rfl ?_
    refine x_pick_f rfl (by assumption) rfl rfl ?_
    refine x_move rfl rfl ?_
    refine x_guard_split rfl rfl (fun hg0 => ?_) (fun hg0 => ?_)
    · have hg := hg0; try simp only [decide_eq_true_eq, decide_eq_false_iff_not, Bool.not_eq_true', Bool.not_eq_false', bne_iff_ne, beq_iff_eq, ne_eq, Bool.not_true, Bool.not_false, beq_eq_false_iff_ne, bne_eq_false_iff_eq, Decidable.not_not, Int.not_lt, Int.not_le, Bool.and_eq_true, Bool.and_eq_false_iff, Bool.or_eq_true, Bool.or_eq_false_iff] at hg
      refine x_move rfl rfl ?_
      refine x_guard_t rfl rfl (by assumption) ?_
      refine x_sneV (t := !(o == some false)) rfl rfl (by rcases o with _ | _ | _ <;> decide +kernel) ?_
      refine x_guard_t rfl rfl (by assumption) ?_
      refine x_move rfl rfl ?_
      refine x_guard_split rfl rfl (fun hg0 => ?_) (fun hg0 => ?_)
      · have hg := hg0; try simp only [decide_eq_true_eq, decide_eq_false_iff_not, Bool.not_eq_true', Bool.not_eq_false', bne_iff_ne, beq_iff_eq, ne_eq, Bool.not_true, Bool.not_false, beq_eq_false_iff_ne, bne_eq_false_iff_eq, Decidable.not_not, Int.not_lt, Int.not_le, Bool.and_eq_true, Bool.and_eq_false_iff, Bool.or_eq_true, Bool.or_eq_false_iff] at hg
        refine x_move rfl rfl ?_
        refine x_guard_t rfl rfl (by assumption) ?_
        refine x_sneV (t := !(o == some true)) rfl rfl (by rcases o with _ | _ | _ <;> decide +kernel) ?_
        refine x_guard_t rfl rfl (by assumption) ?_
        refine x_pick_t rfl (by assumption) rfl rfl ?_
        refine x_pick_f rfl (by assumption) rfl rfl ?_
        refine xr_nil ⟨nofun, [(.t 0, _), (.t 1, _), (.t 2, _), (.t 22, _)], ⟨rfl, rfl, rfl, rfl, rfl, rfl, rfl, rfl, trivial⟩, ?_⟩
        refine xa_cond rfl (fun hc => ?_) (fun hc => ?_)
        · try simp only [decide_eq_true_eq, decide_eq_false_iff_not, Bool.not_eq_true', Bool.not_eq_false', bne_iff_ne, beq_iff_eq, ne_eq, Bool.not_true, Bool.not_false, beq_eq_false_iff_ne, bne_eq_false_iff_eq, Decidable.not_not, Int.not_lt, Int.not_le, Bool.and_eq_true, Bool.and_eq_false_iff, Bool.or_eq_true, Bool.or_eq_false_iff, List.length_map] at hc
          refine xa_seq ?_
          refine xa_region ?_
          (refine x_assign_nil rfl rfl (fun _ => rfl) ?_; intro g6)
          refine xr_nil ⟨nofun, [(.t 6, _), (.h 6, _)], ⟨rfl, rfl, rfl, rfl, trivial⟩, ?_⟩
          refine xa_ret ?_
          refine ret_own' rfl rfl (by simp) (by rfl) trivial ?_
          rw [cbR_none (by rintro ⟨h1, h2, h3⟩; (simp_all; done))]
          rfl
        · try simp only [decide_eq_true_eq, decide_eq_false_iff_not, Bool.not_eq_true', Bool.not_eq_false', bne_iff_ne, beq_iff_eq, ne_eq, Bool.not_true, Bool.not_false, beq_eq_false_iff_ne, bne_eq_false_iff_eq, Decidable.not_not, Int.not_lt, Int.not_le, Bool.and_eq_true, Bool.and_eq_false_iff, Bool.or_eq_true, Bool.or_eq_false_iff, List.length_map] at hc
          refine xa_skip ?_
          refine xa_seq ?_
          refine xa_region ?_
          refine x_move rfl rfl ?_
          refine x_move rfl rfl ?_
          refine x_move rfl rfl ?_
          refine x_seqV (t := o == some true) rfl rfl (by rcases o with _ | _ | _ <;> decide +kernel) ?_
          obtain ⟨e, rfl, hvo, hlev⟩ := closed_in (l := l) (lev := lev) (o := o) (by simp_all) (by simp_all) (by simp_all)
          have hv := vo_iff.1 hvo
          have hn6 := hv.2.1
          have hn1 := hv.1
          have hall := fun x (hx : x ∈ l) => allB_mem hv.2.2 hx
          have hp6 := pow6 hn6
          apply x_call rfl
          · apply pa_cons
            · exact pa_plain rfl
            apply pa_cons
            · exact pa_plain rfl
            apply pa_cons
            · exact pa_plain rfl
            exact pa_nil
          · exact (by have := s_closedC l hn6 hall lev hlev e; rwa [show e = (some e == some true) by cases e <;> rfl] at this)
          · exact ⟨rfl, rfl, rfl, of_decide_eq_true rfl, rfl⟩
          · exact .inl rfl
          · exact back_nil
          · exact inst_own
          · exact fun _ => rfl
          intro g27
          (refine x_assign_own rfl rfl (by (simp; done)) rfl (fun _ => (slot_obj (by exact noRef_map fun _ => rfl))) (fun _ => rfl) ?_; intro g6)
          refine xr_nil ⟨nofun, [(.t 6, _), (.h 6, _)], ⟨rfl, rfl, rfl, rfl, trivial⟩, ?_⟩
          refine xa_ret ?_
          refine ret_own' rfl rfl (by simp) (by exact noRef_map fun _ => rfl) trivial ?_
          rw [cbR_ok hvo hlev]
          (cases e <;> rfl)
      · have hg := hg0; try simp only [decide_eq_true_eq, decide_eq_false_iff_not, Bool.not_eq_true', Bool.not_eq_false', bne_iff_ne, beq_iff_eq, ne_eq, Bool.not_true, Bool.not_false, beq_eq_false_iff_ne, bne_eq_false_iff_eq, Decidable.not_not, Int.not_lt, Int.not_le, Bool.and_eq_true, Bool.and_eq_false_iff, Bool.or_eq_true, Bool.or_eq_false_iff] at hg
        refine x_guard_f rfl rfl (by assumption) ?_
        refine x_guard_t rfl rfl (by assumption) ?_
        refine x_pick_f rfl (by assumption) rfl rfl ?_
        refine x_pick_f rfl (by assumption) rfl rfl ?_
        refine xr_nil ⟨nofun, [(.t 0, _), (.t 1, _), (.t 2, _), (.t 22, _)], ⟨rfl, rfl, rfl, rfl, rfl, rfl, rfl, rfl, trivial⟩, ?_⟩
        refine xa_cond rfl (fun hc => absurd hc (by decide)) (fun hc => ?_)
        refine xa_skip ?_
        refine xa_seq ?_
        refine xa_region ?_
        refine x_move rfl rfl ?_
        refine x_move rfl rfl ?_
        refine x_move rfl rfl ?_
        refine x_seqV (t := o == some true) rfl rfl (by rcases o with _ | _ | _ <;> decide +kernel) ?_
        obtain ⟨e, rfl, hvo, hlev⟩ := closed_in (l := l) (lev := lev) (o := o) (by simp_all) (by simp_all) (by simp_all)
        have hv := vo_iff.1 hvo
        have hn6 := hv.2.1
        have hn1 := hv.1
        have hall := fun x (hx : x ∈ l) => allB_mem hv.2.2 hx
        have hp6 := pow6 hn6
        apply x_call rfl
        · apply pa_cons
          · exact pa_plain rfl
          apply pa_cons
          · exact pa_plain rfl
          apply pa_cons
          · exact pa_plain rfl
          exact pa_nil
        · exact (by have := s_closedC l hn6 hall lev hlev e; rwa [show e = (some e == some true) by cases e <;> rfl] at this)
        · exact ⟨rfl, rfl, rfl, of_decide_eq_true rfl, rfl⟩
        · exact .inl rfl
        · exact back_nil
        · exact inst_own
        · exact fun _ => rfl
        intro g27
        (refine x_assign_own rfl rfl (by (simp; done)) rfl (fun _ => (slot_obj (by exact noRef_map fun _ => rfl))) (fun _ => rfl) ?_; intro g6)
        refine xr_nil ⟨nofun, [(.t 6, _), (.h 6, _)], ⟨rfl, rfl, rfl, rfl, trivial⟩, ?_⟩
        refine xa_ret ?_
        refine ret_own' rfl rfl (by simp) (by exact noRef_map fun _ => rfl) trivial ?_
        rw [cbR_ok hvo hlev]
        (cases e <;> rfl)
    · have hg := hg0; try simp only [decide_eq_true_eq, decide_eq_false_iff_not, Bool.not_eq_true', Bool.not_eq_false', bne_iff_ne, beq_iff_eq, ne_eq, Bool.not_true, Bool.not_false, beq_eq_false_iff_ne, bne_eq_false_iff_eq, Decidable.not_not, Int.not_lt, Int.not_le, Bool.and_eq_true, Bool.and_eq_false_iff, Bool.or_eq_true, Bool.or_eq_false_iff] at hg
      refine x_guard_f rfl rfl (by assumption) ?_
      refine x_guard_f rfl rfl (by assumption) ?_
      refine x_guard_u rfl rfl ?_
      refine x_guard_u rfl rfl ?_
      refine x_guard_f rfl rfl (by assumption) ?_
      refine x_pick_t rfl (by assumption) rfl rfl ?_
      refine xr_nil ⟨nofun, [(.t 0, _), (.t 1, _), (.t 2, _), (.t 22, _)], ⟨rfl, rfl, rfl, rfl, rfl, rfl, rfl, rfl, trivial⟩, ?_⟩
      refine xa_cond rfl (fun hc => ?_) (fun hc => absurd hc (by decide))
      refine xa_seq ?_
      refine xa_region ?_
      (refine x_assign_nil rfl rfl (fun _ => rfl) ?_; intro g6)
      refine xr_nil ⟨nofun, [(.t 6, _), (.h 6, _)], ⟨rfl, rfl, rfl, rfl, trivial⟩, ?_⟩
      refine xa_ret ?_
      refine ret_own' rfl rfl (by simp) (by rfl) trivial ?_
      rw [cbR_none (by rintro ⟨h1, h2, h3⟩; omega)]
      rfl
  · have hg := hg0; try simp only [decide_eq_true_eq, decide_eq_false_iff_not, Bool.not_eq_true', Bool.not_eq_false', bne_iff_ne, beq_iff_eq, ne_eq, Bool.not_true, Bool.not_false, beq_eq_false_iff_ne, bne_eq_false_iff_eq, Decidable.not_not, Int.not_lt, Int.not_le, Bool.and_eq_true, Bool.and_eq_false_iff, Bool.or_eq_true, Bool.or_eq_false_iff] at hg
    refine x_guard_f rfl rfl (by assumption) ?_
    refine x_guard_f rfl rfl (by assumption) ?_
    refine x_pick_t rfl (by assumption) rfl rfl ?_
    refine x_move rfl rfl ?_
    refine x_guard_f rfl rfl (by rfl) ?_
    refine x_guard_f rfl rfl (by rfl) ?_
    refine x_guard_f rfl rfl (by rfl) ?_
    refine x_guard_u rfl rfl ?_
    refine x_guard_u rfl rfl ?_
    refine x_guard_f rfl rfl (by rfl) ?_
    refine x_pick_t rfl (by rfl) rfl rfl ?_
    refine xr_nil ⟨nofun, [(.t 0, _), (.t 1, _), (.t 2, _), (.t 22, _)], ⟨rfl, rfl, rfl, rfl, rfl, rfl, rfl, rfl, trivial⟩, ?_⟩
    refine xa_cond rfl (fun hc => ?_) (fun hc => absurd hc (by decide))
    refine xa_seq ?_
    refine xa_region ?_
    (refine x_assign_nil rfl rfl (fun _ => rfl) ?_; intro g6)
    refine xr_nil ⟨nofun, [(.t 6, _), (.h 6, _)], ⟨rfl, rfl, rfl, rfl, trivial⟩, ?_⟩
    refine xa_ret ?_
    refine ret_own' rfl rfl (by simp) (by rfl) trivial ?_
    rw [cbR_none (by rintro ⟨h1, h2, h3⟩; (simp_all; done))]
    rfl

theorem keep_s_isIn : keepOf Try.f20 = [0, 1, 4, 5, 9, 17] := by kernel_rfl
set_option maxHeartbeats 20000000 in
theorem s_isIn (xs : List Int) (hl : xs.length ≤ 1000) (y : Int) : CW cxT 20 [L xs, iV y] = some (bV (decide (y ∈ xs)), []) := by
  refine fn_intro rfl Try.func20 rfl ⟨by kernel_rfl, rfl, of_decide_eq_true rfl, of_decide_eq_true rfl, by decide⟩ keep_s_isIn ?_
  refine xa_seq ?_
  refine xa_region ?_
  refine x_assign rfl rfl rfl ?_
  refine xr_nil ⟨nofun, [(.t 0, _), (.t 1, _)], ⟨rfl, rfl, rfl, rfl, trivial⟩, ?_⟩
  refine xa_seq ?_
  refine xa_seq ?_
  refine xa_region ?_
  refine x_assign rfl rfl rfl ?_
  refine xr_nil ⟨nofun, [(.t 0, _), (.t 1, _), (.t 5, _)], ⟨rfl, rfl, rfl, rfl, rfl, rfl, trivial⟩, ?_⟩
  refine xa_block ?_
  refine xa_loopK (β := Nat) [(.t 0, _), (.t 1, _)] (fun (i : Nat) => [(.t 5, iV i)]) (fun (i : Nat) => i ≤ xs.length ∧ ∀ j, j < i → xs.getD j default ≠ y) (fun (i : Nat) => xs.length - i) 0 ⟨rfl, rfl, rfl, trivial⟩ ⟨Nat.zero_le _, fun j h => by omega⟩ ?_
  intro i hb
  obtain ⟨hi1, hi2⟩ := hb
  refine xa_seq ?_
  refine xa_seq ?_
  refine xa_region ?_
  refine x_move rfl rfl ?_
  refine x_move rfl rfl ?_
  refine x_len_map rfl rfl ?_
  refine x_lss rfl rfl ?_
  refine xr_nil ⟨nofun, [(.t 0, _), (.t 1, _), (.t 5, _), (.t 9, _)], ⟨rfl, rfl, rfl, rfl, rfl, rfl, rfl, rfl, trivial⟩, ?_⟩
  refine xa_cond rfl (fun hc => ?_) (fun hc => ?_)
  · try simp only [decide_eq_true_eq, decide_eq_false_iff_not, Bool.not_eq_true', Bool.not_eq_false', bne_iff_ne, beq_iff_eq, ne_eq, Bool.not_true, Bool.not_false, beq_eq_false_iff_ne, bne_eq_false_iff_eq, Decidable.not_not, Int.not_lt, Int.not_le, Bool.and_eq_true, Bool.and_eq_false_iff, Bool.or_eq_true, Bool.or_eq_false_iff, List.length_map] at hc
    refine xa_skip ?_
    refine xa_seq ?_
    refine xa_block ?_
    refine xa_seq ?_
    refine xa_region ?_
    refine x_move rfl rfl ?_
    refine x_move rfl rfl ?_
    refine x_index_listN rfl rfl rfl (fun _ => rfl) (by omega) ?_
    refine x_load_iptV rfl rfl rfl ?_
    refine x_move rfl rfl ?_
    refine x_eql rfl rfl ?_
    refine xr_nil ⟨nofun, [(.t 0, _), (.t 1, _), (.t 5, _), (.t 17, _)], ⟨rfl, rfl, rfl, rfl, rfl, rfl, rfl, rfl, trivial⟩, ?_⟩
    refine xa_cond rfl (fun hc => ?_) (fun hc => ?_)
    · try simp only [decide_eq_true_eq, decide_eq_false_iff_not, Bool.not_eq_true', Bool.not_eq_false', bne_iff_ne, beq_iff_eq, ne_eq, Bool.not_true, Bool.not_false, beq_eq_false_iff_ne, bne_eq_false_iff_eq, Decidable.not_not, Int.not_lt, Int.not_le, Bool.and_eq_true, Bool.and_eq_false_iff, Bool.or_eq_true, Bool.or_eq_false_iff, List.length_map] at hc
      refine xa_seq ?_
      refine xa_region ?_
      refine x_assign rfl rfl rfl ?_
      refine xr_nil ⟨nofun, [(.t 4, _)], ⟨rfl, rfl, trivial⟩, ?_⟩
      refine xa_ret ?_
      refine ret_val' rfl rfl trivial ?_
      exact congrArg bV (decide_eq_true (hc ▸ getD_mem (by omega))).symm
    · try simp only [decide_eq_true_eq, decide_eq_false_iff_not, Bool.not_eq_true', Bool.not_eq_false', bne_iff_ne, beq_iff_eq, ne_eq, Bool.not_true, Bool.not_false, beq_eq_false_iff_ne, bne_eq_false_iff_eq, Decidable.not_not, Int.not_lt, Int.not_le, Bool.and_eq_true, Bool.and_eq_false_iff, Bool.or_eq_true, Bool.or_eq_false_iff, List.length_map] at hc
      refine xa_skip ?_
      refine xa_region ?_
      refine x_move rfl rfl ?_
      refine x_add rfl rfl (inI64 (by omega)) ?_
      refine x_assign rfl rfl rfl ?_
      refine xr_nil ⟨nofun, [(.t 0, _), (.t 1, _), (.t 5, _)], ⟨rfl, rfl, rfl, rfl, rfl, rfl, trivial⟩, ?_⟩
      refine ⟨i + 1, ⟨by omega, fun a ha => by rcases Nat.lt_succ_iff_lt_or_eq.1 ha with h | h; exact hi2 a h; subst h; exact hc⟩, (by omega), ⟨rfl, rfl, rfl, trivial⟩⟩
  · try simp only [decide_eq_true_eq, decide_eq_false_iff_not, Bool.not_eq_true', Bool.not_eq_false', bne_iff_ne, beq_iff_eq, ne_eq, Bool.not_true, Bool.not_false, beq_eq_false_iff_ne, bne_eq_false_iff_eq, Decidable.not_not, Int.not_lt, Int.not_le, Bool.and_eq_true, Bool.and_eq_false_iff, Bool.or_eq_true, Bool.or_eq_false_iff, List.length_map] at hc
    refine xa_exit ?_
    refine xa_seq ?_
    refine xa_region ?_
    refine x_assign rfl rfl rfl ?_
    refine xr_nil ⟨nofun, [(.t 4, _)], ⟨rfl, rfl, trivial⟩, ?_⟩
    refine xa_ret ?_
    refine ret_val' rfl rfl trivial ?_
    refine congrArg bV (decide_eq_false fun h => ?_).symm
    obtain ⟨j, hj, hjy⟩ := mem_getD h
    exact hi2 j (by omega) hjy

theorem keep_s_ascends : keepOf Try.f21 = [0, 2, 3, 7, 19] := by kernel_rfl
set_option maxHeartbeats 20000000 in
theorem s_ascends (xs : List Int) (hl : xs.length ≤ 1000) : CW cxT 21 [L xs] = some (bV (asc xs), []) := by
  refine fn_intro rfl Try.func21 rfl ⟨by kernel_rfl, rfl, of_decide_eq_true rfl, of_decide_eq_true rfl, by decide⟩ keep_s_ascends ?_
  refine xa_seq ?_
  refine xa_region ?_
  refine x_assign rfl rfl rfl ?_
  refine xr_nil ⟨nofun, [(.t 0, _)], ⟨rfl, rfl, trivial⟩, ?_⟩
  refine xa_seq ?_
  refine xa_seq ?_
  refine xa_region ?_
  refine x_assign rfl rfl rfl ?_
  refine xr_nil ⟨nofun, [(.t 0, _), (.t 3, _)], ⟨rfl, rfl, rfl, rfl, trivial⟩, ?_⟩
  refine xa_block ?_
  refine xa_loopK (β := Nat) [(.t 0, _)] (fun (i : Nat) => [(.t 3, iV i)]) (fun (i : Nat) => 1 ≤ i ∧ (i ≤ xs.length ∨ i = 1) ∧ ∀ j, 1 ≤ j → j < i → xs.getD (j - 1) default < xs.getD j default) (fun (i : Nat) => xs.length - i) 1 ⟨rfl, rfl, trivial⟩ ⟨Nat.le_refl _, .inr rfl, fun j h h2 => by omega⟩ ?_
  intro i hb
  obtain ⟨hi0, hi1, hi2⟩ := hb
  have hpi : ((i : Int) - 1).toNat = i - 1 := by omega
  refine xa_seq ?_
  refine xa_seq ?_
  refine xa_region ?_
  refine x_move rfl rfl ?_
  refine x_move rfl rfl ?_
  refine x_len_map rfl rfl ?_
  refine x_lss rfl rfl ?_
  refine xr_nil ⟨nofun, [(.t 0, _), (.t 3, _), (.t 7, _)], ⟨rfl, rfl, rfl, rfl, rfl, rfl, trivial⟩, ?_⟩
  refine xa_cond rfl (fun hc => ?_) (fun hc => ?_)
  · try simp only [decide_eq_true_eq, decide_eq_false_iff_not, Bool.not_eq_true', Bool.not_eq_false', bne_iff_ne, beq_iff_eq, ne_eq, Bool.not_true, Bool.not_false, beq_eq_false_iff_ne, bne_eq_false_iff_eq, Decidable.not_not, Int.not_lt, Int.not_le, Bool.and_eq_true, Bool.and_eq_false_iff, Bool.or_eq_true, Bool.or_eq_false_iff, List.length_map] at hc
    refine xa_skip ?_
    refine xa_seq ?_
    refine xa_block ?_
    refine xa_seq ?_
    refine xa_region ?_
    refine x_move rfl rfl ?_
    refine x_move rfl rfl ?_
    refine x_index_listN rfl rfl rfl (fun _ => rfl) (by omega) ?_
    refine x_load_iptV rfl rfl rfl ?_
    refine x_move rfl rfl ?_
    refine x_move rfl rfl ?_
    refine x_sub rfl rfl (inI64 (by omega)) ?_
    refine x_index_list rfl rfl rfl (fun _ => rfl) (by omega) ?_
    refine x_load_iptV rfl rfl rfl ?_
    refine x_leq rfl rfl ?_
    refine xr_nil ⟨fun _ => ⟨by decide +kernel, by decide +kernel⟩, [(.t 0, _), (.t 3, _), (.t 19, _)], ⟨rfl, rfl, rfl, rfl, rfl, rfl, trivial⟩, ?_⟩
    refine xa_cond rfl (fun hc => ?_) (fun hc => ?_)
    · try simp only [decide_eq_true_eq, decide_eq_false_iff_not, Bool.not_eq_true', Bool.not_eq_false', bne_iff_ne, beq_iff_eq, ne_eq, Bool.not_true, Bool.not_false, beq_eq_false_iff_ne, bne_eq_false_iff_eq, Decidable.not_not, Int.not_lt, Int.not_le, Bool.and_eq_true, Bool.and_eq_false_iff, Bool.or_eq_true, Bool.or_eq_false_iff, List.length_map] at hc
      refine xa_seq ?_
      refine xa_region ?_
      refine x_assign rfl rfl rfl ?_
      refine xr_nil ⟨nofun, [(.t 2, _)], ⟨rfl, rfl, trivial⟩, ?_⟩
      refine xa_ret ?_
      refine ret_val' rfl rfl trivial ?_
      refine congrArg bV (asc_f fun h => ?_).symm
      rw [hpi] at hc
      have := h i (by omega) (by omega)
      omega
    · try simp only [decide_eq_true_eq, decide_eq_false_iff_not, Bool.not_eq_true', Bool.not_eq_false', bne_iff_ne, beq_iff_eq, ne_eq, Bool.not_true, Bool.not_false, beq_eq_false_iff_ne, bne_eq_false_iff_eq, Decidable.not_not, Int.not_lt, Int.not_le, Bool.and_eq_true, Bool.and_eq_false_iff, Bool.or_eq_true, Bool.or_eq_false_iff, List.length_map] at hc
      refine xa_skip ?_
      refine xa_region ?_
      refine x_move rfl rfl ?_
      refine x_add rfl rfl (inI64 (by omega)) ?_
      refine x_assign rfl rfl rfl ?_
      refine xr_nil ⟨nofun, [(.t 0, _), (.t 3, _)], ⟨rfl, rfl, rfl, rfl, trivial⟩, ?_⟩
      refine ⟨i + 1, ⟨by omega, by omega, fun j h1 h2 => ?_⟩, by omega, ⟨rfl, rfl, trivial⟩⟩
      rcases Nat.lt_succ_iff_lt_or_eq.1 h2 with h | h
      · exact hi2 j h1 h
      · subst h; rw [hpi] at hc; exact hc
  · try simp only [decide_eq_true_eq, decide_eq_false_iff_not, Bool.not_eq_true', Bool.not_eq_false', bne_iff_ne, beq_iff_eq, ne_eq, Bool.not_true, Bool.not_false, beq_eq_false_iff_ne, bne_eq_false_iff_eq, Decidable.not_not, Int.not_lt, Int.not_le, Bool.and_eq_true, Bool.and_eq_false_iff, Bool.or_eq_true, Bool.or_eq_false_iff, List.length_map] at hc
    refine xa_exit ?_
    refine xa_seq ?_
    refine xa_region ?_
    refine x_assign rfl rfl rfl ?_
    refine xr_nil ⟨nofun, [(.t 2, _)], ⟨rfl, rfl, trivial⟩, ?_⟩
    refine xa_ret ?_
    refine ret_val' rfl rfl trivial ?_
    exact congrArg bV (asc_t fun j h1 h2 => hi2 j h1 (by omega)).symm

theorem keep_s_someOdds : keepOf Try.f39 = [0, 2, 4, 3, 12, 28] := by kernel_rfl
set_option maxHeartbeats 20000000 in
theorem s_someOdds (bs : List Int) (p : Int) (hbs : Bytes bs) (hl : bs.length ≤ 1048576) (hp : 0 ≤ p ∧ p ≤ 1000) : ∃ res outs, (fun res outs => ∃ (xs : List Int) (p' : Int), res = .own 1 (xs.map iV) ∧ outs = [[rdr bs p']] ∧ p ≤ p' ∧ p' ≤ p + 100 ∧ xs.length ≤ 7) res outs ∧ CW cxT 39 [.ownp [rdr bs p] 0 0] = some (res, outs) := by
  refine fn_introP rfl Try.func39 rfl ⟨by kernel_rfl, rfl, of_decide_eq_true rfl, of_decide_eq_true rfl, by decide⟩ keep_s_someOdds ?_
  refine xa_seq ?_
  refine xa_region ?_
  (refine x_assign_nil rfl rfl (fun _ => rfl) ?_; intro g2)
  refine xr_nil ⟨nofun, [(.t 0, _), (.h 0, _)], ⟨rfl, rfl, rfl, rfl, trivial⟩, ?_⟩
  refine xa_seq ?_
  refine xa_region ?_
  refine x_buildSlice (es := List.map iV []) rfl rfl (by decide) rfl rfl (fun _ => slot_obj (noRef_map fun _ => rfl)) (fun _ => rfl) ?_
  intro g5
  (refine x_assign_own rfl rfl (by (simp; done)) rfl (fun _ => (slot_obj (by exact noRef_map fun _ => rfl))) (fun _ => rfl) ?_; intro g3)
  refine xr_nil ⟨nofun, [(.t 0, _), (.t 3, _), (.h 0, _), (.h 3, _)], ⟨rfl, rfl, rfl, rfl, rfl, rfl, rfl, rfl, trivial⟩, ?_⟩
  refine xa_seq ?_
  refine xa_seq ?_
  refine xa_region ?_
  refine x_move rfl rfl ?_
  refine x_buildSlice (es := List.map iV [_, _, _, _, _, _, _]) rfl rfl (by decide) rfl rfl (fun _ => slot_obj (noRef_map fun _ => rfl)) (fun _ => rfl) ?_
  intro g7
  obtain ⟨_, _, ⟨k0, rfl, rfl, hk0⟩, hC0⟩ := s_one bs p hbs hl (by omega) [3, 4, 5, 2, 6, 1, 0] (by decide)
  have hk1 : 0 ≤ k0 ∧ k0 ≤ 6 := by simp at hk0; omega
  apply x_call rfl
  · apply pa_cons
    · exact pa_box rfl (by decide) rfl
    apply pa_cons
    · exact pa_keep_map rfl rfl (by (simp; done)) (fun _ => rfl)
    exact pa_nil
  · exact hC0
  · exact ⟨rfl, rfl, rfl, of_decide_eq_true rfl, rfl⟩
  · exact .inl rfl
  · exact back_cons rfl rfl rfl back_nil
  · exact inst_plain rfl
  · exact fun _ => rfl
  intro g8
  refine x_assign rfl rfl rfl ?_
  refine xr_nil ⟨nofun, [(.t 0, _), (.t 3, _), (.t 4, _), (.h 0, _), (.h 3, _)], ⟨rfl, rfl, rfl, rfl, rfl, rfl, rfl, rfl, rfl, rfl, trivial⟩, ?_⟩
  refine xa_block ?_
  refine xa_loopK (β := List Int × Nat × Int) [(.t 0, _), (.t 4, _)] (fun (z : List Int × Nat × Int) => match z with | (xs, g, q) => [(.h 0, .obj 1 4 0 [rdr bs q]), (.t 3, .sl 3 g none 0 xs.length), (.h 3, .obj g 0 1 (xs.map iV))]) (fun (z : List Int × Nat × Int) => match z with | (xs, g, q) => (xs.length : Int) ≤ k0 ∧ p + 1 ≤ q ∧ q ≤ p + 1 + 4 * (xs.length : Int)) (fun (z : List Int × Nat × Int) => match z with | (xs, g, q) => 6 - xs.length) ([], _, p + 1) ⟨rfl, rfl, rfl, rfl, rfl, trivial⟩ ⟨by simp; omega, by omega, by simp⟩ ?_
  intro z hb
  obtain ⟨xs, g, q⟩ := z
  try dsimp only at hb
  obtain ⟨hx1, hq1, hq2⟩ := hb
  refine xa_seq ?_
  refine xa_seq ?_
  refine xa_region ?_
  refine x_move rfl rfl ?_
  refine x_len_sl rfl rfl ?_
  refine x_move rfl rfl ?_
  refine x_lss rfl rfl ?_
  refine xr_nil ⟨nofun, [(.t 0, _), (.t 3, _), (.t 4, _), (.t 12, _), (.h 0, _), (.h 3, _)], ⟨rfl, rfl, rfl, rfl, rfl, rfl, rfl, rfl, rfl, rfl, rfl, rfl, trivial⟩, ?_⟩
  refine xa_cond rfl (fun hc => ?_) (fun hc => ?_)
  · try simp only [decide_eq_true_eq, decide_eq_false_iff_not, Bool.not_eq_true', Bool.not_eq_false', bne_iff_ne, beq_iff_eq, ne_eq, Bool.not_true, Bool.not_false, beq_eq_false_iff_ne, bne_eq_false_iff_eq, Decidable.not_not, Int.not_lt, Int.not_le, Bool.and_eq_true, Bool.and_eq_false_iff, Bool.or_eq_true, Bool.or_eq_false_iff, List.length_map] at hc
    refine xa_skip ?_
    refine xa_block ?_
    refine xa_region ?_
    refine x_move rfl rfl ?_
    refine x_move rfl rfl ?_
    refine x_move rfl rfl ?_
    obtain ⟨_, _, ⟨k1, rfl, rfl, -, -⟩, hC1⟩ := s_pick bs q hbs hl (by omega) 60 (by omega)
    apply x_call rfl
    · apply pa_cons
      · exact pa_box rfl (by decide) rfl
      apply pa_cons
      · exact pa_plain rfl
      exact pa_nil
    · exact hC1
    · exact ⟨rfl, rfl, rfl, of_decide_eq_true rfl, rfl⟩
    · exact .inl rfl
    · exact back_cons rfl rfl rfl back_nil
    · exact inst_plain rfl
    · exact fun _ => rfl
    intro g16
    refine x_move rfl rfl ?_
    obtain ⟨_, _, ⟨k2, rfl, rfl, -, -⟩, hC2⟩ := s_pick bs (q + 1) hbs hl (by omega) 20 (by omega)
    apply x_call rfl
    · apply pa_cons
      · exact pa_box rfl (by decide) rfl
      apply pa_cons
      · exact pa_plain rfl
      exact pa_nil
    · exact hC2
    · exact ⟨rfl, rfl, rfl, of_decide_eq_true rfl, rfl⟩
    · exact .inl rfl
    · exact back_cons rfl rfl rfl back_nil
    · exact inst_plain rfl
    · exact fun _ => rfl
    intro g18
    refine x_move rfl rfl ?_
    obtain ⟨_, _, ⟨k3, rfl, rfl, hk31, hk32⟩, hC3⟩ := s_pick bs (q + 1 + 1) hbs hl (by omega) 250 (by omega)
    have hk31 := hk31 (by omega)
    apply x_call rfl
    · apply pa_cons
      · exact pa_box rfl (by decide) rfl
      apply pa_cons
      · exact pa_plain rfl
      exact pa_nil
    · exact hC3
    · exact ⟨rfl, rfl, rfl, of_decide_eq_true rfl, rfl⟩
    · exact .inl rfl
    · exact back_cons rfl rfl rfl back_nil
    · exact inst_plain rfl
    · exact fun _ => rfl
    intro g20
    refine x_mul rfl rfl (inI64 (by omega)) ?_
    refine x_buildSlice (es := List.map iV [_, _, _, _, _, _]) rfl rfl (by decide) rfl rfl (fun _ => slot_obj (noRef_map fun _ => rfl)) (fun _ => rfl) ?_
    intro g22
    obtain ⟨_, _, ⟨k4, rfl, rfl, -⟩, hC4⟩ := s_one bs (q + 1 + 1 + 1) hbs hl (by omega) [k1, k2, 4 * k3, 10, 0, 1000] (by simp)
    apply x_call rfl
    · apply pa_cons
      · exact pa_box rfl (by decide) rfl
      apply pa_cons
      · exact pa_keep_map rfl rfl (by (simp; done)) (fun _ => rfl)
      exact pa_nil
    · exact hC4
    · exact ⟨rfl, rfl, rfl, of_decide_eq_true rfl, rfl⟩
    · exact .inl rfl
    · exact back_cons rfl rfl rfl back_nil
    · exact inst_plain rfl
    · exact fun _ => rfl
    intro g23
    refine x_buildSlice (es := List.map iV [_]) rfl rfl (by decide) rfl rfl (fun _ => slot_obj (noRef_map fun _ => rfl)) (fun _ => rfl) ?_
    intro g24
    refine x_append_map rfl rfl rfl rfl (by simp) (by simp) (by decide) rfl rfl rfl rfl (by decide) (fun _ => ⟨rfl, rfl⟩) (by simp only [maxL]; (simp only [List.length_nil, List.length_cons, List.length_append, Nat.zero_add, List.length_map]; omega)) (fun _ => rfl) ?_
    intro g25
    (refine x_assign_own rfl rfl (by (simp; done)) rfl (fun _ => (slot_obj (by exact noRef_map fun _ => rfl))) (fun _ => rfl) ?_; intro g3)
    refine xr_nil ⟨nofun, [(.t 0, _), (.t 3, _), (.t 4, _), (.h 0, _), (.h 3, _)], ⟨rfl, rfl, rfl, rfl, rfl, rfl, rfl, rfl, rfl, rfl, trivial⟩, ?_⟩
    refine ⟨(xs ++ [k4], _, q + 1 + 1 + 1 + 1), ?_, (by simp only [List.length_append, List.length_singleton]; omega), ⟨rfl, rfl, rfl, rfl, rfl, trivial⟩⟩
    refine ⟨?_, ?_, ?_⟩ <;> (try simp only [List.length_append, List.length_singleton]) <;> omega
  · try simp only [decide_eq_true_eq, decide_eq_false_iff_not, Bool.not_eq_true', Bool.not_eq_false', bne_iff_ne, beq_iff_eq, ne_eq, Bool.not_true, Bool.not_false, beq_eq_false_iff_ne, bne_eq_false_iff_eq, Decidable.not_not, Int.not_lt, Int.not_le, Bool.and_eq_true, Bool.and_eq_false_iff, Bool.or_eq_true, Bool.or_eq_false_iff, List.length_map] at hc
    refine xa_exit ?_
    refine xa_seq ?_
    refine xa_seq ?_
    refine xa_region ?_
    refine x_move rfl rfl ?_
    obtain ⟨_, _, ⟨k5, rfl, rfl, -, -⟩, hC5⟩ := s_pick bs q hbs hl (by omega) 30 (by omega)
    apply x_call rfl
    · apply pa_cons
      · exact pa_box rfl (by decide) rfl
      apply pa_cons
      · exact pa_plain rfl
      exact pa_nil
    · exact hC5
    · exact ⟨rfl, rfl, rfl, of_decide_eq_true rfl, rfl⟩
    · exact .inl rfl
    · exact back_cons rfl rfl rfl back_nil
    · exact inst_plain rfl
    · exact fun _ => rfl
    intro g27
    refine x_eql rfl rfl ?_
    refine xr_nil ⟨nofun, [(.t 0, _), (.t 3, _), (.t 28, _), (.h 0, _), (.h 3, _)], ⟨rfl, rfl, rfl, rfl, rfl, rfl, rfl, rfl, rfl, rfl, trivial⟩, ?_⟩
    refine xa_cond rfl (fun hc => ?_) (fun hc => ?_)
    · try simp only [decide_eq_true_eq, decide_eq_false_iff_not, Bool.not_eq_true', Bool.not_eq_false', bne_iff_ne, beq_iff_eq, ne_eq, Bool.not_true, Bool.not_false, beq_eq_false_iff_ne, bne_eq_false_iff_eq, Decidable.not_not, Int.not_lt, Int.not_le, Bool.and_eq_true, Bool.and_eq_false_iff, Bool.or_eq_true, Bool.or_eq_false_iff, List.length_map] at hc
      refine xa_seq ?_
      refine xa_region ?_
      refine x_move rfl rfl ?_
      refine x_move rfl rfl ?_
      refine x_buildSlice (es := List.map iV [_, _]) rfl rfl (by decide) rfl rfl (fun _ => slot_obj (noRef_map fun _ => rfl)) (fun _ => rfl) ?_
      intro g31
      obtain ⟨_, _, ⟨k6, rfl, rfl, -⟩, hC6⟩ := s_one bs (q + 1) hbs hl (by omega) [1001, -1] (by decide)
      apply x_call rfl
      · apply pa_cons
        · exact pa_box rfl (by decide) rfl
        apply pa_cons
        · exact pa_keep_map rfl rfl (by (simp; done)) (fun _ => rfl)
        exact pa_nil
      · exact hC6
      · exact ⟨rfl, rfl, rfl, of_decide_eq_true rfl, rfl⟩
      · exact .inl rfl
      · exact back_cons rfl rfl rfl back_nil
      · exact inst_plain rfl
      · exact fun _ => rfl
      intro g32
      refine x_buildSlice (es := List.map iV [_]) rfl rfl (by decide) rfl rfl (fun _ => slot_obj (noRef_map fun _ => rfl)) (fun _ => rfl) ?_
      intro g33
      refine x_append_map rfl rfl rfl rfl (by simp) (by simp) (by decide) rfl rfl rfl rfl (by decide) (fun _ => ⟨rfl, rfl⟩) (by simp only [maxL]; (simp only [List.length_nil, List.length_cons, List.length_append, Nat.zero_add, List.length_map]; omega)) (fun _ => rfl) ?_
      intro g34
      (refine x_assign_own rfl rfl (by (simp; done)) rfl (fun _ => (slot_obj (by exact noRef_map fun _ => rfl))) (fun _ => rfl) ?_; intro g2)
      refine xr_nil ⟨nofun, [(.t 2, _), (.h 0, _), (.h 2, _)], ⟨rfl, rfl, rfl, rfl, rfl, rfl, trivial⟩, ?_⟩
      refine xa_ret ?_
      refine ⟨_, _, ?_, ret_own rfl rfl (by (simp; done)) (by exact noRef_map fun _ => rfl) (outs_one rfl rfl)⟩
      exact ⟨_, _, rfl, rfl, by omega, by omega, by (simp only [List.length_append, List.length_singleton]; omega)⟩
    · try simp only [decide_eq_true_eq, decide_eq_false_iff_not, Bool.not_eq_true', Bool.not_eq_false', bne_iff_ne, beq_iff_eq, ne_eq, Bool.not_true, Bool.not_false, beq_eq_false_iff_ne, bne_eq_false_iff_eq, Decidable.not_not, Int.not_lt, Int.not_le, Bool.and_eq_true, Bool.and_eq_false_iff, Bool.or_eq_true, Bool.or_eq_false_iff, List.length_map] at hc
      refine xa_skip ?_
      refine xa_seq ?_
      refine xa_region ?_
      refine x_move rfl rfl ?_
      (refine x_assign_own rfl rfl (by (simp; done)) rfl (fun _ => (slot_obj (by exact noRef_map fun _ => rfl))) (fun _ => rfl) ?_; intro g2)
      refine xr_nil ⟨nofun, [(.t 2, _), (.h 0, _), (.h 2, _)], ⟨rfl, rfl, rfl, rfl, rfl, rfl, trivial⟩, ?_⟩
      refine xa_ret ?_
      refine ⟨_, _, ?_, ret_own rfl rfl (by (simp; done)) (by exact noRef_map fun _ => rfl) (outs_one rfl rfl)⟩
      exact ⟨_, _, rfl, rfl, by omega, by omega, by omega⟩

theorem keep_s_drawClosedBy : keepOf Try.f16 = [0, 2, 3, 4, 5] := by kernel_rfl
set_option maxHeartbeats 20000000 in
theorem s_drawClosedBy (bs : List Int) (hbs : Bytes bs) (hl : bs.length ≤ 1048576) : ∃ res outs, (fun res outs => ∃ (xs : List Int) (lev : Int) (o : Option Bool), res = .tup [.own 1 (xs.map iV), iV lev, sV (kO o)] ∧ outs = [] ∧ xs.length ≤ 7 ∧ -1 ≤ lev ∧ lev ≤ 1001) res outs ∧ CW cxT 16 [.list (bs.map uV)] = some (res, outs) := by
  refine fn_introP rfl Try.func16 rfl ⟨by kernel_rfl, rfl, of_decide_eq_true rfl, of_decide_eq_true rfl, by decide⟩ keep_s_drawClosedBy ?_
  refine xa_seq ?_
  refine xa_region ?_
  (refine x_assign_nil rfl rfl (fun _ => rfl) ?_; intro g2)
  refine x_assign rfl rfl rfl ?_
  refine x_assign rfl rfl rfl ?_
  refine xr_nil ⟨nofun, [(.t 0, _)], ⟨rfl, rfl, trivial⟩, ?_⟩
  refine xa_seq ?_
  refine xa_region ?_
  refine x_move rfl rfl ?_
  obtain ⟨_, _, ⟨rfl, rfl⟩, hC0⟩ := s_newReader bs hl
  have hbs2 : Bytes (bs.take 2000) := fun b hb => hbs b (List.mem_of_mem_take hb)
  have hl2 : (bs.take 2000).length ≤ 1048576 := by simp; omega
  apply x_call rfl
  · apply pa_cons
    · exact pa_plain rfl
    exact pa_nil
  · exact hC0
  · exact ⟨rfl, rfl, rfl, of_decide_eq_true rfl, rfl⟩
  · exact .inl rfl
  · exact back_nil
  · exact inst_box
  · exact fun _ => rfl
  intro g7
  (refine x_assign_box rfl rfl rfl rfl (fun _ => slot_box rfl) (fun _ => rfl) ?_; intro g5)
  refine xr_nil ⟨nofun, [(.t 5, _), (.h 5, _)], ⟨rfl, rfl, rfl, rfl, trivial⟩, ?_⟩
  refine xa_seq ?_
  refine xa_region ?_
  refine x_move rfl rfl ?_
  obtain ⟨_, _, ⟨xs, p1, rfl, rfl, hp1, hp2, hx7⟩, hC1⟩ := s_someOdds (bs.take 2000) 0 hbs2 hl2 (by omega)
  apply x_call rfl
  · apply pa_cons
    · exact pa_box rfl (by decide) rfl
    exact pa_nil
  · exact hC1
  · exact ⟨rfl, rfl, rfl, of_decide_eq_true rfl, rfl⟩
  · exact .inl rfl
  · exact back_cons rfl rfl rfl back_nil
  · exact inst_own
  · exact fun _ => rfl
  intro g9
  refine x_move rfl rfl ?_
  refine x_move rfl rfl ?_
  obtain ⟨_, _, ⟨k1, rfl, rfl, hk1, hk2⟩, hC2⟩ := s_pick (bs.take 2000) p1 hbs2 hl2 (by omega) 200 (by omega)
  have hk1 := hk1 (by omega)
  apply x_call rfl
  · apply pa_cons
    · exact pa_box rfl (by decide) rfl
    apply pa_cons
    · exact pa_plain rfl
    exact pa_nil
  · exact hC2
  · exact ⟨rfl, rfl, rfl, of_decide_eq_true rfl, rfl⟩
  · exact .inl rfl
  · exact back_cons rfl rfl rfl back_nil
  · exact inst_plain rfl
  · exact fun _ => rfl
  intro g12
  refine x_buildSlice (es := List.map iV [_, _, _, _, _, _, _, _]) rfl rfl (by decide) rfl rfl (fun _ => slot_obj (noRef_map fun _ => rfl)) (fun _ => rfl) ?_
  intro g13
  obtain ⟨_, _, ⟨lev, rfl, rfl, hlev⟩, hC3⟩ := s_one (bs.take 2000) (p1 + 1) hbs2 hl2 (by omega) [50, 100, k1, 10, 0, 1000, 1001, -1] (by simp)
  have hlev2 : -1 ≤ lev ∧ lev ≤ 1001 := by simp at hlev; omega
  apply x_call rfl
  · apply pa_cons
    · exact pa_box rfl (by decide) rfl
    apply pa_cons
    · exact pa_keep_map rfl rfl (by (simp; done)) (fun _ => rfl)
    exact pa_nil
  · exact hC3
  · exact ⟨rfl, rfl, rfl, of_decide_eq_true rfl, rfl⟩
  · exact .inl rfl
  · exact back_cons rfl rfl rfl back_nil
  · exact inst_plain rfl
  · exact fun _ => rfl
  intro g14
  refine x_move rfl rfl ?_
  refine x_buildSlice (es := List.map sV [kO (some false), kO (some true), kO (some false), kO none]) rfl rfl (by decide) rfl rfl (fun _ => slot_obj (noRef_map fun _ => rfl)) (fun _ => rfl) ?_
  intro g16
  obtain ⟨_, _, ⟨kd, rfl, rfl, hkd⟩, hC4⟩ := s_of (bs.take 2000) (p1 + 1 + 1) hbs2 hl2 (by omega) [kO (some false), kO (some true), kO (some false), kO none] (by decide)
  obtain ⟨o, rfl⟩ := kO_mem hkd
  apply x_call rfl
  · apply pa_cons
    · exact pa_box rfl (by decide) rfl
    apply pa_cons
    · exact pa_keep_map rfl rfl (by (simp; done)) (fun _ => rfl)
    exact pa_nil
  · exact hC4
  · exact ⟨rfl, rfl, rfl, of_decide_eq_true rfl, rfl⟩
  · exact .inl rfl
  · exact back_cons rfl rfl rfl back_nil
  · exact inst_plain rfl
  · exact fun _ => rfl
  intro g17
  (refine x_assign_own rfl rfl (by (simp; done)) rfl (fun _ => (slot_obj (by exact noRef_map fun _ => rfl))) (fun _ => rfl) ?_; intro g2)
  refine x_assign rfl rfl rfl ?_
  refine x_assign rfl rfl rfl ?_
  refine xr_nil ⟨nofun, [(.t 2, _), (.t 3, _), (.t 4, _), (.h 2, _)], ⟨rfl, rfl, rfl, rfl, rfl, rfl, rfl, rfl, trivial⟩, ?_⟩
  refine xa_ret ?_
  refine ⟨_, _, ?_, ret_tup (rl_own rfl rfl (by simp) (by exact noRef_map fun _ => rfl) (rl_val rfl rfl (rl_val rfl rfl (rl_nil outs_nil)))) rfl⟩
  exact ⟨xs, lev, o, rfl, rfl, hx7, hlev2.1, hlev2.2⟩

theorem keep_s_FnClosedBy : keepOf Try.f5 = [0, 2, 12, 5, 4, 3, 6, 34, 9, 53, 8, 7, 82] := by kernel_rfl
set_option maxHeartbeats 20000000 in
theorem s_FnClosedBy (bs : List Int) (hbs : Bytes bs) : CW cxT 5 [.list (bs.map uV)] = some (bV true, []) := by
  refine fn_intro rfl Try.func5 rfl ⟨by kernel_rfl, rfl, of_decide_eq_true rfl, of_decide_eq_true rfl, by decide⟩ keep_s_FnClosedBy ?_
  refine xa_seq ?_
  refine xa_region ?_
  refine x_assign rfl rfl rfl ?_
  refine xr_nil ⟨nofun, [(.t 0, _)], ⟨rfl, rfl, trivial⟩, ?_⟩
  refine xa_seq ?_
  refine xa_seq ?_
  refine xa_region ?_
  refine x_move rfl rfl ?_
  refine x_len_map rfl rfl ?_
  refine x_gtr rfl rfl ?_
  refine xr_nil ⟨nofun, [(.t 0, _), (.t 12, _)], ⟨rfl, rfl, rfl, rfl, trivial⟩, ?_⟩
  refine xa_cond rfl (fun hc => ?_) (fun hc => ?_)
  · try simp only [decide_eq_true_eq, decide_eq_false_iff_not, Bool.not_eq_true', Bool.not_eq_false', bne_iff_ne, beq_iff_eq, ne_eq, Bool.not_true, Bool.not_false, beq_eq_false_iff_ne, bne_eq_false_iff_eq, Decidable.not_not, Int.not_lt, Int.not_le, Bool.and_eq_true, Bool.and_eq_false_iff, Bool.or_eq_true, Bool.or_eq_false_iff, List.length_map] at hc
    refine xa_seq ?_
    refine xa_region ?_
    refine x_assign rfl rfl rfl ?_
    refine xr_nil ⟨nofun, [(.t 2, _)], ⟨rfl, rfl, trivial⟩, ?_⟩
    refine xa_ret ?_
    refine ret_val' rfl rfl trivial ?_
    rfl
  · try simp only [decide_eq_true_eq, decide_eq_false_iff_not, Bool.not_eq_true', Bool.not_eq_false', bne_iff_ne, beq_iff_eq, ne_eq, Bool.not_true, Bool.not_false, beq_eq_false_iff_ne, bne_eq_false_iff_eq, Decidable.not_not, Int.not_lt, Int.not_le, Bool.and_eq_true, Bool.and_eq_false_iff, Bool.or_eq_true, Bool.or_eq_false_iff, List.length_map] at hc
    refine xa_skip ?_
    refine xa_seq ?_
    refine xa_region ?_
    refine x_move rfl rfl ?_
    have hl2 : bs.length ≤ 1048576 := by omega
    obtain ⟨_, _, ⟨l, lev, o, rfl, rfl, hl7, hlv⟩, hC1⟩ := s_drawClosedBy bs hbs hl2
    have hl : l.length ≤ 1000 := by omega
    have hcl := cbR_len l lev o
    apply x_call rfl
    · apply pa_cons
      · exact pa_plain rfl
      exact pa_nil
    · exact hC1
    · exact ⟨rfl, rfl, rfl, of_decide_eq_true rfl, rfl⟩
    · exact .inl rfl
    · exact back_nil
    · exact inst_tupL (il_own fun _ => il_val rfl (il_val rfl il_nil))
    · exact fun _ => rfl
    intro g15
    refine x_move rfl rfl ?_
    refine x_extract rfl rfl rfl ?_
    refine x_extract rfl rfl rfl ?_
    refine x_extract rfl rfl rfl ?_
    (refine x_assign_own rfl rfl (by (simp; done)) rfl (fun _ => (slot_obj (by exact noRef_map fun _ => rfl))) (fun _ => rfl) ?_; intro g3)
    refine x_assign rfl rfl rfl ?_
    refine x_assign rfl rfl rfl ?_
    refine xr_nil ⟨nofun, [(.t 3, _), (.t 4, _), (.t 5, _), (.h 3, _)], ⟨rfl, rfl, rfl, rfl, rfl, rfl, rfl, rfl, trivial⟩, ?_⟩
    refine xa_seq ?_
    refine xa_region ?_
    refine x_move rfl rfl ?_
    refine x_move rfl rfl ?_
    refine x_move rfl rfl ?_
    apply x_call rfl
    · apply pa_cons
      · exact pa_lend_map rfl rfl rfl (by (simp; done)) (fun _ => rfl)
      apply pa_cons
      · exact pa_plain rfl
      apply pa_cons
      · exact pa_plain rfl
      exact pa_nil
    · exact s_closedI l hl lev o
    · exact ⟨rfl, rfl, rfl, of_decide_eq_true rfl, rfl⟩
    · exact .inr ⟨hasListL_mapF fun _ => rfl, rfl⟩
    · exact back_nil
    · exact inst_own
    · exact fun _ => rfl
    intro g22
    (refine x_assign_own rfl rfl (by (simp; done)) rfl (fun _ => (slot_obj (by exact noRef_map fun _ => rfl))) (fun _ => rfl) ?_; intro g6)
    refine xr_nil ⟨nofun, [(.t 3, _), (.t 4, _), (.t 5, _), (.t 6, _), (.h 3, _), (.h 6, _)], ⟨rfl, rfl, rfl, rfl, rfl, rfl, rfl, rfl, rfl, rfl, rfl, rfl, trivial⟩, ?_⟩
    refine xa_seq ?_
    refine xa_seq ?_
    refine xa_region ?_
    refine x_move rfl rfl ?_
    refine x_move rfl rfl ?_
    refine x_move rfl rfl ?_
    refine x_move rfl rfl ?_
    apply x_call rfl
    · apply pa_cons
      · exact pa_lend_map rfl rfl rfl (by (simp; done)) (fun _ => rfl)
      apply pa_cons
      · exact pa_plain rfl
      apply pa_cons
      · exact pa_plain rfl
      exact pa_nil
    · exact s_closedS l hl lev o
    · exact ⟨rfl, rfl, rfl, of_decide_eq_true rfl, rfl⟩
    · exact .inr ⟨hasListL_mapF fun _ => rfl, rfl⟩
    · exact back_nil
    · exact inst_own
    · exact fun _ => rfl
    intro g27
    apply x_call rfl
    · apply pa_cons
      · exact pa_lend_map rfl rfl rfl (by (simp; done)) (fun _ => rfl)
      apply pa_cons
      · exact pa_lend_map rfl rfl rfl (by (simp; done)) (fun _ => rfl)
      exact pa_nil
    · exact s_equalInts (cbR l lev o) (cbR l lev o) (by omega) (by omega)
    · exact ⟨rfl, rfl, rfl, of_decide_eq_true rfl, rfl⟩
    · exact .inr ⟨rfl, rfl⟩
    · exact back_nil
    · exact inst_plain rfl
    · exact fun _ => rfl
    intro g28
    simp only [beq_self_eq_true]
    refine x_not rfl ?_
    refine x_move rfl rfl ?_
    refine x_guard_t rfl rfl (by rfl) ?_
    refine x_move rfl rfl ?_
    refine x_guard_t rfl rfl (by rfl) ?_
    refine x_len_sl rfl rfl ?_
    refine x_guard_t rfl rfl (by rfl) ?_
    refine x_eql rfl rfl ?_
    refine x_pick_f rfl (by rfl) rfl rfl ?_
    refine xr_nil ⟨nofun, [(.t 3, _), (.t 4, _), (.t 5, _), (.t 6, _), (.t 34, _), (.h 3, _), (.h 6, _)], ⟨rfl, rfl, rfl, rfl, rfl, rfl, rfl, rfl, rfl, rfl, rfl, rfl, rfl, rfl, trivial⟩, ?_⟩
    refine xa_cond rfl (fun hc => ?_) (fun hc => ?_)
    · try simp only [decide_eq_true_eq, decide_eq_false_iff_not, Bool.not_eq_true', Bool.not_eq_false', bne_iff_ne, beq_iff_eq, ne_eq, Bool.not_true, Bool.not_false, beq_eq_false_iff_ne, bne_eq_false_iff_eq, Decidable.not_not, Int.not_lt, Int.not_le, Bool.and_eq_true, Bool.and_eq_false_iff, Bool.or_eq_true, Bool.or_eq_false_iff, List.length_map] at hc
      refine xa_seq ?_
      refine xa_region ?_
      refine x_move rfl rfl ?_
      refine x_move rfl rfl ?_
      refine x_move rfl rfl ?_
      refine x_move rfl rfl ?_
      apply x_call rfl
      · apply pa_cons
        · exact pa_lend_map rfl rfl rfl (by (simp; done)) (fun _ => rfl)
        apply pa_cons
        · exact pa_plain rfl
        apply pa_cons
        · exact pa_plain rfl
        exact pa_nil
      · exact s_closedS l hl lev o
      · exact ⟨rfl, rfl, rfl, of_decide_eq_true rfl, rfl⟩
      · exact .inr ⟨hasListL_mapF fun _ => rfl, rfl⟩
      · exact back_nil
      · exact inst_own
      · exact fun _ => rfl
      intro g39
      apply x_call rfl
      · apply pa_cons
        · exact pa_lend_map rfl rfl rfl (by (simp; done)) (fun _ => rfl)
        apply pa_cons
        · exact pa_lend_map rfl rfl rfl (by (simp; done)) (fun _ => rfl)
        exact pa_nil
      · exact s_equalInts (cbR l lev o) (cbR l lev o) (by omega) (by omega)
      · exact ⟨rfl, rfl, rfl, of_decide_eq_true rfl, rfl⟩
      · exact .inr ⟨rfl, rfl⟩
      · exact back_nil
      · exact inst_plain rfl
      · exact fun _ => rfl
      intro g40
      simp only [beq_self_eq_true]
      refine x_assign rfl rfl rfl ?_
      refine xr_nil ⟨nofun, [(.t 2, _)], ⟨rfl, rfl, trivial⟩, ?_⟩
      refine xa_ret ?_
      refine ret_val' rfl rfl trivial ?_
      rfl
    · try simp only [decide_eq_true_eq, decide_eq_false_iff_not, Bool.not_eq_true', Bool.not_eq_false', bne_iff_ne, beq_iff_eq, ne_eq, Bool.not_true, Bool.not_false, beq_eq_false_iff_ne, bne_eq_false_iff_eq, Decidable.not_not, Int.not_lt, Int.not_le, Bool.and_eq_true, Bool.and_eq_false_iff, Bool.or_eq_true, Bool.or_eq_false_iff, List.length_map] at hc
      obtain ⟨e, rfl, hvo, hlev1, hlev2, heq⟩ := cbR_some hc
      rw [heq] at hcl ⊢
      have hce : (clo l lev true).length ≤ l.length := cloU_len l lev true l.length
      have hcm : (clo l (min (lev + 10) 1000) e).length ≤ l.length := cloU_len l (min (lev + 10) 1000) e l.length
      refine xa_skip ?_
      refine xa_seq ?_
      refine xa_region ?_
      refine x_move rfl rfl ?_
      refine x_move rfl rfl ?_
      apply x_call rfl
      · apply pa_cons
        · exact pa_lend_map rfl rfl rfl (by (simp; done)) (fun _ => rfl)
        apply pa_cons
        · exact pa_plain rfl
        apply pa_cons
        · exact pa_plain rfl
        exact pa_nil
      · exact s_closedI l hl lev (some true)
      · exact ⟨rfl, rfl, rfl, of_decide_eq_true rfl, rfl⟩
      · exact .inr ⟨hasListL_mapF fun _ => rfl, rfl⟩
      · exact back_nil
      · exact inst_own
      · exact fun _ => rfl
      intro g43
      (refine x_assign_own rfl rfl (by (simp; done)) rfl (fun _ => (slot_obj (by exact noRef_map fun _ => rfl))) (fun _ => rfl) ?_; intro g7)
      refine xr_nil ⟨nofun, [(.t 3, _), (.t 4, _), (.t 5, _), (.t 6, _), (.t 7, _), (.h 3, _), (.h 6, _), (.h 7, _)], ⟨rfl, rfl, rfl, rfl, rfl, rfl, rfl, rfl, rfl, rfl, rfl, rfl, rfl, rfl, rfl, rfl, trivial⟩, ?_⟩
      refine xa_seq ?_
      refine xa_region ?_
      refine x_move rfl rfl ?_
      refine x_move rfl rfl ?_
      refine x_add rfl rfl (inI64 (by omega)) ?_
      refine x_min rfl rfl ?_
      refine x_move rfl rfl ?_
      apply x_call rfl
      · apply pa_cons
        · exact pa_lend_map rfl rfl rfl (by (simp; done)) (fun _ => rfl)
        apply pa_cons
        · exact pa_plain rfl
        apply pa_cons
        · exact pa_plain rfl
        exact pa_nil
      · exact s_closedI l hl (min (lev + 10) 1000) (some e)
      · exact ⟨rfl, rfl, rfl, of_decide_eq_true rfl, rfl⟩
      · exact .inr ⟨hasListL_mapF fun _ => rfl, rfl⟩
      · exact back_nil
      · exact inst_own
      · exact fun _ => rfl
      intro g49
      (refine x_assign_own rfl rfl (by (simp; done)) rfl (fun _ => (slot_obj (by exact noRef_map fun _ => rfl))) (fun _ => rfl) ?_; intro g8)
      refine xr_nil ⟨nofun, [(.t 3, _), (.t 4, _), (.t 6, _), (.t 7, _), (.t 8, _), (.h 3, _), (.h 6, _), (.h 7, _), (.h 8, _)], ⟨rfl, rfl, rfl, rfl, rfl, rfl, rfl, rfl, rfl, rfl, rfl, rfl, rfl, rfl, rfl, rfl, rfl, rfl, trivial⟩, ?_⟩
      refine xa_seq ?_
      refine xa_seq ?_
      refine xa_region ?_
      refine x_assign rfl rfl rfl ?_
      refine xr_nil ⟨nofun, [(.t 3, _), (.t 4, _), (.t 6, _), (.t 7, _), (.t 8, _), (.t 9, _), (.h 3, _), (.h 6, _), (.h 7, _), (.h 8, _)], ⟨rfl, rfl, rfl, rfl, rfl, rfl, rfl, rfl, rfl, rfl, rfl, rfl, rfl, rfl, rfl, rfl, rfl, rfl, rfl, rfl, trivial⟩, ?_⟩
      refine xa_block ?_
      rw [cbR_ok hvo ⟨hlev1, hlev2⟩, cbR_ok hvo (by omega)]
      refine xa_loopK (β := Nat) [(.t 3, _), (.t 4, _), (.t 6, _), (.t 7, _), (.t 8, _), (.h 3, _), (.h 6, _), (.h 7, _), (.h 8, _)] (fun (i : Nat) => [(.t 9, iV i)]) (fun (i : Nat) => i ≤ (clo l lev e).length) (fun (i : Nat) => (clo l lev e).length - i) 0 ⟨rfl, rfl, rfl, rfl, rfl, rfl, rfl, rfl, rfl, rfl, trivial⟩ (Nat.zero_le _) ?_
      intro i hb
      refine xa_seq ?_
      refine xa_seq ?_
      refine xa_region ?_
      refine x_move rfl rfl ?_
      refine x_move rfl rfl ?_
      refine x_len_sl rfl rfl ?_
      refine x_lss rfl rfl ?_
      refine xr_nil ⟨nofun, [(.t 3, _), (.t 4, _), (.t 6, _), (.t 7, _), (.t 8, _), (.t 9, _), (.t 53, _), (.h 3, _), (.h 6, _), (.h 7, _), (.h 8, _)], ⟨rfl, rfl, rfl, rfl, rfl, rfl, rfl, rfl, rfl, rfl, rfl, rfl, rfl, rfl, rfl, rfl, rfl, rfl, rfl, rfl, rfl, rfl, trivial⟩, ?_⟩
      refine xa_cond rfl (fun hc => ?_) (fun hc => ?_)
      · try simp only [decide_eq_true_eq, decide_eq_false_iff_not, Bool.not_eq_true', Bool.not_eq_false', bne_iff_ne, beq_iff_eq, ne_eq, Bool.not_true, Bool.not_false, beq_eq_false_iff_ne, bne_eq_false_iff_eq, Decidable.not_not, Int.not_lt, Int.not_le, Bool.and_eq_true, Bool.and_eq_false_iff, Bool.or_eq_true, Bool.or_eq_false_iff, List.length_map] at hc
        obtain ⟨i0, hx0, hi0, hcp⟩ := clo_mem.1 (getD_mem (xs := clo l lev e) (i := i) (by omega))
        have hle := hcp.le hi0
        have hin1 : (i0 : Int) ∈ clo l lev true := by exact clo_mem.2 ⟨i0, rfl, hi0, hcp.each hlev1⟩
        have hin2 : (i0 : Int) ∈ clo l (min (lev + 10) 1000) e := by exact clo_mem.2 ⟨i0, rfl, hi0, hcp.mono (by omega)⟩
        refine xa_skip ?_
        refine xa_seq ?_
        refine xa_block ?_
        refine xa_seq ?_
        refine xa_region ?_
        refine x_move rfl rfl ?_
        refine x_move rfl rfl ?_
        refine x_move rfl rfl ?_
        refine x_index_slN rfl rfl rfl rfl (by (simp; omega)) (by (simp; done)) rfl ?_
        refine x_load_mapV rfl rfl (by omega) (fun _ => rfl) (fun _ => rfl) rfl ?_
        rw [hx0]
        refine x_index_slN rfl rfl rfl rfl (by (simp; omega)) (by (simp; done)) rfl ?_
        refine x_load_mapV rfl rfl (by omega) (fun _ => rfl) (fun _ => rfl) rfl ?_
        refine x_move rfl rfl ?_
        refine x_gtr rfl rfl ?_
        refine x_move rfl rfl ?_
        refine x_guard_split rfl rfl (fun hg0 => ?_) (fun hg0 => ?_)
        · have hg := hg0; try simp only [decide_eq_true_eq, decide_eq_false_iff_not, Bool.not_eq_true', Bool.not_eq_false', bne_iff_ne, beq_iff_eq, ne_eq, Bool.not_true, Bool.not_false, beq_eq_false_iff_ne, bne_eq_false_iff_eq, Decidable.not_not, Int.not_lt, Int.not_le, Bool.and_eq_true, Bool.and_eq_false_iff, Bool.or_eq_true, Bool.or_eq_false_iff] at hg
          refine x_move rfl rfl ?_
          refine x_guard_t rfl rfl (by assumption) ?_
          refine x_move rfl rfl ?_
          refine x_guard_t rfl rfl (by assumption) ?_
          refine x_move rfl rfl ?_
          refine x_guard_t rfl rfl (by assumption) ?_
          refine x_index_slN rfl rfl rfl rfl (by (simp; omega)) (by (simp; done)) rfl ?_
          refine x_guard_t rfl rfl (by assumption) ?_
          refine x_load_mapV rfl rfl (by omega) (fun _ => rfl) (fun _ => rfl) rfl ?_
          refine x_guard_t rfl rfl (by assumption) ?_
          rw [hx0]
          apply x_call rfl
          · apply pa_cons
            · exact pa_lend_map rfl rfl rfl (by (simp; done)) (fun _ => rfl)
            apply pa_cons
            · exact pa_plain rfl
            exact pa_nil
          · exact s_isIn (clo l lev true) (by omega) (i0 : Int)
          · exact ⟨rfl, rfl, rfl, of_decide_eq_true rfl, rfl⟩
          · exact .inr ⟨rfl, rfl⟩
          · exact back_nil
          · exact inst_plain rfl
          · exact fun _ => rfl
          intro g71
          rw [decide_eq_true hin1]
          refine x_guard_t rfl rfl (by assumption) ?_
          refine x_not rfl ?_
          refine x_pick_f rfl (by assumption) rfl rfl ?_
          refine x_move rfl rfl ?_
          refine x_guard_t rfl rfl (by rfl) ?_
          refine x_move rfl rfl ?_
          refine x_guard_t rfl rfl (by rfl) ?_
          refine x_move rfl rfl ?_
          refine x_guard_t rfl rfl (by rfl) ?_
          refine x_move rfl rfl ?_
          refine x_guard_t rfl rfl (by rfl) ?_
          refine x_index_slN rfl rfl rfl rfl (by (simp; omega)) (by (simp; done)) rfl ?_
          refine x_guard_t rfl rfl (by rfl) ?_
          refine x_load_mapV rfl rfl (by omega) (fun _ => rfl) (fun _ => rfl) rfl ?_
          refine x_guard_t rfl rfl (by rfl) ?_
          rw [hx0]
          apply x_call rfl
          · apply pa_cons
            · exact pa_lend_map rfl rfl rfl (by (simp; done)) (fun _ => rfl)
            apply pa_cons
            · exact pa_plain rfl
            exact pa_nil
          · exact s_isIn (clo l (min (lev + 10) 1000) e) (by omega) (i0 : Int)
          · exact ⟨rfl, rfl, rfl, of_decide_eq_true rfl, rfl⟩
          · exact .inr ⟨rfl, rfl⟩
          · exact back_nil
          · exact inst_plain rfl
          · exact fun _ => rfl
          intro g80
          rw [decide_eq_true hin2]
          refine x_guard_t rfl rfl (by rfl) ?_
          refine x_not rfl ?_
          refine x_pick_f rfl (by rfl) rfl rfl ?_
          refine xr_nil ⟨nofun, [(.t 3, _), (.t 4, _), (.t 6, _), (.t 7, _), (.t 8, _), (.t 9, _), (.t 82, _), (.h 3, _), (.h 6, _), (.h 7, _), (.h 8, _)], ⟨rfl, rfl, rfl, rfl, rfl, rfl, rfl, rfl, rfl, rfl, rfl, rfl, rfl, rfl, rfl, rfl, rfl, rfl, rfl, rfl, rfl, rfl, trivial⟩, ?_⟩
          refine xa_cond rfl (fun hc => absurd hc (by decide)) (fun hc => ?_)
          refine xa_skip ?_
          refine xa_region ?_
          refine x_move rfl rfl ?_
          refine x_add rfl rfl (inI64 (by omega)) ?_
          refine x_assign rfl rfl rfl ?_
          refine xr_nil ⟨nofun, [(.t 3, _), (.t 4, _), (.t 6, _), (.t 7, _), (.t 8, _), (.t 9, _), (.h 3, _), (.h 6, _), (.h 7, _), (.h 8, _)], ⟨rfl, rfl, rfl, rfl, rfl, rfl, rfl, rfl, rfl, rfl, rfl, rfl, rfl, rfl, rfl, rfl, rfl, rfl, rfl, rfl, trivial⟩, ?_⟩
          refine ⟨i + 1, (by omega), (by omega), ⟨rfl, rfl, rfl, rfl, rfl, rfl, rfl, rfl, rfl, rfl, trivial⟩⟩
        · have hg := hg0; try simp only [decide_eq_true_eq, decide_eq_false_iff_not, Bool.not_eq_true', Bool.not_eq_false', bne_iff_ne, beq_iff_eq, ne_eq, Bool.not_true, Bool.not_false, beq_eq_false_iff_ne, bne_eq_false_iff_eq, Decidable.not_not, Int.not_lt, Int.not_le, Bool.and_eq_true, Bool.and_eq_false_iff, Bool.or_eq_true, Bool.or_eq_false_iff] at hg
          refine x_guard_f rfl rfl (by assumption) ?_
          refine x_guard_f rfl rfl (by assumption) ?_
          refine x_guard_f rfl rfl (by assumption) ?_
          refine x_guard_f rfl rfl (by assumption) ?_
          refine x_guard_f rfl rfl (by assumption) ?_
          refine x_guard_f rfl rfl (by assumption) ?_
          refine x_pick_t rfl (by assumption) rfl rfl ?_
          refine x_move rfl rfl ?_
          refine x_guard_f rfl rfl (by rfl) ?_
          refine x_guard_f rfl rfl (by rfl) ?_
          refine x_guard_f rfl rfl (by rfl) ?_
          refine x_guard_f rfl rfl (by rfl) ?_
          refine x_guard_f rfl rfl (by rfl) ?_
          refine x_guard_f rfl rfl (by rfl) ?_
          refine x_guard_f rfl rfl (by rfl) ?_
          refine x_pick_t rfl (by rfl) rfl rfl ?_
          refine xr_nil ⟨nofun, [(.t 3, _), (.t 4, _), (.t 6, _), (.t 7, _), (.t 8, _), (.t 9, _), (.t 82, _), (.h 3, _), (.h 6, _), (.h 7, _), (.h 8, _)], ⟨rfl, rfl, rfl, rfl, rfl, rfl, rfl, rfl, rfl, rfl, rfl, rfl, rfl, rfl, rfl, rfl, rfl, rfl, rfl, rfl, rfl, rfl, trivial⟩, ?_⟩
          refine xa_cond rfl (fun hc => ?_) (fun hc => absurd hc (by decide))
          refine xa_seq ?_
          refine xa_region ?_
          refine x_assign rfl rfl rfl ?_
          refine xr_nil ⟨nofun, [(.t 2, _)], ⟨rfl, rfl, trivial⟩, ?_⟩
          refine xa_ret ?_
          refine ret_val' rfl rfl trivial ?_
          (exfalso; omega)
      · try simp only [decide_eq_true_eq, decide_eq_false_iff_not, Bool.not_eq_true', Bool.not_eq_false', bne_iff_ne, beq_iff_eq, ne_eq, Bool.not_true, Bool.not_false, beq_eq_false_iff_ne, bne_eq_false_iff_eq, Decidable.not_not, Int.not_lt, Int.not_le, Bool.and_eq_true, Bool.and_eq_false_iff, Bool.or_eq_true, Bool.or_eq_false_iff, List.length_map] at hc
        refine xa_exit ?_
        refine xa_seq ?_
        refine xa_region ?_
        refine x_move rfl rfl ?_
        apply x_call rfl
        · apply pa_cons
          · exact pa_lend_map rfl rfl rfl (by (simp; done)) (fun _ => rfl)
          exact pa_nil
        · exact s_ascends (clo l lev e) (by omega)
        · exact ⟨rfl, rfl, rfl, of_decide_eq_true rfl, rfl⟩
        · exact .inr ⟨rfl, rfl⟩
        · exact back_nil
        · exact inst_plain rfl
        · exact fun _ => rfl
        intro g84
        rw [asc_of (clo_asc l lev e)]
        refine x_assign rfl rfl rfl ?_
        refine xr_nil ⟨nofun, [(.t 2, _)], ⟨rfl, rfl, trivial⟩, ?_⟩
        refine xa_ret ?_
        refine ret_val' rfl rfl trivial ?_
        rfl
end Go.Proofs.Ytajimnlkgdnamaa

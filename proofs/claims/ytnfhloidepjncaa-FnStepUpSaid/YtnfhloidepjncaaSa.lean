/- What each function of the program gives on the abstract machine, part 1 of 1. Conditions: those in front of each theorem. -/
import Derived.Test.YtnfhloidepjncaaMe
import Derived.Test.YtnfhloidepjncaaChecked
import Derived.KernelRfl

set_option linter.unusedVariables false
set_option linter.unusedSimpArgs false
namespace Go.Proofs.Ytnfhloidepjncaa
open Go Go.Mv Go.Proofs
set_option maxRecDepth 100000

def mdT : List (Nat × List Nat) := [(29, [3, 3, 3, 3]), (30, [3, 3, 3, 3]), (31, [3, 3, 3, 3]), (32, [3, 3, 3, 3]), (33, [3, 3, 3, 3]), (37, [2]), (41, [3, 3, 3, 3]), (47, [1]), (62, [1]), (63, [1]), (67, [3]), (72, [2]), (75, [1]), (90, [1])]
noncomputable def extT : List (Nat × (List AV → Option (AV × List (List AV)))) := [(61, extClone), (62, extSort), (67, extBwd 77)]
noncomputable def cxT : Cx := { P := Try.prog, md := mdOf mdT, ext := extOf extT, it := fun k => if k = 77 then some itBwd else none }
noncomputable def cxE : Cx := { P := Try.prog, md := mdOf mdT, ext := fun _ => none }
theorem s_Clone (xs : List Int) (hl : xs.length ≤ maxL) : CW cxT 61 [.list (xs.map iV)] = some (.own 1 (xs.map iV), []) := CW_ext cxT rfl (by simp [extClone, unI_map, hl])
theorem s_Sort (xs : List Int) (hl : xs.length ≤ maxL) : CW cxT 62 [.own 1 (xs.map iV)] = some (.tup [], [(sortI xs).map iV]) := CW_ext cxT rfl (by simp [extSort, unI_map, hl])
theorem s_Backward (es : List AV) : CW cxT 67 [.list es] = some (.clo 77 [.ipt (.list es) 0], []) := CW_ext cxT rfl rfl

theorem keep_s_inRange : keepOf Try.f39 = [0, 1, 2, 6] := by kernel_rfl
set_option maxHeartbeats 20000000 in
theorem s_inRange (n lo hi : Int) : CW cxT 39 [iV n, iV lo, iV hi] = some (bV (decide (lo ≤ n) && decide (n ≤ hi)), []) := by
  refine fn_intro rfl Try.func39 rfl ⟨by kernel_rfl, rfl, of_decide_eq_true rfl, of_decide_eq_true rfl, by decide⟩ keep_s_inRange ?_
  refine xa_seq ?_
  refine xa_region ?_
  refine x_assign rfl rfl rfl ?_
  refine xr_nil ⟨nofun, [(.t 0, _), (.t 1, _), (.t 2, _)], ⟨rfl, rfl, rfl, rfl, rfl, rfl, trivial⟩, ?_⟩
  refine xa_seq ?_
  refine xa_region ?_
  refine x_move rfl rfl ?_
  refine x_move rfl rfl ?_
  refine x_leq rfl rfl ?_
  refine x_move rfl rfl ?_
  refine x_guard_split rfl rfl (fun hg0 => ?_) (fun hg0 => ?_)
  · have hg := hg0; try simp only [decide_eq_true_eq, decide_eq_false_iff_not, Bool.not_eq_true', Bool.not_eq_false', bne_iff_ne, beq_iff_eq, ne_eq, Bool.not_true, Bool.not_false, beq_eq_false_iff_ne, bne_eq_false_iff_eq, Decidable.not_not, Int.not_lt, Int.not_le, Bool.and_eq_true, Bool.and_eq_false_iff, Bool.or_eq_true, Bool.or_eq_false_iff] at hg
    refine x_move rfl rfl ?_
    refine x_guard_t rfl rfl (by assumption) ?_
    refine x_move rfl rfl ?_
    refine x_guard_t rfl rfl (by assumption) ?_
    refine x_leq rfl rfl ?_
    refine x_pick_t rfl (by assumption) rfl rfl ?_
    refine x_assign rfl rfl rfl ?_
    refine xr_nil ⟨nofun, [(.t 6, _)], ⟨rfl, rfl, trivial⟩, ?_⟩
    refine xa_ret ?_
    refine ret_val' rfl rfl trivial ?_
    simp_all [ofConst]; try omega
  · have hg := hg0; try simp only [decide_eq_true_eq, decide_eq_false_iff_not, Bool.not_eq_true', Bool.not_eq_false', bne_iff_ne, beq_iff_eq, ne_eq, Bool.not_true, Bool.not_false, beq_eq_false_iff_ne, bne_eq_false_iff_eq, Decidable.not_not, Int.not_lt, Int.not_le, Bool.and_eq_true, Bool.and_eq_false_iff, Bool.or_eq_true, Bool.or_eq_false_iff] at hg
    refine x_guard_f rfl rfl (by assumption) ?_
    refine x_guard_f rfl rfl (by assumption) ?_
    refine x_pick_f rfl (by assumption) rfl rfl ?_
    refine x_assign rfl rfl rfl ?_
    refine xr_nil ⟨nofun, [(.t 6, _)], ⟨rfl, rfl, trivial⟩, ?_⟩
    refine xa_ret ?_
    refine ret_val' rfl rfl trivial ?_
    simp_all [ofConst]; try omega

theorem keep_s_in : keepOf Try.f35 = [0, 1, 2, 6] := by kernel_rfl
set_option maxHeartbeats 20000000 in
theorem s_in (n lo hi : Int) : CW cxT 35 [iV n, iV lo, iV hi] = some (bV (decide (lo ≤ n) && decide (n ≤ hi)), []) := by
  refine fn_intro rfl Try.func35 rfl ⟨by kernel_rfl, rfl, of_decide_eq_true rfl, of_decide_eq_true rfl, by decide⟩ keep_s_in ?_
  refine xa_seq ?_
  refine xa_region ?_
  refine x_assign rfl rfl rfl ?_
  refine xr_nil ⟨nofun, [(.t 0, _), (.t 1, _), (.t 2, _)], ⟨rfl, rfl, rfl, rfl, rfl, rfl, trivial⟩, ?_⟩
  refine xa_seq ?_
  refine xa_region ?_
  refine x_move rfl rfl ?_
  refine x_move rfl rfl ?_
  refine x_geq rfl rfl ?_
  refine x_move rfl rfl ?_
  refine x_guard_split rfl rfl (fun hg0 => ?_) (fun hg0 => ?_)
  · have hg := hg0; try simp only [decide_eq_true_eq, decide_eq_false_iff_not, Bool.not_eq_true', Bool.not_eq_false', bne_iff_ne, beq_iff_eq, ne_eq, Bool.not_true, Bool.not_false, beq_eq_false_iff_ne, bne_eq_false_iff_eq, Decidable.not_not, Int.not_lt, Int.not_le, Bool.and_eq_true, Bool.and_eq_false_iff, Bool.or_eq_true, Bool.or_eq_false_iff] at hg
    refine x_move rfl rfl ?_
    refine x_guard_t rfl rfl (by assumption) ?_
    refine x_move rfl rfl ?_
    refine x_guard_t rfl rfl (by assumption) ?_
    refine x_leq rfl rfl ?_
    refine x_pick_t rfl (by assumption) rfl rfl ?_
    refine x_assign rfl rfl rfl ?_
    refine xr_nil ⟨nofun, [(.t 6, _)], ⟨rfl, rfl, trivial⟩, ?_⟩
    refine xa_ret ?_
    refine ret_val' rfl rfl trivial ?_
    simp_all [ofConst]; try omega
  · have hg := hg0; try simp only [decide_eq_true_eq, decide_eq_false_iff_not, Bool.not_eq_true', Bool.not_eq_false', bne_iff_ne, beq_iff_eq, ne_eq, Bool.not_true, Bool.not_false, beq_eq_false_iff_ne, bne_eq_false_iff_eq, Decidable.not_not, Int.not_lt, Int.not_le, Bool.and_eq_true, Bool.and_eq_false_iff, Bool.or_eq_true, Bool.or_eq_false_iff] at hg
    refine x_guard_f rfl rfl (by assumption) ?_
    refine x_guard_f rfl rfl (by assumption) ?_
    refine x_pick_f rfl (by assumption) rfl rfl ?_
    refine x_assign rfl rfl rfl ?_
    refine xr_nil ⟨nofun, [(.t 6, _)], ⟨rfl, rfl, trivial⟩, ?_⟩
    refine xa_ret ?_
    refine ret_val' rfl rfl trivial ?_
    simp_all [ofConst]; try omega

theorem keep_s_equalInts : keepOf Try.f10 = [0, 1, 4, 10, 5, 14, 25] := by kernel_rfl
set_option maxHeartbeats 20000000 in
theorem s_equalInts (xs ys : List Int) (hx : xs.length ≤ 1000000) (hy : ys.length ≤ 1000000) : CW cxT 10 [L xs, L ys] = some (bV (xs == ys), []) := by
  refine fn_intro rfl Try.func10 rfl ⟨by kernel_rfl, rfl, of_decide_eq_true rfl, of_decide_eq_true rfl, by decide⟩ keep_s_equalInts ?_
  refine xa_seq ?_
  refine xa_region ?_
  refine x_assign rfl rfl rfl ?_
  refine xr_nil ⟨nofun, [(.t 0, _), (.t 1, _)], ⟨rfl, rfl, rfl, rfl, trivial⟩, ?_⟩
  refine xa_seq ?_
  refine xa_seq ?_
  refine xa_region ?_
  refine x_move rfl rfl ?_
  refine x_len_map rfl rfl ?_
  refine x_move rfl rfl ?_
  refine x_len_map rfl rfl ?_
  refine x_neq rfl rfl ?_
  refine xr_nil ⟨nofun, [(.t 0, _), (.t 1, _), (.t 10, _)], ⟨rfl, rfl, rfl, rfl, rfl, rfl, trivial⟩, ?_⟩
  refine xa_cond rfl (fun hc => ?_) (fun hc => ?_)
  · try simp only [decide_eq_true_eq, decide_eq_false_iff_not, Bool.not_eq_true', Bool.not_eq_false', bne_iff_ne, beq_iff_eq, ne_eq, Bool.not_true, Bool.not_false, beq_eq_false_iff_ne, bne_eq_false_iff_eq, Decidable.not_not, Int.not_lt, Int.not_le, Bool.and_eq_true, Bool.and_eq_false_iff, Bool.or_eq_true, Bool.or_eq_false_iff, List.length_map] at hc
    refine xa_seq ?_
    refine xa_region ?_
    refine x_assign rfl rfl rfl ?_
    refine xr_nil ⟨nofun, [(.t 4, _)], ⟨rfl, rfl, trivial⟩, ?_⟩
    refine xa_ret ?_
    refine ret_val' rfl rfl trivial ?_
    have : ¬ xs = ys := fun e => hc (by rw [e])
    simp [ofConst, this]
  · try simp only [decide_eq_true_eq, decide_eq_false_iff_not, Bool.not_eq_true', Bool.not_eq_false', bne_iff_ne, beq_iff_eq, ne_eq, Bool.not_true, Bool.not_false, beq_eq_false_iff_ne, bne_eq_false_iff_eq, Decidable.not_not, Int.not_lt, Int.not_le, Bool.and_eq_true, Bool.and_eq_false_iff, Bool.or_eq_true, Bool.or_eq_false_iff, List.length_map] at hc
    refine xa_skip ?_
    refine xa_seq ?_
    refine xa_seq ?_
    refine xa_region ?_
    refine x_assign rfl rfl rfl ?_
    refine xr_nil ⟨nofun, [(.t 0, _), (.t 1, _), (.t 5, _)], ⟨rfl, rfl, rfl, rfl, rfl, rfl, trivial⟩, ?_⟩
    refine xa_block ?_
    refine xa_loop (β := Nat) (fun (b : Nat) => [(.t 0, L xs), (.t 1, L ys), (.t 5, iV b)]) (fun (b : Nat) => b ≤ xs.length ∧ ∀ j, j < b → xs.getD j 0 = ys.getD j 0) (fun (b : Nat) => xs.length - b) 0 ⟨rfl, rfl, rfl, trivial⟩ ⟨Nat.zero_le _, fun j hj => by omega⟩ ?_
    intro b hb
    obtain ⟨hb1, hb2⟩ := hb
    refine xa_seq ?_
    refine xa_seq ?_
    refine xa_region ?_
    refine x_move rfl rfl ?_
    refine x_move rfl rfl ?_
    refine x_len_map rfl rfl ?_
    refine x_lss rfl rfl ?_
    refine xr_nil ⟨nofun, [(.t 0, _), (.t 1, _), (.t 5, _), (.t 14, _)], ⟨rfl, rfl, rfl, rfl, rfl, rfl, rfl, rfl, trivial⟩, ?_⟩
    refine xa_cond rfl (fun hc => ?_) (fun hc => ?_)
    · try simp only [decide_eq_true_eq, decide_eq_false_iff_not, Bool.not_eq_true', Bool.not_eq_false', bne_iff_ne, beq_iff_eq, ne_eq, Bool.not_true, Bool.not_false, beq_eq_false_iff_ne, bne_eq_false_iff_eq, Decidable.not_not, Int.not_lt, Int.not_le, Bool.and_eq_true, Bool.and_eq_false_iff, Bool.or_eq_true, Bool.or_eq_false_iff, List.length_map] at hc
      refine xa_skip ?_
      refine xa_seq ?_
      refine xa_block ?_
      refine xa_seq ?_
      refine xa_region ?_
      refine x_move rfl rfl ?_
      refine x_move rfl rfl ?_
      refine x_index_listN rfl rfl rfl (fun _ => rfl) (by omega) ?_
      refine x_load_iptV rfl rfl rfl ?_
      refine x_move rfl rfl ?_
      refine x_move rfl rfl ?_
      refine x_index_listN rfl rfl rfl (fun _ => rfl) (by omega) ?_
      refine x_load_iptV rfl rfl rfl ?_
      refine x_neq rfl rfl ?_
      refine xr_nil ⟨fun _ => ⟨by decide +kernel, by decide +kernel⟩, [(.t 0, _), (.t 1, _), (.t 5, _), (.t 25, _)], ⟨rfl, rfl, rfl, rfl, rfl, rfl, rfl, rfl, trivial⟩, ?_⟩
      refine xa_cond rfl (fun hc => ?_) (fun hc => ?_)
      · try simp only [decide_eq_true_eq, decide_eq_false_iff_not, Bool.not_eq_true', Bool.not_eq_false', bne_iff_ne, beq_iff_eq, ne_eq, Bool.not_true, Bool.not_false, beq_eq_false_iff_ne, bne_eq_false_iff_eq, Decidable.not_not, Int.not_lt, Int.not_le, Bool.and_eq_true, Bool.and_eq_false_iff, Bool.or_eq_true, Bool.or_eq_false_iff, List.length_map] at hc
        refine xa_seq ?_
        refine xa_region ?_
        refine x_assign rfl rfl rfl ?_
        refine xr_nil ⟨nofun, [(.t 4, _)], ⟨rfl, rfl, trivial⟩, ?_⟩
        refine xa_ret ?_
        refine ret_val' rfl rfl trivial ?_
        have : ¬ xs = ys := fun e => hc (by rw [e])
        simp [ofConst, this]
      · try simp only [decide_eq_true_eq, decide_eq_false_iff_not, Bool.not_eq_true', Bool.not_eq_false', bne_iff_ne, beq_iff_eq, ne_eq, Bool.not_true, Bool.not_false, beq_eq_false_iff_ne, bne_eq_false_iff_eq, Decidable.not_not, Int.not_lt, Int.not_le, Bool.and_eq_true, Bool.and_eq_false_iff, Bool.or_eq_true, Bool.or_eq_false_iff, List.length_map] at hc
        refine xa_skip ?_
        refine xa_region ?_
        refine x_move rfl rfl ?_
        refine x_add rfl rfl (inI64 (by omega)) ?_
        refine x_assign rfl rfl rfl ?_
        refine xr_nil ⟨nofun, [(.t 0, _), (.t 1, _), (.t 5, _)], ⟨rfl, rfl, rfl, rfl, rfl, rfl, trivial⟩, ?_⟩
        refine ⟨b + 1, ⟨by omega, fun j hj => by rcases Nat.lt_succ_iff_lt_or_eq.1 hj with h | h; exact hb2 j h; subst h; simpa using hc⟩, (by omega), ⟨rfl, rfl, rfl, trivial⟩⟩
    · try simp only [decide_eq_true_eq, decide_eq_false_iff_not, Bool.not_eq_true', Bool.not_eq_false', bne_iff_ne, beq_iff_eq, ne_eq, Bool.not_true, Bool.not_false, beq_eq_false_iff_ne, bne_eq_false_iff_eq, Decidable.not_not, Int.not_lt, Int.not_le, Bool.and_eq_true, Bool.and_eq_false_iff, Bool.or_eq_true, Bool.or_eq_false_iff, List.length_map] at hc
      refine xa_exit ?_
      refine xa_seq ?_
      refine xa_region ?_
      refine x_assign rfl rfl rfl ?_
      refine xr_nil ⟨nofun, [(.t 4, _)], ⟨rfl, rfl, trivial⟩, ?_⟩
      refine xa_ret ?_
      refine ret_val' rfl rfl trivial ?_
      have : xs = ys := list_ext_getD (by omega) fun j hj => hb2 j (by omega)
      simp [ofConst, this]

theorem keep_s_pick : keepOf Try.f32 = [0, 1, 4, 24, 5, 36, 6] := by kernel_rfl
set_option maxHeartbeats 20000000 in
theorem s_pick (bs : List Int) (p : Int) (hbs : Bytes bs) (hl : bs.length ≤ 1048576) (hp : 0 ≤ p ∧ p ≤ 1000000000) (n : Int) (hn : n ≤ 1000000000) : ∃ res outs, (fun res outs => ∃ k, res = iV k ∧ outs = [[rdr bs (p + 1)]] ∧ (1 ≤ n → 0 ≤ k ∧ k < n) ∧ (n < 1 → k = 0)) res outs ∧ CW cxT 32 [.ownp [rdr bs p] 0 0, iV n] = some (res, outs) := by
  refine fn_introP rfl Try.func32 rfl ⟨by kernel_rfl, rfl, of_decide_eq_true rfl, of_decide_eq_true rfl, by decide⟩ keep_s_pick ?_
  refine xa_seq ?_
  refine xa_region ?_
  refine x_assign rfl rfl rfl ?_
  refine xr_nil ⟨nofun, [(.t 0, _), (.t 1, _), (.h 0, _)], ⟨rfl, rfl, rfl, rfl, rfl, rfl, trivial⟩, ?_⟩
  refine xa_seq ?_
  refine xa_region ?_
  refine x_move rfl rfl ?_
  refine x_move rfl rfl ?_
  refine x_nilCheck rfl rfl rfl ?_
  refine x_fieldAddr rfl rfl (by decide) rfl rfl ?_
  refine x_load_ptrN rfl rfl rfl rfl rfl rfl ?_
  refine x_add rfl rfl (inI64 (by omega)) ?_
  refine x_nilCheck rfl rfl rfl ?_
  refine x_fieldAddr rfl rfl (by decide) rfl rfl ?_
  refine x_store rfl rfl rfl rfl rfl ⟨by decide, rfl, of_decide_eq_true rfl, of_decide_eq_true rfl, rfl⟩ (by exact slot_box4 rfl) ?_
  refine xr_nil ⟨nofun, [(.t 0, _), (.t 1, _), (.h 0, _)], ⟨rfl, rfl, rfl, rfl, rfl, rfl, trivial⟩, ?_⟩
  refine xa_seq ?_
  refine xa_seq ?_
  refine xa_region ?_
  refine x_move rfl rfl ?_
  refine x_lss rfl rfl ?_
  refine x_move rfl rfl ?_
  refine x_guard_split rfl rfl (fun hg0 => ?_) (fun hg0 => ?_)
  · have hg := hg0; try simp only [decide_eq_true_eq, decide_eq_false_iff_not, Bool.not_eq_true', Bool.not_eq_false', bne_iff_ne, beq_iff_eq, ne_eq, Bool.not_true, Bool.not_false, beq_eq_false_iff_ne, bne_eq_false_iff_eq, Decidable.not_not, Int.not_lt, Int.not_le, Bool.and_eq_true, Bool.and_eq_false_iff, Bool.or_eq_true, Bool.or_eq_false_iff] at hg
    refine x_move rfl rfl ?_
    refine x_guard_t rfl rfl (by assumption) ?_
    refine x_nilCheck rfl rfl rfl ?_
    refine x_guard_t rfl rfl (by assumption) ?_
    refine x_fieldAddr rfl rfl (by decide) rfl rfl ?_
    refine x_guard_t rfl rfl (by assumption) ?_
    refine x_load_ptrN rfl rfl rfl rfl rfl rfl ?_
    refine x_guard_t rfl rfl (by assumption) ?_
    refine x_len_map rfl rfl ?_
    refine x_guard_t rfl rfl (by assumption) ?_
    refine x_eql rfl rfl ?_
    refine x_pick_f rfl (by assumption) rfl rfl ?_
    refine xr_nil ⟨nofun, [(.t 0, _), (.t 1, _), (.t 24, _), (.h 0, _)], ⟨rfl, rfl, rfl, rfl, rfl, rfl, rfl, rfl, trivial⟩, ?_⟩
    refine xa_cond rfl (fun hc => ?_) (fun hc => ?_)
    · try simp only [decide_eq_true_eq, decide_eq_false_iff_not, Bool.not_eq_true', Bool.not_eq_false', bne_iff_ne, beq_iff_eq, ne_eq, Bool.not_true, Bool.not_false, beq_eq_false_iff_ne, bne_eq_false_iff_eq, Decidable.not_not, Int.not_lt, Int.not_le, Bool.and_eq_true, Bool.and_eq_false_iff, Bool.or_eq_true, Bool.or_eq_false_iff, List.length_map] at hc
      refine xa_seq ?_
      refine xa_region ?_
      refine x_assign rfl rfl rfl ?_
      refine xr_nil ⟨nofun, [(.t 4, _), (.h 0, _)], ⟨rfl, rfl, rfl, rfl, trivial⟩, ?_⟩
      refine xa_ret ?_
      refine ⟨_, _, ?_, ret_val rfl rfl (outs_one rfl rfl)⟩
      refine ⟨_, rfl, rfl, fun h => ?_, fun h => ?_⟩
      · omega
      · omega
    · try simp only [decide_eq_true_eq, decide_eq_false_iff_not, Bool.not_eq_true', Bool.not_eq_false', bne_iff_ne, beq_iff_eq, ne_eq, Bool.not_true, Bool.not_false, beq_eq_false_iff_ne, bne_eq_false_iff_eq, Decidable.not_not, Int.not_lt, Int.not_le, Bool.and_eq_true, Bool.and_eq_false_iff, Bool.or_eq_true, Bool.or_eq_false_iff, List.length_map] at hc
      refine xa_skip ?_
      refine xa_seq ?_
      refine xa_region ?_
      refine x_move rfl rfl ?_
      refine x_nilCheck rfl rfl rfl ?_
      refine x_fieldAddr rfl rfl (by decide) rfl rfl ?_
      refine x_load_ptrN rfl rfl rfl rfl rfl rfl ?_
      refine x_sub rfl rfl (inI64 (by omega)) ?_
      refine x_assign rfl rfl rfl ?_
      refine xr_nil ⟨nofun, [(.t 0, _), (.t 1, _), (.t 5, _), (.h 0, _)], ⟨rfl, rfl, rfl, rfl, rfl, rfl, rfl, rfl, trivial⟩, ?_⟩
      refine xa_seq ?_
      refine xa_seq ?_
      refine xa_region ?_
      refine x_move rfl rfl ?_
      refine x_move rfl rfl ?_
      refine x_nilCheck rfl rfl rfl ?_
      refine x_fieldAddr rfl rfl (by decide) rfl rfl ?_
      refine x_load_ptrN rfl rfl rfl rfl rfl rfl ?_
      refine x_len_map rfl rfl ?_
      refine x_lss rfl rfl ?_
      refine xr_nil ⟨nofun, [(.t 0, _), (.t 1, _), (.t 5, _), (.t 36, _), (.h 0, _)], ⟨rfl, rfl, rfl, rfl, rfl, rfl, rfl, rfl, rfl, rfl, trivial⟩, ?_⟩
      refine xa_cond rfl (fun hc => ?_) (fun hc => ?_)
      · try simp only [decide_eq_true_eq, decide_eq_false_iff_not, Bool.not_eq_true', Bool.not_eq_false', bne_iff_ne, beq_iff_eq, ne_eq, Bool.not_true, Bool.not_false, beq_eq_false_iff_ne, bne_eq_false_iff_eq, Decidable.not_not, Int.not_lt, Int.not_le, Bool.and_eq_true, Bool.and_eq_false_iff, Bool.or_eq_true, Bool.or_eq_false_iff, List.length_map] at hc
        refine xa_seq ?_
        refine xa_region ?_
        refine x_move rfl rfl ?_
        refine x_nilCheck rfl rfl rfl ?_
        refine x_fieldAddr rfl rfl (by decide) rfl rfl ?_
        refine x_load_ptrN rfl rfl rfl rfl rfl rfl ?_
        refine x_move rfl rfl ?_
        refine x_index_list rfl rfl rfl (fun _ => rfl) (by omega) ?_
        refine x_load_iptV rfl rfl rfl ?_
        refine x_conv rfl rfl rfl (inI64 (by have := hbs.getD (p + 1 - 1).toNat; omega)) ?_
        refine x_move rfl rfl ?_
        have hk := hbs.getD (p + 1 - 1).toNat
        refine x_rem rfl rfl (by omega) ?_
        refine x_assign rfl rfl rfl ?_
        refine xr_nil ⟨nofun, [(.t 4, _), (.h 0, _)], ⟨rfl, rfl, rfl, rfl, trivial⟩, ?_⟩
        refine xa_ret ?_
        refine ⟨_, _, ?_, ret_val rfl rfl (outs_one rfl rfl)⟩
        refine ⟨_, rfl, rfl, fun h => ?_, fun h => ?_⟩
        · exact tmod_in (by omega) (by omega)
        · omega
      · try simp only [decide_eq_true_eq, decide_eq_false_iff_not, Bool.not_eq_true', Bool.not_eq_false', bne_iff_ne, beq_iff_eq, ne_eq, Bool.not_true, Bool.not_false, beq_eq_false_iff_ne, bne_eq_false_iff_eq, Decidable.not_not, Int.not_lt, Int.not_le, Bool.and_eq_true, Bool.and_eq_false_iff, Bool.or_eq_true, Bool.or_eq_false_iff, List.length_map] at hc
        refine xa_skip ?_
        refine xa_seq ?_
        refine xa_region ?_
        refine x_move rfl rfl ?_
        refine x_nilCheck rfl rfl rfl ?_
        refine x_fieldAddr rfl rfl (by decide) rfl rfl ?_
        refine x_load_ptrN rfl rfl rfl rfl rfl rfl ?_
        refine x_move rfl rfl ?_
        refine x_move rfl rfl ?_
        refine x_nilCheck rfl rfl rfl ?_
        refine x_fieldAddr rfl rfl (by decide) rfl rfl ?_
        refine x_load_ptrN rfl rfl rfl rfl rfl rfl ?_
        refine x_len_map rfl rfl ?_
        have hlen : 0 < (bs.length : Int) := by omega
        refine x_rem rfl rfl (by omega) ?_
        have hm1 := tmod_in (a := p + 1 - 1) (by omega) hlen
        refine x_index_list rfl rfl rfl (fun _ => rfl) (by omega) ?_
        refine x_load_iptV rfl rfl rfl ?_
        refine x_conv rfl rfl rfl (inI64 (by have := hbs.getD ((p + 1 - 1).tmod bs.length).toNat; omega)) ?_
        have hk := hbs.getD ((p + 1 - 1).tmod bs.length).toNat
        refine x_mul rfl rfl (inI64 (by omega)) ?_
        refine x_move rfl rfl ?_
        refine x_nilCheck rfl rfl rfl ?_
        refine x_fieldAddr rfl rfl (by decide) rfl rfl ?_
        refine x_load_ptrN rfl rfl rfl rfl rfl rfl ?_
        refine x_move rfl rfl ?_
        refine x_mul rfl rfl (inI64 (by omega)) ?_
        refine x_add rfl rfl (inI64 (by omega)) ?_
        refine x_move rfl rfl ?_
        refine x_nilCheck rfl rfl rfl ?_
        refine x_fieldAddr rfl rfl (by decide) rfl rfl ?_
        refine x_load_ptrN rfl rfl rfl rfl rfl rfl ?_
        refine x_len_map rfl rfl ?_
        refine x_rem rfl rfl (by omega) ?_
        have hm2 := tmod_in (a := (p + 1 - 1) * 7 + 3) (by omega) hlen
        refine x_index_list rfl rfl rfl (fun _ => rfl) (by omega) ?_
        refine x_load_iptV rfl rfl rfl ?_
        refine x_conv rfl rfl rfl (inI64 (by have := hbs.getD (((p + 1 - 1) * 7 + 3).tmod bs.length).toNat; omega)) ?_
        have hk2 := hbs.getD (((p + 1 - 1) * 7 + 3).tmod bs.length).toNat
        refine x_mul rfl rfl (inI64 (by omega)) ?_
        refine x_add rfl rfl (inI64 (by omega)) ?_
        refine x_move rfl rfl ?_
        refine x_mul rfl rfl (inI64 (by omega)) ?_
        refine x_add rfl rfl (inI64 (by omega)) ?_
        refine x_move rfl rfl ?_
        refine x_move rfl rfl ?_
        refine x_nilCheck rfl rfl rfl ?_
        refine x_fieldAddr rfl rfl (by decide) rfl rfl ?_
        refine x_load_ptrN rfl rfl rfl rfl rfl rfl ?_
        refine x_len_map rfl rfl ?_
        have hd := tdiv_in (a := p + 1 - 1) (b := bs.length) (by omega) (by omega)
        refine x_quo rfl rfl ⟨by omega, inI64 (by omega)⟩ ?_
        refine x_mul rfl rfl (inI64 (by omega)) ?_
        refine x_add rfl rfl (inI64 (by omega)) ?_
        refine x_assign rfl rfl rfl ?_
        refine xr_nil ⟨fun _ => ⟨by decide +kernel, by decide +kernel⟩, [(.t 1, _), (.t 6, _), (.h 0, _)], ⟨rfl, rfl, rfl, rfl, rfl, rfl, trivial⟩, ?_⟩
        refine xa_seq ?_
        refine xa_region ?_
        refine x_move rfl rfl ?_
        refine x_move rfl rfl ?_
        have hd2 := tdiv_in (a := (bs.getD ((p + 1 - 1).tmod bs.length).toNat default * 131 + bs.getD (((p + 1 - 1) * 7 + 3).tmod bs.length).toNat default * 1117 + (p + 1 - 1) * 29 + (p + 1 - 1).tdiv bs.length * 53)) (b := 64) (by omega) (by decide)
        refine x_quo rfl rfl ⟨by omega, inI64 (by omega)⟩ ?_
        have hx := xor_in (x := (bs.getD ((p + 1 - 1).tmod bs.length).toNat default * 131 + bs.getD (((p + 1 - 1) * 7 + 3).tmod bs.length).toNat default * 1117 + (p + 1 - 1) * 29 + (p + 1 - 1).tdiv bs.length * 53)) (by omega) (y := (bs.getD ((p + 1 - 1).tmod bs.length).toNat default * 131 + bs.getD (((p + 1 - 1) * 7 + 3).tmod bs.length).toNat default * 1117 + (p + 1 - 1) * 29 + (p + 1 - 1).tdiv bs.length * 53).tdiv 64) (by omega)
        refine x_xor rfl rfl ?_
        refine x_assign rfl rfl rfl ?_
        refine xr_nil ⟨nofun, [(.t 1, _), (.t 6, _), (.h 0, _)], ⟨rfl, rfl, rfl, rfl, rfl, rfl, trivial⟩, ?_⟩
        refine xa_seq ?_
        refine xa_region ?_
        refine x_move rfl rfl ?_
        refine x_move rfl rfl ?_
        refine x_rem rfl rfl (by omega) ?_
        refine x_assign rfl rfl rfl ?_
        refine xr_nil ⟨nofun, [(.t 4, _), (.h 0, _)], ⟨rfl, rfl, rfl, rfl, trivial⟩, ?_⟩
        refine xa_ret ?_
        refine ⟨_, _, ?_, ret_val rfl rfl (outs_one rfl rfl)⟩
        refine ⟨_, rfl, rfl, fun h => ?_, fun h => ?_⟩
        · exact tmod_in (by omega) (by omega)
        · omega
  · have hg := hg0; try simp only [decide_eq_true_eq, decide_eq_false_iff_not, Bool.not_eq_true', Bool.not_eq_false', bne_iff_ne, beq_iff_eq, ne_eq, Bool.not_true, Bool.not_false, beq_eq_false_iff_ne, bne_eq_false_iff_eq, Decidable.not_not, Int.not_lt, Int.not_le, Bool.and_eq_true, Bool.and_eq_false_iff, Bool.or_eq_true, Bool.or_eq_false_iff] at hg
    refine x_guard_f rfl rfl (by assumption) ?_
    refine x_guard_f rfl rfl (by assumption) ?_
    refine x_guard_f rfl rfl (by assumption) ?_
    refine x_guard_f rfl rfl (by assumption) ?_
    refine x_guard_f rfl rfl (by assumption) ?_
    refine x_pick_t rfl (by assumption) rfl rfl ?_
    refine xr_nil ⟨nofun, [(.t 0, _), (.t 1, _), (.t 24, _), (.h 0, _)], ⟨rfl, rfl, rfl, rfl, rfl, rfl, rfl, rfl, trivial⟩, ?_⟩
    refine xa_cond rfl (fun hc => ?_) (fun hc => absurd hc (by decide))
    refine xa_seq ?_
    refine xa_region ?_
    refine x_assign rfl rfl rfl ?_
    refine xr_nil ⟨nofun, [(.t 4, _), (.h 0, _)], ⟨rfl, rfl, rfl, rfl, trivial⟩, ?_⟩
    refine xa_ret ?_
    refine ⟨_, _, ?_, ret_val rfl rfl (outs_one rfl rfl)⟩
    refine ⟨_, rfl, rfl, fun h => ?_, fun h => ?_⟩
    · omega
    · omega

theorem keep_s_one : keepOf Try.f31 = [0, 1, 4] := by kernel_rfl
set_option maxHeartbeats 20000000 in
theorem s_one (bs : List Int) (p : Int) (hbs : Bytes bs) (hl : bs.length ≤ 1048576) (hp : 0 ≤ p ∧ p ≤ 1000000000) (xs : List Int) (hx : 1 ≤ xs.length ∧ xs.length ≤ 1000) : ∃ res outs, (fun res outs => ∃ k, res = iV k ∧ outs = [[rdr bs (p + 1)]] ∧ k ∈ xs) res outs ∧ CW cxT 31 [.ownp [rdr bs p] 0 0, L xs] = some (res, outs) := by
  refine fn_introP rfl Try.func31 rfl ⟨by kernel_rfl, rfl, of_decide_eq_true rfl, of_decide_eq_true rfl, by decide⟩ keep_s_one ?_
  refine xa_seq ?_
  refine xa_region ?_
  refine x_assign rfl rfl rfl ?_
  refine xr_nil ⟨nofun, [(.t 0, _), (.t 1, _), (.h 0, _)], ⟨rfl, rfl, rfl, rfl, rfl, rfl, trivial⟩, ?_⟩
  refine xa_seq ?_
  refine xa_region ?_
  refine x_move rfl rfl ?_
  refine x_move rfl rfl ?_
  refine x_move rfl rfl ?_
  refine x_len_map rfl rfl ?_
  obtain ⟨_, _, ⟨k, rfl, rfl, hk1, hk2⟩, hC⟩ := s_pick bs p hbs hl hp xs.length (by omega)
  have hk1 := hk1 (by omega)
  apply x_call rfl
  · apply pa_cons
    · exact pa_box rfl (by decide) rfl
    apply pa_cons
    · exact pa_plain rfl
    exact pa_nil
  · exact hC
  · exact ⟨rfl, rfl, rfl, of_decide_eq_true rfl, rfl⟩
  · exact .inl rfl
  · exact back_cons rfl rfl rfl back_nil
  · exact inst_plain rfl
  · exact fun _ => rfl
  intro g9
  refine x_index_list rfl rfl rfl (fun _ => rfl) (by omega) ?_
  refine x_load_iptV rfl rfl rfl ?_
  refine x_assign rfl rfl rfl ?_
  refine xr_nil ⟨nofun, [(.t 4, _), (.h 0, _)], ⟨rfl, rfl, rfl, rfl, trivial⟩, ?_⟩
  refine xa_ret ?_
  refine ⟨_, _, ?_, ret_val rfl rfl (outs_one rfl rfl)⟩
  refine ⟨_, rfl, rfl, getD_mem (by omega)⟩

theorem keep_s_newReader : keepOf Try.f29 = [0, 2, 5] := by kernel_rfl
set_option maxHeartbeats 20000000 in
theorem s_newReader (bs : List Int) (hl : bs.length ≤ 1048576) : ∃ res outs, (fun res outs => res = .ownp [rdr (bs.take 2000) 0] 0 0 ∧ outs = []) res outs ∧ CW cxT 29 [.list (bs.map uV)] = some (res, outs) := by
  refine fn_introP rfl Try.func29 rfl ⟨by kernel_rfl, rfl, of_decide_eq_true rfl, of_decide_eq_true rfl, by decide⟩ keep_s_newReader ?_
  refine xa_seq ?_
  refine xa_region ?_
  refine x_assign rfl rfl rfl ?_
  refine xr_nil ⟨nofun, [(.t 0, _)], ⟨rfl, rfl, trivial⟩, ?_⟩
  refine xa_seq ?_
  refine xa_seq ?_
  refine xa_region ?_
  refine x_move rfl rfl ?_
  refine x_len_map rfl rfl ?_
  refine x_gtr rfl rfl ?_
  refine xr_nil ⟨nofun, [(.t 0, _), (.t 5, _)], ⟨rfl, rfl, rfl, rfl, trivial⟩, ?_⟩
  refine xa_cond rfl (fun hc => ?_) (fun hc => ?_)
  · try simp only [decide_eq_true_eq, decide_eq_false_iff_not, Bool.not_eq_true', Bool.not_eq_false', bne_iff_ne, beq_iff_eq, ne_eq, Bool.not_true, Bool.not_false, beq_eq_false_iff_ne, bne_eq_false_iff_eq, Decidable.not_not, Int.not_lt, Int.not_le, Bool.and_eq_true, Bool.and_eq_false_iff, Bool.or_eq_true, Bool.or_eq_false_iff, List.length_map] at hc
    refine xa_region ?_
    refine x_move rfl rfl ?_
    refine x_slice_list rfl rfl rfl (Mv.sized_map fun _ => rfl) (optNat_someN rfl) optNat_none (by (simp; omega)) ?_
    refine x_assign rfl rfl rfl ?_
    refine xr_nil ⟨nofun, [(.t 0, _)], ⟨rfl, rfl, trivial⟩, ?_⟩
    refine xa_seq ?_
    refine xa_region ?_
    refine x_move rfl rfl ?_
    refine x_build (fs := [_, _]) rfl rfl rfl rfl rfl ?_
    refine x_box rfl rfl rfl (fun _ => slot_box rfl) (fun _ => rfl) ?_
    intro g10
    (refine x_assign_box rfl rfl rfl rfl (fun _ => slot_box rfl) (fun _ => rfl) ?_; intro g2)
    refine xr_nil ⟨nofun, [(.t 2, _), (.h 2, _)], ⟨rfl, rfl, rfl, rfl, trivial⟩, ?_⟩
    refine xa_ret ?_
    refine ⟨_, _, ?_, ret_box rfl rfl rfl outs_nil⟩
    have e : rdr (bs.take 2000) 0 = .agg [.list ((bs.map uV).take 2000), iV 0] := by unfold rdr; rw [List.map_take]
    rw [e]
    exact ⟨rfl, rfl⟩
  · try simp only [decide_eq_true_eq, decide_eq_false_iff_not, Bool.not_eq_true', Bool.not_eq_false', bne_iff_ne, beq_iff_eq, ne_eq, Bool.not_true, Bool.not_false, beq_eq_false_iff_ne, bne_eq_false_iff_eq, Decidable.not_not, Int.not_lt, Int.not_le, Bool.and_eq_true, Bool.and_eq_false_iff, Bool.or_eq_true, Bool.or_eq_false_iff, List.length_map] at hc
    refine xa_skip ?_
    refine xa_seq ?_
    refine xa_region ?_
    refine x_move rfl rfl ?_
    refine x_build (fs := [_, _]) rfl rfl rfl rfl rfl ?_
    refine x_box rfl rfl rfl (fun _ => slot_box rfl) (fun _ => rfl) ?_
    intro g10
    (refine x_assign_box rfl rfl rfl rfl (fun _ => slot_box rfl) (fun _ => rfl) ?_; intro g2)
    refine xr_nil ⟨nofun, [(.t 2, _), (.h 2, _)], ⟨rfl, rfl, rfl, rfl, trivial⟩, ?_⟩
    refine xa_ret ?_
    refine ⟨_, _, ?_, ret_box rfl rfl rfl outs_nil⟩
    have e : bs.take 2000 = bs := List.take_of_length_le (by omega)
    rw [e]
    exact ⟨rfl, rfl⟩

theorem keep_s_IndexFunc2 : keepOf Try.f78 = [0, 1, 4, 8, 7, 9, 5, 16] := by kernel_rfl
set_option maxHeartbeats 20000000 in
theorem s_IndexFunc2 (xs : List Int) (hl : xs.length ≤ 1000) (k : Nat) (a b : AV) (q : Int → Bool) (hq : ∀ x, CW cxT k [iV x, .ipt a 0, .ipt b 0] = some (bV (q x), [])) : ∃ res outs, (fun res outs => ∃ r : Int, res = iV r ∧ outs = [] ∧ decide (0 ≤ r) = xs.any q) res outs ∧ CW cxT 78 [L xs, .clo k [.ipt a 0, .ipt b 0]] = some (res, outs) := by
  refine fn_introP rfl Try.func78 rfl ⟨by kernel_rfl, rfl, of_decide_eq_true rfl, of_decide_eq_true rfl, by decide⟩ keep_s_IndexFunc2 ?_
  refine xa_seq ?_
  refine xa_region ?_
  refine x_assign rfl rfl rfl ?_
  refine xr_nil ⟨nofun, [(.t 0, _), (.t 1, _)], ⟨rfl, rfl, rfl, rfl, trivial⟩, ?_⟩
  refine xa_seq ?_
  refine xa_seq ?_
  refine xa_region ?_
  refine x_move rfl rfl ?_
  refine x_len_map rfl rfl ?_
  refine x_move rfl rfl ?_
  refine xr_nil ⟨nofun, [(.t 0, _), (.t 1, _), (.t 7, _), (.t 8, _)], ⟨rfl, rfl, rfl, rfl, rfl, rfl, rfl, rfl, trivial⟩, ?_⟩
  refine xa_block ?_
  refine xa_loopK (β := Nat) [(.t 0, _), (.t 1, _), (.t 7, _)] (fun (i : Nat) => [(.t 8, iV i)]) (fun (i : Nat) => i ≤ xs.length ∧ ∀ j, j < i → q (xs.getD j default) = false) (fun (i : Nat) => xs.length - i) 0 ⟨rfl, rfl, rfl, rfl, trivial⟩ ⟨Nat.zero_le _, fun j h => by omega⟩ ?_
  intro i hb
  obtain ⟨hi1, hi2⟩ := hb
  refine xa_seq ?_
  refine xa_region ?_
  refine x_lss rfl rfl ?_
  refine xr_nil ⟨nofun, [(.t 0, _), (.t 1, _), (.t 7, _), (.t 8, _), (.t 9, _)], ⟨rfl, rfl, rfl, rfl, rfl, rfl, rfl, rfl, rfl, rfl, trivial⟩, ?_⟩
  refine xa_seq ?_
  refine xa_cond rfl (fun hc => ?_) (fun hc => ?_)
  · try simp only [decide_eq_true_eq, decide_eq_false_iff_not, Bool.not_eq_true', Bool.not_eq_false', bne_iff_ne, beq_iff_eq, ne_eq, Bool.not_true, Bool.not_false, beq_eq_false_iff_ne, bne_eq_false_iff_eq, Decidable.not_not, Int.not_lt, Int.not_le, Bool.and_eq_true, Bool.and_eq_false_iff, Bool.or_eq_true, Bool.or_eq_false_iff, List.length_map] at hc
    refine xa_skip ?_
    refine xa_seq ?_
    refine xa_block ?_
    refine xa_seq ?_
    refine xa_region ?_
    refine x_move rfl rfl ?_
    refine x_assign rfl rfl rfl ?_
    refine xr_nil ⟨nofun, [(.t 0, _), (.t 1, _), (.t 5, _), (.t 7, _), (.t 8, _)], ⟨rfl, rfl, rfl, rfl, rfl, rfl, rfl, rfl, rfl, rfl, trivial⟩, ?_⟩
    refine xa_seq ?_
    refine xa_region ?_
    refine x_move rfl rfl ?_
    refine x_move rfl rfl ?_
    refine x_move rfl rfl ?_
    refine x_index_listN rfl rfl rfl (fun _ => rfl) (by omega) ?_
    refine x_load_iptV rfl rfl rfl ?_
    apply x_callV rfl rfl
    · apply pa_cons
      · exact pa_plain rfl
      apply pa_cons
      · exact pa_plain rfl
      apply pa_cons
      · exact pa_plain rfl
      exact pa_nil
    · exact hq (xs.getD i default)
    · exact ⟨rfl, rfl, rfl, of_decide_eq_true rfl, rfl⟩
    · exact .inl rfl
    · exact back_nil
    · exact inst_plain rfl
    · exact fun _ => rfl
    intro g16
    refine xr_nil ⟨nofun, [(.t 0, _), (.t 1, _), (.t 5, _), (.t 7, _), (.t 8, _), (.t 16, _)], ⟨rfl, rfl, rfl, rfl, rfl, rfl, rfl, rfl, rfl, rfl, rfl, rfl, trivial⟩, ?_⟩
    refine xa_cond rfl (fun hc => ?_) (fun hc => ?_)
    · try simp only [decide_eq_true_eq, decide_eq_false_iff_not, Bool.not_eq_true', Bool.not_eq_false', bne_iff_ne, beq_iff_eq, ne_eq, Bool.not_true, Bool.not_false, beq_eq_false_iff_ne, bne_eq_false_iff_eq, Decidable.not_not, Int.not_lt, Int.not_le, Bool.and_eq_true, Bool.and_eq_false_iff, Bool.or_eq_true, Bool.or_eq_false_iff, List.length_map] at hc
      refine xa_seq ?_
      refine xa_region ?_
      refine x_move rfl rfl ?_
      refine x_assign rfl rfl rfl ?_
      refine xr_nil ⟨nofun, [(.t 4, _)], ⟨rfl, rfl, trivial⟩, ?_⟩
      refine xa_ret ?_
      refine ⟨_, _, ?_, ret_val rfl rfl outs_nil⟩
      exact ⟨_, rfl, rfl, any_hit (by omega) hc⟩
    · try simp only [decide_eq_true_eq, decide_eq_false_iff_not, Bool.not_eq_true', Bool.not_eq_false', bne_iff_ne, beq_iff_eq, ne_eq, Bool.not_true, Bool.not_false, beq_eq_false_iff_ne, bne_eq_false_iff_eq, Decidable.not_not, Int.not_lt, Int.not_le, Bool.and_eq_true, Bool.and_eq_false_iff, Bool.or_eq_true, Bool.or_eq_false_iff, List.length_map] at hc
      refine xa_skip ?_
      refine xa_region ?_
      refine x_add rfl rfl (inI64 (by omega)) ?_
      refine x_move rfl rfl ?_
      refine xr_nil ⟨nofun, [(.t 0, _), (.t 1, _), (.t 7, _), (.t 8, _)], ⟨rfl, rfl, rfl, rfl, rfl, rfl, rfl, rfl, trivial⟩, ?_⟩
      refine ⟨i + 1, ⟨by omega, fun a ha => by rcases Nat.lt_succ_iff_lt_or_eq.1 ha with h | h; exact hi2 a h; subst h; exact hc⟩, (by omega), ⟨rfl, rfl, rfl, rfl, trivial⟩⟩
  · try simp only [decide_eq_true_eq, decide_eq_false_iff_not, Bool.not_eq_true', Bool.not_eq_false', bne_iff_ne, beq_iff_eq, ne_eq, Bool.not_true, Bool.not_false, beq_eq_false_iff_ne, bne_eq_false_iff_eq, Decidable.not_not, Int.not_lt, Int.not_le, Bool.and_eq_true, Bool.and_eq_false_iff, Bool.or_eq_true, Bool.or_eq_false_iff, List.length_map] at hc
    refine xa_exit ?_
    refine xa_seq ?_
    refine xa_region ?_
    refine x_assign rfl rfl rfl ?_
    refine xr_nil ⟨nofun, [(.t 4, _)], ⟨rfl, rfl, trivial⟩, ?_⟩
    refine xa_ret ?_
    refine ⟨_, _, ?_, ret_val rfl rfl outs_nil⟩
    exact ⟨-1, rfl, rfl, any_miss fun j hj => hi2 j (by omega)⟩

theorem keep_s_ContainsFunc2 : keepOf Try.f68 = [0, 1, 4] := by kernel_rfl
set_option maxHeartbeats 20000000 in
theorem s_ContainsFunc2 (xs : List Int) (hl : xs.length ≤ 1000) (k : Nat) (a b : AV) (q : Int → Bool) (hq : ∀ x, CW cxT k [iV x, .ipt a 0, .ipt b 0] = some (bV (q x), [])) : CW cxT 68 [L xs, .clo k [.ipt a 0, .ipt b 0]] = some (bV (xs.any q), []) := by
  obtain ⟨_, _, ⟨r, rfl, rfl, hr⟩, hC⟩ := s_IndexFunc2 xs hl k a b q hq
  refine fn_intro rfl Try.func68 rfl ⟨by kernel_rfl, rfl, of_decide_eq_true rfl, of_decide_eq_true rfl, by decide⟩ keep_s_ContainsFunc2 ?_
  refine xa_seq ?_
  refine xa_region ?_
  refine x_assign rfl rfl rfl ?_
  refine xr_nil ⟨nofun, [(.t 0, _), (.t 1, _)], ⟨rfl, rfl, rfl, rfl, trivial⟩, ?_⟩
  refine xa_seq ?_
  refine xa_region ?_
  refine x_move rfl rfl ?_
  refine x_move rfl rfl ?_
  apply x_call rfl
  · apply pa_cons
    · exact pa_plain rfl
    apply pa_cons
    · exact pa_clo rfl (pc_ipt (pc_ipt pc_nil))
    exact pa_nil
  · exact hC
  · exact ⟨rfl, rfl, rfl, of_decide_eq_true rfl, rfl⟩
  · exact .inl rfl
  · exact back_nil
  · exact inst_plain rfl
  · exact fun _ => rfl
  intro g7
  refine x_geq rfl rfl ?_
  refine x_assign rfl rfl rfl ?_
  refine xr_nil ⟨nofun, [(.t 4, _)], ⟨rfl, rfl, trivial⟩, ?_⟩
  refine xa_ret ?_
  refine ret_val' rfl rfl trivial ?_
  rw [← hr]

theorem keep_s_allIn1 : keepOf Try.f69 = [0, 1, 2, 4] := by kernel_rfl
set_option maxHeartbeats 20000000 in
theorem s_allIn1 (x lo hi : Int) : CW cxT 69 [iV x, .ipt (iV lo) 0, .ipt (iV hi) 0] = some (bV (!(decide (lo ≤ x) && decide (x ≤ hi))), []) := by
  refine fn_intro rfl Try.func69 rfl ⟨by kernel_rfl, rfl, of_decide_eq_true rfl, of_decide_eq_true rfl, by decide⟩ keep_s_allIn1 ?_
  refine xa_seq ?_
  refine xa_region ?_
  refine x_assign rfl rfl rfl ?_
  refine xr_nil ⟨nofun, [(.t 0, _), (.t 1, _), (.t 2, _)], ⟨rfl, rfl, rfl, rfl, rfl, rfl, trivial⟩, ?_⟩
  refine xa_seq ?_
  refine xa_region ?_
  refine x_move rfl rfl ?_
  refine x_load_iptV rfl rfl rfl ?_
  refine x_load_iptV rfl rfl rfl ?_
  apply x_call rfl
  · apply pa_cons
    · exact pa_plain rfl
    apply pa_cons
    · exact pa_plain rfl
    apply pa_cons
    · exact pa_plain rfl
    exact pa_nil
  · exact s_in _ _ _
  · exact ⟨rfl, rfl, rfl, of_decide_eq_true rfl, rfl⟩
  · exact .inl rfl
  · exact back_nil
  · exact inst_plain rfl
  · exact fun _ => rfl
  intro g8
  refine x_not rfl ?_
  refine x_assign rfl rfl rfl ?_
  refine xr_nil ⟨nofun, [(.t 4, _)], ⟨rfl, rfl, trivial⟩, ?_⟩
  refine xa_ret ?_
  refine ret_val' rfl rfl trivial ?_
  rfl

theorem keep_s_allIn : keepOf Try.f55 = [0, 1, 2, 6, 4, 5] := by kernel_rfl
set_option maxHeartbeats 20000000 in
theorem s_allIn (xs : List Int) (hl : xs.length ≤ 1000) (lo hi : Int) : CW cxT 55 [L xs, iV lo, iV hi] = some (bV (allB lo hi xs), []) := by
  refine fn_intro rfl Try.func55 rfl ⟨by kernel_rfl, rfl, of_decide_eq_true rfl, of_decide_eq_true rfl, by decide⟩ keep_s_allIn ?_
  refine xa_seq ?_
  refine xa_region ?_
  refine x_box rfl rfl rfl (fun _ => slot_box rfl) (fun _ => rfl) ?_
  intro g4
  refine x_box rfl rfl rfl (fun _ => slot_box rfl) (fun _ => rfl) ?_
  intro g5
  refine x_assign rfl rfl rfl ?_
  refine xr_nil ⟨nofun, [(.t 0, _), (.t 4, _), (.t 5, _), (.h 4, _), (.h 5, _)], ⟨rfl, rfl, rfl, rfl, rfl, rfl, rfl, rfl, rfl, rfl, trivial⟩, ?_⟩
  refine xa_seq ?_
  refine xa_region ?_
  refine x_move rfl rfl ?_
  refine x_makeFunc rfl rfl ?_
  apply x_call rfl
  · apply pa_cons
    · exact pa_plain rfl
    apply pa_cons
    · exact pa_clo rfl (pc_box rfl rfl (pc_box rfl rfl pc_nil))
    exact pa_nil
  · exact s_ContainsFunc2 xs hl 69 (iV lo) (iV hi) _ (fun x => s_allIn1 x lo hi)
  · exact ⟨rfl, rfl, rfl, of_decide_eq_true rfl, rfl⟩
  · exact .inr ⟨rfl, rfl⟩
  · exact back_nil
  · exact inst_plain rfl
  · exact fun _ => rfl
  intro g9
  refine x_not rfl ?_
  refine x_assign rfl rfl rfl ?_
  refine xr_nil ⟨nofun, [(.t 6, _)], ⟨rfl, rfl, trivial⟩, ?_⟩
  refine xa_ret ?_
  refine ret_val' rfl rfl trivial ?_
  exact congrArg bV (allB_any lo hi xs)

theorem keep_s_voI : keepOf Try.f34 = [0, 2] := by kernel_rfl
set_option maxHeartbeats 20000000 in
theorem s_voI (xs : List Int) (hl : xs.length ≤ 1000) : CW cxT 34 [L xs] = some (bV (vo xs), []) := by
  refine fn_intro rfl Try.func34 rfl ⟨by kernel_rfl, rfl, of_decide_eq_true rfl, of_decide_eq_true rfl, by decide⟩ keep_s_voI ?_
  refine xa_seq ?_
  refine xa_region ?_
  refine x_assign rfl rfl rfl ?_
  refine xr_nil ⟨nofun, [(.t 0, _)], ⟨rfl, rfl, trivial⟩, ?_⟩
  refine xa_seq ?_
  refine xa_region ?_
  refine x_move rfl rfl ?_
  refine x_len_map rfl rfl ?_
  apply x_call rfl
  · apply pa_cons
    · exact pa_plain rfl
    apply pa_cons
    · exact pa_plain rfl
    apply pa_cons
    · exact pa_plain rfl
    exact pa_nil
  · exact s_in _ _ _
  · exact ⟨rfl, rfl, rfl, of_decide_eq_true rfl, rfl⟩
  · exact .inl rfl
  · exact back_nil
  · exact inst_plain rfl
  · exact fun _ => rfl
  intro g5
  refine x_move rfl rfl ?_
  refine x_guard_split rfl rfl (fun hg0 => ?_) (fun hg0 => ?_)
  · have hg := hg0; try simp only [decide_eq_true_eq, decide_eq_false_iff_not, Bool.not_eq_true', Bool.not_eq_false', bne_iff_ne, beq_iff_eq, ne_eq, Bool.not_true, Bool.not_false, beq_eq_false_iff_ne, bne_eq_false_iff_eq, Decidable.not_not, Int.not_lt, Int.not_le, Bool.and_eq_true, Bool.and_eq_false_iff, Bool.or_eq_true, Bool.or_eq_false_iff] at hg
    refine x_move rfl rfl ?_
    refine x_guard_t rfl rfl (by assumption) ?_
    apply x_call rfl
    · apply pa_cons
      · exact pa_plain rfl
      apply pa_cons
      · exact pa_plain rfl
      apply pa_cons
      · exact pa_plain rfl
      exact pa_nil
    · exact s_allIn xs hl 0 1000
    · exact ⟨rfl, rfl, rfl, of_decide_eq_true rfl, rfl⟩
    · exact .inl rfl
    · exact back_nil
    · exact inst_plain rfl
    · exact fun _ => rfl
    intro g8
    refine x_pick_t rfl (by assumption) rfl rfl ?_
    refine x_assign rfl rfl rfl ?_
    refine xr_nil ⟨nofun, [(.t 2, _)], ⟨rfl, rfl, trivial⟩, ?_⟩
    refine xa_ret ?_
    refine ret_val' rfl rfl trivial ?_
    simp_all [vo, ofConst]; try omega
  · have hg := hg0; try simp only [decide_eq_true_eq, decide_eq_false_iff_not, Bool.not_eq_true', Bool.not_eq_false', bne_iff_ne, beq_iff_eq, ne_eq, Bool.not_true, Bool.not_false, beq_eq_false_iff_ne, bne_eq_false_iff_eq, Decidable.not_not, Int.not_lt, Int.not_le, Bool.and_eq_true, Bool.and_eq_false_iff, Bool.or_eq_true, Bool.or_eq_false_iff] at hg
    refine x_guard_f rfl rfl (by assumption) ?_
    refine x_pick_f rfl (by assumption) rfl rfl ?_
    refine x_assign rfl rfl rfl ?_
    refine xr_nil ⟨nofun, [(.t 2, _)], ⟨rfl, rfl, trivial⟩, ?_⟩
    refine xa_ret ?_
    refine ret_val' rfl rfl trivial ?_
    simp_all [vo, ofConst]; try omega

theorem keep_s_voS : keepOf Try.f38 = [0, 2, 3, 7, 15] := by kernel_rfl
set_option maxHeartbeats 20000000 in
theorem s_voS (xs : List Int) (hl : xs.length ≤ 1000) : CW cxT 38 [L xs] = some (bV (vo xs), []) := by
  refine fn_intro rfl Try.func38 rfl ⟨by kernel_rfl, rfl, of_decide_eq_true rfl, of_decide_eq_true rfl, by decide⟩ keep_s_voS ?_
  refine xa_seq ?_
  refine xa_region ?_
  refine x_assign rfl rfl rfl ?_
  refine xr_nil ⟨nofun, [(.t 0, _)], ⟨rfl, rfl, trivial⟩, ?_⟩
  refine xa_seq ?_
  refine xa_seq ?_
  refine xa_region ?_
  refine x_assign rfl rfl rfl ?_
  refine xr_nil ⟨nofun, [(.t 0, _), (.t 3, _)], ⟨rfl, rfl, rfl, rfl, trivial⟩, ?_⟩
  refine xa_block ?_
  refine xa_loopK (β := Nat) [(.t 0, _)] (fun (i : Nat) => [(.t 3, iV i)]) (fun (i : Nat) => i ≤ xs.length ∧ ∀ j, j < i → 0 ≤ xs.getD j default ∧ xs.getD j default ≤ 1000) (fun (i : Nat) => xs.length - i) 0 ⟨rfl, rfl, trivial⟩ ⟨Nat.zero_le _, fun j h => by omega⟩ ?_
  intro i hb
  obtain ⟨hi1, hi2⟩ := hb
  refine xa_seq ?_
  refine xa_seq ?_
  refine xa_region ?_
  refine x_move rfl rfl ?_
  refine x_move rfl rfl ?_
  refine x_len_map rfl rfl ?_
  refine x_lss rfl rfl ?_
  refine xr_nil ⟨nofun, [(.t 0, _), (.t 3, _), (.t 7, _)], ⟨rfl, rfl, rfl, rfl, rfl, rfl, trivial⟩, ?_⟩
  refine xa_cond rfl (fun hc => ?_) (fun hc => ?_)
  · try simp only [decide_eq_true_eq, decide_eq_false_iff_not, Bool.not_eq_true', Bool.not_eq_false', bne_iff_ne, beq_iff_eq, ne_eq, Bool.not_true, Bool.not_false, beq_eq_false_iff_ne, bne_eq_false_iff_eq, Decidable.not_not, Int.not_lt, Int.not_le, Bool.and_eq_true, Bool.and_eq_false_iff, Bool.or_eq_true, Bool.or_eq_false_iff, List.length_map] at hc
    refine xa_skip ?_
    refine xa_seq ?_
    refine xa_block ?_
    refine xa_seq ?_
    refine xa_region ?_
    refine x_move rfl rfl ?_
    refine x_move rfl rfl ?_
    refine x_index_listN rfl rfl rfl (fun _ => rfl) (by omega) ?_
    refine x_load_iptV rfl rfl rfl ?_
    apply x_call rfl
    · apply pa_cons
      · exact pa_plain rfl
      apply pa_cons
      · exact pa_plain rfl
      apply pa_cons
      · exact pa_plain rfl
      exact pa_nil
    · exact s_inRange _ _ _
    · exact ⟨rfl, rfl, rfl, of_decide_eq_true rfl, rfl⟩
    · exact .inl rfl
    · exact back_nil
    · exact inst_plain rfl
    · exact fun _ => rfl
    intro g14
    refine x_not rfl ?_
    refine xr_nil ⟨nofun, [(.t 0, _), (.t 3, _), (.t 15, _)], ⟨rfl, rfl, rfl, rfl, rfl, rfl, trivial⟩, ?_⟩
    refine xa_cond rfl (fun hc => ?_) (fun hc => ?_)
    · try simp only [decide_eq_true_eq, decide_eq_false_iff_not, Bool.not_eq_true', Bool.not_eq_false', bne_iff_ne, beq_iff_eq, ne_eq, Bool.not_true, Bool.not_false, beq_eq_false_iff_ne, bne_eq_false_iff_eq, Decidable.not_not, Int.not_lt, Int.not_le, Bool.and_eq_true, Bool.and_eq_false_iff, Bool.or_eq_true, Bool.or_eq_false_iff, List.length_map] at hc
      refine xa_seq ?_
      refine xa_region ?_
      refine x_assign rfl rfl rfl ?_
      refine xr_nil ⟨nofun, [(.t 2, _)], ⟨rfl, rfl, trivial⟩, ?_⟩
      refine xa_ret ?_
      refine ret_val' rfl rfl trivial ?_
      exact congrArg bV (vo_bad (show i < xs.length by omega) (by omega)).symm
    · try simp only [decide_eq_true_eq, decide_eq_false_iff_not, Bool.not_eq_true', Bool.not_eq_false', bne_iff_ne, beq_iff_eq, ne_eq, Bool.not_true, Bool.not_false, beq_eq_false_iff_ne, bne_eq_false_iff_eq, Decidable.not_not, Int.not_lt, Int.not_le, Bool.and_eq_true, Bool.and_eq_false_iff, Bool.or_eq_true, Bool.or_eq_false_iff, List.length_map] at hc
      refine xa_skip ?_
      refine xa_region ?_
      refine x_move rfl rfl ?_
      refine x_add rfl rfl (inI64 (by omega)) ?_
      refine x_assign rfl rfl rfl ?_
      refine xr_nil ⟨nofun, [(.t 0, _), (.t 3, _)], ⟨rfl, rfl, rfl, rfl, trivial⟩, ?_⟩
      refine ⟨i + 1, ⟨by omega, fun a ha => by rcases Nat.lt_succ_iff_lt_or_eq.1 ha with h | h; exact hi2 a h; subst h; exact (by simpa using hc)⟩, (by omega), ⟨rfl, rfl, trivial⟩⟩
  · try simp only [decide_eq_true_eq, decide_eq_false_iff_not, Bool.not_eq_true', Bool.not_eq_false', bne_iff_ne, beq_iff_eq, ne_eq, Bool.not_true, Bool.not_false, beq_eq_false_iff_ne, bne_eq_false_iff_eq, Decidable.not_not, Int.not_lt, Int.not_le, Bool.and_eq_true, Bool.and_eq_false_iff, Bool.or_eq_true, Bool.or_eq_false_iff, List.length_map] at hc
    refine xa_exit ?_
    refine xa_seq ?_
    refine xa_region ?_
    refine x_move rfl rfl ?_
    refine x_len_map rfl rfl ?_
    apply x_call rfl
    · apply pa_cons
      · exact pa_plain rfl
      apply pa_cons
      · exact pa_plain rfl
      apply pa_cons
      · exact pa_plain rfl
      exact pa_nil
    · exact s_inRange _ _ _
    · exact ⟨rfl, rfl, rfl, of_decide_eq_true rfl, rfl⟩
    · exact .inl rfl
    · exact back_nil
    · exact inst_plain rfl
    · exact fun _ => rfl
    intro g18
    refine x_assign rfl rfl rfl ?_
    refine xr_nil ⟨nofun, [(.t 2, _)], ⟨rfl, rfl, trivial⟩, ?_⟩
    refine xa_ret ?_
    refine ret_val' rfl rfl trivial ?_
    exact congrArg bV (vo_good fun j hj => hi2 j (by omega)).symm

theorem keep_s_sorted : keepOf Try.f48 = [0, 2, 3] := by kernel_rfl
set_option maxHeartbeats 20000000 in
theorem s_sorted (xs : List Int) (hl : xs.length ≤ maxL) : CW cxT 48 [L xs] = some (.own 1 ((sortI xs).map iV), []) := by
  refine fn_intro rfl Try.func48 rfl ⟨by kernel_rfl, rfl, of_decide_eq_true rfl, of_decide_eq_true rfl, by decide⟩ keep_s_sorted ?_
  refine xa_seq ?_
  refine xa_region ?_
  (refine x_assign_nil rfl rfl (fun _ => rfl) ?_; intro g2)
  refine xr_nil ⟨nofun, [(.t 0, _)], ⟨rfl, rfl, trivial⟩, ?_⟩
  refine xa_seq ?_
  refine xa_region ?_
  refine x_move rfl rfl ?_
  apply x_call rfl
  · apply pa_cons
    · exact pa_plain rfl
    exact pa_nil
  · exact s_Clone xs hl
  · exact ⟨rfl, rfl, rfl, of_decide_eq_true rfl, rfl⟩
  · exact .inl rfl
  · exact back_nil
  · exact inst_own
  · exact fun _ => rfl
  intro g5
  (refine x_assign_own rfl rfl (by (simp; done)) rfl (fun _ => (slot_obj (by exact noRef_map fun _ => rfl))) (fun _ => rfl) ?_; intro g3)
  refine xr_nil ⟨nofun, [(.t 3, _), (.h 3, _)], ⟨rfl, rfl, rfl, rfl, trivial⟩, ?_⟩
  refine xa_seq ?_
  refine xa_region ?_
  refine x_move rfl rfl ?_
  apply x_call rfl
  · apply pa_cons
    · exact pa_write rfl rfl (by decide) (by (simp; done)) (imm_map fun _ => rfl)
    exact pa_nil
  · exact s_Sort _ hl
  · exact ⟨rfl, rfl, rfl, of_decide_eq_true rfl, rfl⟩
  · exact .inl rfl
  · exact back_cons rfl (by simp) (nilFit_int _ _) back_nil
  · exact inst_tup rfl
  · (intro _; exact tRefs_cons (slot_obj (noRef_map fun _ => rfl)) rfl)
  intro g7
  refine xr_nil ⟨nofun, [(.t 3, _), (.h 3, _)], ⟨rfl, rfl, rfl, rfl, trivial⟩, ?_⟩
  refine xa_seq ?_
  refine xa_region ?_
  refine x_move rfl rfl ?_
  (refine x_assign_own rfl rfl (by (simp; done)) rfl (fun _ => (slot_obj (by exact noRef_map fun _ => rfl))) (fun _ => rfl) ?_; intro g2)
  refine xr_nil ⟨nofun, [(.t 2, _), (.h 2, _)], ⟨rfl, rfl, rfl, rfl, trivial⟩, ?_⟩
  refine xa_ret ?_
  refine ret_own' rfl rfl (by (simp; done)) (by exact noRef_map fun _ => rfl) trivial ?_
  rfl

theorem keep_s_foundSet : keepOf Try.f36 = [0, 1, 2, 6, 13, 7, 24, 23, 25, 22, 8, 9, 37] := by kernel_rfl
set_option maxHeartbeats 20000000 in
theorem s_foundSet (xs : List Int) (hl : xs.length ≤ 6) (hb : ∀ x ∈ xs, 0 ≤ x ∧ x ≤ 1000) (hp : 0 < xs.length) (lev : Int) (hlev : 0 ≤ lev ∧ lev ≤ 1000) (e : Bool) : CW cxT 36 [L xs, iV lev, sV (kO (some e))] = some (bV (fnd e (sortI xs) lev), []) := by
  have hsb := sorted_bound hb
  have hsl := sortI_length xs
  refine fn_intro rfl Try.func36 rfl ⟨by kernel_rfl, rfl, of_decide_eq_true rfl, of_decide_eq_true rfl, by decide⟩ keep_s_foundSet ?_
  refine xa_seq ?_
  refine xa_region ?_
  refine x_assign rfl rfl rfl ?_
  refine xr_nil ⟨nofun, [(.t 0, _), (.t 1, _), (.t 2, _)], ⟨rfl, rfl, rfl, rfl, rfl, rfl, trivial⟩, ?_⟩
  refine xa_seq ?_
  refine xa_region ?_
  refine x_move rfl rfl ?_
  apply x_call rfl
  · apply pa_cons
    · exact pa_plain rfl
    exact pa_nil
  · exact s_sorted xs (by simp only [maxL]; omega)
  · exact ⟨rfl, rfl, rfl, of_decide_eq_true rfl, rfl⟩
  · exact .inl rfl
  · exact back_nil
  · exact inst_own
  · exact fun _ => rfl
  intro g11
  simp only [List.length_map]
  (refine x_assign_own rfl rfl (by (simp; done)) rfl (fun _ => (slot_obj (by exact noRef_map fun _ => rfl))) (fun _ => rfl) ?_; intro g7)
  refine xr_nil ⟨nofun, [(.t 1, _), (.t 2, _), (.t 7, _), (.h 7, _)], ⟨rfl, rfl, rfl, rfl, rfl, rfl, rfl, rfl, trivial⟩, ?_⟩
  refine xa_seq ?_
  refine xa_seq ?_
  refine xa_region ?_
  refine x_move rfl rfl ?_
  refine x_seqV (t := !e) rfl rfl (by cases e <;> decide +kernel) ?_
  refine xr_nil ⟨nofun, [(.t 1, _), (.t 7, _), (.t 13, _), (.h 7, _)], ⟨rfl, rfl, rfl, rfl, rfl, rfl, rfl, rfl, trivial⟩, ?_⟩
  refine xa_cond rfl (fun hc => ?_) (fun hc => ?_)
  · try simp only [decide_eq_true_eq, decide_eq_false_iff_not, Bool.not_eq_true', Bool.not_eq_false', bne_iff_ne, beq_iff_eq, ne_eq, Bool.not_true, Bool.not_false, beq_eq_false_iff_ne, bne_eq_false_iff_eq, Decidable.not_not, Int.not_lt, Int.not_le, Bool.and_eq_true, Bool.and_eq_false_iff, Bool.or_eq_true, Bool.or_eq_false_iff, List.length_map] at hc
    subst hc
    refine xa_seq ?_
    refine xa_region ?_
    refine x_move rfl rfl ?_
    refine x_index_slN rfl rfl rfl rfl (by (change 0 < _; omega)) (by (simp; done)) rfl ?_
    refine x_load_mapV rfl rfl (by (change 0 < _; omega)) (fun _ => rfl) (fun _ => rfl) rfl ?_
    refine x_move rfl rfl ?_
    refine x_len_sl rfl rfl ?_
    have hb0 := hsb 0 (by omega)
    have hm := mul_bound hb0 (show ((sortI xs).length : Int) ≤ 6 by omega) (by omega)
    refine x_mul rfl rfl (inI64 ⟨Int.le_trans (by decide) hm.1, Int.le_trans hm.2 (by decide)⟩) ?_
    refine x_move rfl rfl ?_
    refine x_leq rfl rfl ?_
    refine x_assign rfl rfl rfl ?_
    refine xr_nil ⟨nofun, [(.t 6, _)], ⟨rfl, rfl, trivial⟩, ?_⟩
    refine xa_ret ?_
    refine ret_val' rfl rfl trivial ?_
    exact congrArg bV (fnd_least hp).symm
  · try simp only [decide_eq_true_eq, decide_eq_false_iff_not, Bool.not_eq_true', Bool.not_eq_false', bne_iff_ne, beq_iff_eq, ne_eq, Bool.not_true, Bool.not_false, beq_eq_false_iff_ne, bne_eq_false_iff_eq, Decidable.not_not, Int.not_lt, Int.not_le, Bool.and_eq_true, Bool.and_eq_false_iff, Bool.or_eq_true, Bool.or_eq_false_iff, List.length_map] at hc
    subst hc
    refine xa_skip ?_
    refine xa_seq ?_
    refine xa_seq ?_
    refine xa_region ?_
    refine x_move rfl rfl ?_
    refine x_len_sl rfl rfl ?_
    refine x_move rfl rfl ?_
    refine xr_nil ⟨nofun, [(.t 1, _), (.t 7, _), (.t 22, _), (.t 23, _), (.t 24, _), (.h 7, _)], ⟨rfl, rfl, rfl, rfl, rfl, rfl, rfl, rfl, rfl, rfl, rfl, rfl, trivial⟩, ?_⟩
    refine xa_block ?_
    refine xa_loopK (β := Nat) [(.t 1, _), (.t 7, _), (.t 22, _), (.t 23, _), (.h 7, _)] (fun (i : Nat) => [(.t 24, iV i)]) (fun (i : Nat) => i ≤ xs.length ∧ ∀ j, j < i → ¬ ((sortI xs).getD j default * ((sortI xs).length : Int) ≤ ((j : Int) + 1) * lev)) (fun (i : Nat) => xs.length - i) 0 ⟨rfl, rfl, rfl, rfl, rfl, rfl, trivial⟩ ⟨Nat.zero_le _, fun j h => by omega⟩ ?_
    intro i hb
    obtain ⟨hi1, hi2⟩ := hb
    refine xa_seq ?_
    refine xa_region ?_
    refine x_lss rfl rfl ?_
    refine xr_nil ⟨nofun, [(.t 1, _), (.t 7, _), (.t 22, _), (.t 23, _), (.t 24, _), (.t 25, _), (.h 7, _)], ⟨rfl, rfl, rfl, rfl, rfl, rfl, rfl, rfl, rfl, rfl, rfl, rfl, rfl, rfl, trivial⟩, ?_⟩
    refine xa_seq ?_
    refine xa_cond rfl (fun hc => ?_) (fun hc => ?_)
    · try simp only [decide_eq_true_eq, decide_eq_false_iff_not, Bool.not_eq_true', Bool.not_eq_false', bne_iff_ne, beq_iff_eq, ne_eq, Bool.not_true, Bool.not_false, beq_eq_false_iff_ne, bne_eq_false_iff_eq, Decidable.not_not, Int.not_lt, Int.not_le, Bool.and_eq_true, Bool.and_eq_false_iff, Bool.or_eq_true, Bool.or_eq_false_iff, List.length_map] at hc
      refine xa_skip ?_
      refine xa_seq ?_
      refine xa_block ?_
      refine xa_seq ?_
      refine xa_region ?_
      refine x_move rfl rfl ?_
      refine x_index_slN rfl rfl rfl rfl (by omega) (by (simp; done)) rfl ?_
      refine x_load_mapV rfl rfl (by omega) (fun _ => rfl) (fun _ => rfl) rfl ?_
      refine x_assign rfl rfl rfl ?_
      refine x_assign rfl rfl rfl ?_
      refine xr_nil ⟨nofun, [(.t 1, _), (.t 7, _), (.t 8, _), (.t 9, _), (.t 22, _), (.t 23, _), (.t 24, _), (.h 7, _)], ⟨rfl, rfl, rfl, rfl, rfl, rfl, rfl, rfl, rfl, rfl, rfl, rfl, rfl, rfl, rfl, rfl, trivial⟩, ?_⟩
      refine xa_seq ?_
      refine xa_region ?_
      refine x_move rfl rfl ?_
      refine x_move rfl rfl ?_
      refine x_len_sl rfl rfl ?_
      have hb0 := hsb i (by omega)
      have hm := mul_bound hb0 (show ((sortI xs).length : Int) ≤ 6 by omega) (by omega)
      have hm2 := mul_bound hlev (show ((i : Int) + 1) ≤ 6 by omega) (by omega)
      rw [Int.mul_comm] at hm2
      refine x_mul rfl rfl (inI64 (by omega)) ?_
      refine x_move rfl rfl ?_
      refine x_add rfl rfl (inI64 (by omega)) ?_
      refine x_move rfl rfl ?_
      refine x_mul rfl rfl (inI64 (by omega)) ?_
      refine x_leq rfl rfl ?_
      refine xr_nil ⟨nofun, [(.t 1, _), (.t 7, _), (.t 22, _), (.t 23, _), (.t 24, _), (.t 37, _), (.h 7, _)], ⟨rfl, rfl, rfl, rfl, rfl, rfl, rfl, rfl, rfl, rfl, rfl, rfl, rfl, rfl, trivial⟩, ?_⟩
      refine xa_cond rfl (fun hc => ?_) (fun hc => ?_)
      · try simp only [decide_eq_true_eq, decide_eq_false_iff_not, Bool.not_eq_true', Bool.not_eq_false', bne_iff_ne, beq_iff_eq, ne_eq, Bool.not_true, Bool.not_false, beq_eq_false_iff_ne, bne_eq_false_iff_eq, Decidable.not_not, Int.not_lt, Int.not_le, Bool.and_eq_true, Bool.and_eq_false_iff, Bool.or_eq_true, Bool.or_eq_false_iff, List.length_map] at hc
        refine xa_seq ?_
        refine xa_region ?_
        refine x_assign rfl rfl rfl ?_
        refine xr_nil ⟨nofun, [(.t 6, _)], ⟨rfl, rfl, trivial⟩, ?_⟩
        refine xa_ret ?_
        refine ret_val' rfl rfl trivial ?_
        exact congrArg bV (fnd_t ⟨i, by omega, by simp only [if_true]; exact hc⟩).symm
      · try simp only [decide_eq_true_eq, decide_eq_false_iff_not, Bool.not_eq_true', Bool.not_eq_false', bne_iff_ne, beq_iff_eq, ne_eq, Bool.not_true, Bool.not_false, beq_eq_false_iff_ne, bne_eq_false_iff_eq, Decidable.not_not, Int.not_lt, Int.not_le, Bool.and_eq_true, Bool.and_eq_false_iff, Bool.or_eq_true, Bool.or_eq_false_iff, List.length_map] at hc
        refine xa_skip ?_
        refine xa_region ?_
        refine x_add rfl rfl (inI64 (by omega)) ?_
        refine x_move rfl rfl ?_
        refine xr_nil ⟨nofun, [(.t 1, _), (.t 7, _), (.t 22, _), (.t 23, _), (.t 24, _), (.h 7, _)], ⟨rfl, rfl, rfl, rfl, rfl, rfl, rfl, rfl, rfl, rfl, rfl, rfl, trivial⟩, ?_⟩
        refine ⟨i + 1, ⟨by omega, fun a ha => by rcases Nat.lt_succ_iff_lt_or_eq.1 ha with h | h; exact hi2 a h; subst h; exact (by omega)⟩, (by omega), ⟨rfl, rfl, rfl, rfl, rfl, rfl, trivial⟩⟩
    · try simp only [decide_eq_true_eq, decide_eq_false_iff_not, Bool.not_eq_true', Bool.not_eq_false', bne_iff_ne, beq_iff_eq, ne_eq, Bool.not_true, Bool.not_false, beq_eq_false_iff_ne, bne_eq_false_iff_eq, Decidable.not_not, Int.not_lt, Int.not_le, Bool.and_eq_true, Bool.and_eq_false_iff, Bool.or_eq_true, Bool.or_eq_false_iff, List.length_map] at hc
      refine xa_exit ?_
      refine xa_seq ?_
      refine xa_region ?_
      refine x_assign rfl rfl rfl ?_
      refine xr_nil ⟨nofun, [(.t 6, _)], ⟨rfl, rfl, trivial⟩, ?_⟩
      refine xa_ret ?_
      refine ret_val' rfl rfl trivial ?_
      exact congrArg bV (fnd_f fun ⟨j, hj, h⟩ => hi2 j (by omega) (by simpa using h)).symm

theorem keep_s_ClipI : keepOf Try.f37 = [0, 2] := by kernel_rfl
set_option maxHeartbeats 20000000 in
theorem s_ClipI (xs : List Int) (hx : xs.length ≤ maxL) : CW cxT 37 [.own 1 (xs.map iV)] = some (.own 1 (xs.map iV), []) := by
  refine fn_intro rfl Try.func37 rfl ⟨by kernel_rfl, rfl, of_decide_eq_true rfl, of_decide_eq_true rfl, by decide⟩ keep_s_ClipI ?_
  refine xa_seq ?_
  refine xa_region ?_
  (refine x_assign_nil rfl rfl (fun _ => rfl) ?_; intro g2)
  refine xr_nil ⟨nofun, [(.t 0, _), (.h 0, _)], ⟨rfl, rfl, rfl, rfl, trivial⟩, ?_⟩
  refine xa_seq ?_
  refine xa_region ?_
  refine x_move rfl rfl ?_
  refine x_move rfl rfl ?_
  refine x_len_sl rfl rfl ?_
  refine x_move rfl rfl ?_
  refine x_len_sl rfl rfl ?_
  refine x_clip rfl rfl rfl rfl rfl rfl (fun hz => ?_) (fun hz => ?_)
  · skip
    (refine x_assign_nil rfl rfl (fun _ => rfl) ?_; intro g2)
    refine xr_nil ⟨nofun, [(.t 2, _), (.h 0, _), (.h 2, _)], ⟨rfl, rfl, rfl, rfl, rfl, rfl, trivial⟩, ?_⟩
    refine xa_ret ?_
    refine ret_own' rfl rfl (by (simp; done)) (by rfl) trivial ?_
    (have h0 : xs = [] := (by simpa using hz); subst h0; rfl)
  · skip
    (refine x_assign_own rfl rfl (by (simp; done)) rfl (fun _ => (slot_obj (by exact noRef_map fun _ => rfl))) (fun _ => rfl) ?_; intro g2)
    refine xr_nil ⟨nofun, [(.t 2, _), (.h 0, _), (.h 2, _)], ⟨rfl, rfl, rfl, rfl, rfl, rfl, trivial⟩, ?_⟩
    refine xa_ret ?_
    refine ret_own' rfl rfl (by (simp; done)) (by exact noRef_map fun _ => rfl) trivial ?_
    rfl

theorem keep_s_closedI : keepOf Try.f9 = [0, 1, 2, 6, 29, 8, 34, 39, 38, 40, 37, 10, 48, 11, 9, 58, 7, 64, 63, 65, 13, 71, 12] := by kernel_rfl
set_option maxHeartbeats 20000000 in
theorem s_closedI (l : List Int) (hl : l.length ≤ 1000) (lev : Int) (o : Option Bool) : CW cxT 9 [L l, iV lev, sV (kO o)] = some (.own 1 ((cbR l lev o).map iV), []) := by
  refine fn_intro rfl Try.func9 rfl ⟨by kernel_rfl, rfl, of_decide_eq_true rfl, of_decide_eq_true rfl, by decide⟩ keep_s_closedI ?_
  refine xa_seq ?_
  refine xa_region ?_
  (refine x_assign_nil rfl rfl (fun _ => rfl) ?_; intro g6)
  refine xr_nil ⟨nofun, [(.t 0, _), (.t 1, _), (.t 2, _)], ⟨rfl, rfl, rfl, rfl, rfl, rfl, trivial⟩, ?_⟩
  refine xa_seq ?_
  refine xa_seq ?_
  refine xa_region ?_
  refine x_move rfl rfl ?_
  apply x_call rfl
  · apply pa_cons
    · exact pa_plain rfl
    exact pa_nil
  · exact s_voI l hl
  · exact ⟨rfl, rfl, rfl, of_decide_eq_true rfl, rfl⟩
  · exact .inl rfl
  · exact back_nil
  · exact inst_plain rfl
  · exact fun _ => rfl
  intro g15
  refine x_not rfl ?_
  refine x_move rfl rfl ?_
  refine x_guard_split rfl rfl (fun hg0 => ?_) (fun hg0 => ?_)
  · have hg := hg0; try simp only [decide_eq_true_eq, decide_eq_false_iff_not, Bool.not_eq_true', Bool.not_eq_false', bne_iff_ne, beq_iff_eq, ne_eq, Bool.not_true, Bool.not_false, beq_eq_false_iff_ne, bne_eq_false_iff_eq, Decidable.not_not, Int.not_lt, Int.not_le, Bool.and_eq_true, Bool.and_eq_false_iff, Bool.or_eq_true, Bool.or_eq_false_iff] at hg
    refine x_move rfl rfl ?_
    refine x_guard_t rfl rfl (by assumption) ?_
    apply x_call rfl
    · apply pa_cons
      · exact pa_plain rfl
      apply pa_cons
      · exact pa_plain rfl
      apply pa_cons
      · exact pa_plain rfl
      exact pa_nil
    · exact s_in _ _ _
    · exact ⟨rfl, rfl, rfl, of_decide_eq_true rfl, rfl⟩
    · exact .inl rfl
    · exact back_nil
    · exact inst_plain rfl
    · exact fun _ => rfl
    intro g19
    refine x_guard_t rfl rfl (by assumption) ?_
    refine x_not rfl ?_
    refine x_pick_f rfl (by assumption) rfl rfl ?_
    refine x_move rfl rfl ?_
    refine x_guard_split rfl rfl (fun hg0 => ?_) (fun hg0 => ?_)
    · have hg := hg0; try simp only [decide_eq_true_eq, decide_eq_false_iff_not, Bool.not_eq_true', Bool.not_eq_false', bne_iff_ne, beq_iff_eq, ne_eq, Bool.not_true, Bool.not_false, beq_eq_false_iff_ne, bne_eq_false_iff_eq, Decidable.not_not, Int.not_lt, Int.not_le, Bool.and_eq_true, Bool.and_eq_false_iff, Bool.or_eq_true, Bool.or_eq_false_iff] at hg
      refine x_move rfl rfl ?_
      refine x_guard_t rfl rfl (by assumption) ?_
      refine x_sneV (t := !(o == some false)) rfl rfl (by rcases o with _ | _ | _ <;> decide +kernel) ?_
      refine x_guard_t rfl rfl (by assumption) ?_
      refine x_move rfl rfl ?_
      refine x_guard_split rfl rfl (fun hg0 => ?_) (fun hg0 => ?_)
      · have hg := hg0; try simp only [decide_eq_true_eq, decide_eq_false_iff_not, Bool.not_eq_true', Bool.not_eq_false', bne_iff_ne, beq_iff_eq, ne_eq, Bool.not_true, Bool.not_false, beq_eq_false_iff_ne, bne_eq_false_iff_eq, Decidable.not_not, Int.not_lt, Int.not_le, Bool.and_eq_true, Bool.and_eq_false_iff, Bool.or_eq_true, Bool.or_eq_false_iff] at hg
        refine x_move rfl rfl ?_
        refine x_guard_t rfl rfl (by assumption) ?_
        refine x_sneV (t := !(o == some true)) rfl rfl (by rcases o with _ | _ | _ <;> decide +kernel) ?_
        refine x_guard_t rfl rfl (by assumption) ?_
        refine x_pick_t rfl (by assumption) rfl rfl ?_
        refine x_pick_f rfl (by assumption) rfl rfl ?_
        refine xr_nil ⟨nofun, [(.t 0, _), (.t 1, _), (.t 2, _), (.t 29, _)], ⟨rfl, rfl, rfl, rfl, rfl, rfl, rfl, rfl, trivial⟩, ?_⟩
        refine xa_cond rfl (fun hc => ?_) (fun hc => ?_)
        · try simp only [decide_eq_true_eq, decide_eq_false_iff_not, Bool.not_eq_true', Bool.not_eq_false', bne_iff_ne, beq_iff_eq, ne_eq, Bool.not_true, Bool.not_false, beq_eq_false_iff_ne, bne_eq_false_iff_eq, Decidable.not_not, Int.not_lt, Int.not_le, Bool.and_eq_true, Bool.and_eq_false_iff, Bool.or_eq_true, Bool.or_eq_false_iff, List.length_map] at hc
          refine xa_seq ?_
          refine xa_region ?_
          (refine x_assign_nil rfl rfl (fun _ => rfl) ?_; intro g6)
          refine xr_nil ⟨nofun, [(.t 6, _), (.h 6, _)], ⟨rfl, rfl, rfl, rfl, trivial⟩, ?_⟩
          refine xa_ret ?_
          refine ret_own' rfl rfl (by simp) (by rfl) trivial ?_
          rw [cbR_none (by rintro ⟨h1, h2, h3⟩; (simp_all; done))]
          rfl
        · try simp only [decide_eq_true_eq, decide_eq_false_iff_not, Bool.not_eq_true', Bool.not_eq_false', bne_iff_ne, beq_iff_eq, ne_eq, Bool.not_true, Bool.not_false, beq_eq_false_iff_ne, bne_eq_false_iff_eq, Decidable.not_not, Int.not_lt, Int.not_le, Bool.and_eq_true, Bool.and_eq_false_iff, Bool.or_eq_true, Bool.or_eq_false_iff, List.length_map] at hc
          refine xa_skip ?_
          refine xa_seq ?_
          refine xa_region ?_
          refine x_assign rfl rfl rfl ?_
          refine xr_nil ⟨nofun, [(.t 0, _), (.t 1, _), (.t 2, _), (.t 7, _)], ⟨rfl, rfl, rfl, rfl, rfl, rfl, rfl, rfl, trivial⟩, ?_⟩
          refine xa_seq ?_
          refine xa_seq ?_
          refine xa_region ?_
          refine x_assign rfl rfl rfl ?_
          refine xr_nil ⟨nofun, [(.t 0, _), (.t 1, _), (.t 2, _), (.t 7, _), (.t 8, _)], ⟨rfl, rfl, rfl, rfl, rfl, rfl, rfl, rfl, rfl, rfl, trivial⟩, ?_⟩
          refine xa_block ?_
          obtain ⟨e, rfl, hvo, hlev⟩ := closed_in (l := l) (lev := lev) (o := o) (by simp_all) (by simp_all) (by simp_all)
          have hv := vo_iff.1 hvo
          have hn6 := hv.2.1
          have hn1 := hv.1
          have hall := fun x (hx : x ∈ l) => allB_mem hv.2.2 hx
          have hp6 := pow6 hn6
          refine xa_loopK (β := Nat × Nat) [(.t 0, _), (.t 1, _), (.t 2, _)] (fun (z : Nat × Nat) => match z with | (s, mi) => [(.t 8, iV s), (.t 7, iV mi)]) (fun (z : Nat × Nat) => match z with | (s, mi) => Mis l lev e s mi) (fun (z : Nat × Nat) => match z with | (s, mi) => 2 ^ l.length - s) (1, 0) ⟨rfl, rfl, rfl, rfl, rfl, trivial⟩ (Mis.start _ _ _) ?_
          intro z hb
          obtain ⟨s, mi⟩ := z
          try dsimp only at hb
          have hmi := hb
          have hm2 := hmi.2.1
          have hm3 := hmi.2.2.1
          refine xa_seq ?_
          refine xa_seq ?_
          refine xa_region ?_
          refine x_move rfl rfl ?_
          refine x_move rfl rfl ?_
          refine x_len_map rfl rfl ?_
          refine x_shlN (x := 1) rfl rfl (by omega) ?_
          refine x_lss rfl rfl ?_
          refine xr_nil ⟨nofun, [(.t 0, _), (.t 1, _), (.t 2, _), (.t 7, _), (.t 8, _), (.t 34, _)], ⟨rfl, rfl, rfl, rfl, rfl, rfl, rfl, rfl, rfl, rfl, rfl, rfl, trivial⟩, ?_⟩
          refine xa_cond rfl (fun hc => ?_) (fun hc => ?_)
          · try simp only [decide_eq_true_eq, decide_eq_false_iff_not, Bool.not_eq_true', Bool.not_eq_false', bne_iff_ne, beq_iff_eq, ne_eq, Bool.not_true, Bool.not_false, beq_eq_false_iff_ne, bne_eq_false_iff_eq, Decidable.not_not, Int.not_lt, Int.not_le, Bool.and_eq_true, Bool.and_eq_false_iff, Bool.or_eq_true, Bool.or_eq_false_iff, List.length_map] at hc
            refine xa_skip ?_
            refine xa_seq ?_
            refine xa_block ?_
            refine xa_seq ?_
            refine xa_region ?_
            (refine x_assign_nil rfl rfl (fun _ => rfl) ?_; intro g9)
            refine xr_nil ⟨nofun, [(.t 0, _), (.t 1, _), (.t 2, _), (.t 7, _), (.t 8, _), (.t 9, _), (.h 9, _)], ⟨rfl, rfl, rfl, rfl, rfl, rfl, rfl, rfl, rfl, rfl, rfl, rfl, rfl, rfl, trivial⟩, ?_⟩
            refine xa_seq ?_
            refine xa_seq ?_
            refine xa_region ?_
            refine x_move rfl rfl ?_
            refine x_len_map rfl rfl ?_
            refine x_move rfl rfl ?_
            refine xr_nil ⟨nofun, [(.t 0, _), (.t 1, _), (.t 2, _), (.t 7, _), (.t 8, _), (.t 9, _), (.t 37, _), (.t 38, _), (.t 39, _), (.h 9, _)], ⟨rfl, rfl, rfl, rfl, rfl, rfl, rfl, rfl, rfl, rfl, rfl, rfl, rfl, rfl, rfl, rfl, rfl, rfl, rfl, rfl, trivial⟩, ?_⟩
            refine xa_block ?_
            refine xa_loopK (β := Nat × List Int × Nat) [(.t 0, _), (.t 1, _), (.t 2, _), (.t 7, _), (.t 8, _), (.t 37, _), (.t 38, _)] (fun (z : Nat × List Int × Nat) => match z with | (i, xs, g) => [(.t 39, iV i), (.t 9, .sl 9 g none 0 xs.length), (.h 9, .obj g 0 1 (xs.map iV))]) (fun (z : Nat × List Int × Nat) => match z with | (i, xs, g) => i ≤ l.length ∧ xs = selU l s i) (fun (z : Nat × List Int × Nat) => match z with | (i, xs, g) => l.length - i) (0, [], _) ⟨rfl, rfl, rfl, rfl, rfl, rfl, rfl, rfl, rfl, rfl, trivial⟩ ⟨Nat.zero_le _, rfl⟩ ?_
            intro z hb
            obtain ⟨i, xs, g⟩ := z
            try dsimp only at hb
            obtain ⟨hi1, hxs⟩ := hb
            have hxl := selU_len l s i
            rw [← hxs] at hxl
            refine xa_seq ?_
            refine xa_region ?_
            refine x_lss rfl rfl ?_
            refine xr_nil ⟨nofun, [(.t 0, _), (.t 1, _), (.t 2, _), (.t 7, _), (.t 8, _), (.t 9, _), (.t 37, _), (.t 38, _), (.t 39, _), (.t 40, _), (.h 9, _)], ⟨rfl, rfl, rfl, rfl, rfl, rfl, rfl, rfl, rfl, rfl, rfl, rfl, rfl, rfl, rfl, rfl, rfl, rfl, rfl, rfl, rfl, rfl, trivial⟩, ?_⟩
            refine xa_seq ?_
            refine xa_cond rfl (fun hc => ?_) (fun hc => ?_)
            · try simp only [decide_eq_true_eq, decide_eq_false_iff_not, Bool.not_eq_true', Bool.not_eq_false', bne_iff_ne, beq_iff_eq, ne_eq, Bool.not_true, Bool.not_false, beq_eq_false_iff_ne, bne_eq_false_iff_eq, Decidable.not_not, Int.not_lt, Int.not_le, Bool.and_eq_true, Bool.and_eq_false_iff, Bool.or_eq_true, Bool.or_eq_false_iff, List.length_map] at hc
              refine xa_skip ?_
              refine xa_seq ?_
              refine xa_block ?_
              refine xa_seq ?_
              refine xa_region ?_
              refine x_move rfl rfl ?_
              refine x_index_listN rfl rfl rfl (fun _ => rfl) (by omega) ?_
              refine x_load_iptV rfl rfl rfl ?_
              refine x_assign rfl rfl rfl ?_
              refine x_assign rfl rfl rfl ?_
              refine xr_nil ⟨nofun, [(.t 0, _), (.t 1, _), (.t 2, _), (.t 7, _), (.t 8, _), (.t 9, _), (.t 10, _), (.t 11, _), (.t 37, _), (.t 38, _), (.t 39, _), (.h 9, _)], ⟨rfl, rfl, rfl, rfl, rfl, rfl, rfl, rfl, rfl, rfl, rfl, rfl, rfl, rfl, rfl, rfl, rfl, rfl, rfl, rfl, rfl, rfl, rfl, rfl, trivial⟩, ?_⟩
              refine xa_seq ?_
              refine xa_region ?_
              refine x_move rfl rfl ?_
              refine x_move rfl rfl ?_
              refine x_shrN rfl rfl (by omega) ?_
              refine x_and1 rfl rfl (by have := Nat.div_le_self s (2 ^ i); omega) ?_
              refine x_eql rfl rfl ?_
              refine xr_nil ⟨nofun, [(.t 0, _), (.t 1, _), (.t 2, _), (.t 7, _), (.t 8, _), (.t 9, _), (.t 11, _), (.t 37, _), (.t 38, _), (.t 39, _), (.t 48, _), (.h 9, _)], ⟨rfl, rfl, rfl, rfl, rfl, rfl, rfl, rfl, rfl, rfl, rfl, rfl, rfl, rfl, rfl, rfl, rfl, rfl, rfl, rfl, rfl, rfl, rfl, rfl, trivial⟩, ?_⟩
              refine xa_cond rfl (fun hc => ?_) (fun hc => ?_)
              · try simp only [decide_eq_true_eq, decide_eq_false_iff_not, Bool.not_eq_true', Bool.not_eq_false', bne_iff_ne, beq_iff_eq, ne_eq, Bool.not_true, Bool.not_false, beq_eq_false_iff_ne, bne_eq_false_iff_eq, Decidable.not_not, Int.not_lt, Int.not_le, Bool.and_eq_true, Bool.and_eq_false_iff, Bool.or_eq_true, Bool.or_eq_false_iff, List.length_map] at hc
                refine xa_region ?_
                refine x_move rfl rfl ?_
                refine x_move rfl rfl ?_
                refine x_buildSlice (es := List.map iV [_]) rfl rfl (by decide) rfl rfl (fun _ => slot_obj (noRef_map fun _ => rfl)) (fun _ => rfl) ?_
                intro g51
                refine x_append_map rfl rfl rfl rfl (by (simp; done)) (by simp) (by decide) rfl rfl rfl rfl (by decide) (fun _ => ⟨rfl, rfl⟩) (by simp only [maxL]; (simp only [List.length_nil, List.length_cons, List.length_append, Nat.zero_add, List.length_map]; omega)) (fun _ => rfl) ?_
                intro g52
                (refine x_assign_own rfl rfl (by (simp; done)) rfl (fun _ => (slot_obj (by exact noRef_map fun _ => rfl))) (fun _ => rfl) ?_; intro g9)
                refine xr_nil ⟨nofun, [(.t 0, _), (.t 1, _), (.t 2, _), (.t 7, _), (.t 8, _), (.t 9, _), (.t 37, _), (.t 38, _), (.t 39, _), (.h 9, _)], ⟨rfl, rfl, rfl, rfl, rfl, rfl, rfl, rfl, rfl, rfl, rfl, rfl, rfl, rfl, rfl, rfl, rfl, rfl, rfl, rfl, trivial⟩, ?_⟩
                refine xa_region ?_
                refine x_add rfl rfl (inI64 (by omega)) ?_
                refine x_move rfl rfl ?_
                refine xr_nil ⟨nofun, [(.t 0, _), (.t 1, _), (.t 2, _), (.t 7, _), (.t 8, _), (.t 9, _), (.t 37, _), (.t 38, _), (.t 39, _), (.h 9, _)], ⟨rfl, rfl, rfl, rfl, rfl, rfl, rfl, rfl, rfl, rfl, rfl, rfl, rfl, rfl, rfl, rfl, rfl, rfl, rfl, rfl, trivial⟩, ?_⟩
                refine ⟨(i + 1, xs ++ [l.getD i default], _), ?_, (by simp only; omega), ⟨rfl, rfl, rfl, rfl, rfl, rfl, rfl, rfl, rfl, rfl, trivial⟩⟩
                exact ⟨by omega, by rw [selU, if_pos (show bitN s i = 1 by unfold bitN; omega), hxs]⟩
              · try simp only [decide_eq_true_eq, decide_eq_false_iff_not, Bool.not_eq_true', Bool.not_eq_false', bne_iff_ne, beq_iff_eq, ne_eq, Bool.not_true, Bool.not_false, beq_eq_false_iff_ne, bne_eq_false_iff_eq, Decidable.not_not, Int.not_lt, Int.not_le, Bool.and_eq_true, Bool.and_eq_false_iff, Bool.or_eq_true, Bool.or_eq_false_iff, List.length_map] at hc
                refine xa_skip ?_
                refine xa_region ?_
                refine x_add rfl rfl (inI64 (by omega)) ?_
                refine x_move rfl rfl ?_
                refine xr_nil ⟨nofun, [(.t 0, _), (.t 1, _), (.t 2, _), (.t 7, _), (.t 8, _), (.t 9, _), (.t 37, _), (.t 38, _), (.t 39, _), (.h 9, _)], ⟨rfl, rfl, rfl, rfl, rfl, rfl, rfl, rfl, rfl, rfl, rfl, rfl, rfl, rfl, rfl, rfl, rfl, rfl, rfl, rfl, trivial⟩, ?_⟩
                refine ⟨(i + 1, xs, _), ?_, (by simp only; omega), ⟨rfl, rfl, rfl, rfl, rfl, rfl, rfl, rfl, rfl, rfl, trivial⟩⟩
                exact ⟨by omega, by rw [selU, if_neg (show ¬ bitN s i = 1 by unfold bitN; omega), hxs]⟩
            · try simp only [decide_eq_true_eq, decide_eq_false_iff_not, Bool.not_eq_true', Bool.not_eq_false', bne_iff_ne, beq_iff_eq, ne_eq, Bool.not_true, Bool.not_false, beq_eq_false_iff_ne, bne_eq_false_iff_eq, Decidable.not_not, Int.not_lt, Int.not_le, Bool.and_eq_true, Bool.and_eq_false_iff, Bool.or_eq_true, Bool.or_eq_false_iff, List.length_map] at hc
              refine xa_exit ?_
              refine xa_seq ?_
              refine xa_region ?_
              refine x_move rfl rfl ?_
              refine x_move rfl rfl ?_
              refine x_move rfl rfl ?_
              have hsx : xs = sel l s := by rw [hxs]; unfold sel; congr 1; omega
              subst hsx
              apply x_call rfl
              · apply pa_cons
                · exact pa_lend_map rfl rfl rfl (by (simp; done)) (fun _ => rfl)
                apply pa_cons
                · exact pa_plain rfl
                apply pa_cons
                · exact pa_plain rfl
                exact pa_nil
              · exact s_foundSet (sel l s) (Nat.le_trans (selU_len l s _) hn6) (fun x hx => hall x (sel_mem hx)) (sel_pos hmi.1 (by omega)) lev hlev e
              · exact ⟨rfl, rfl, rfl, of_decide_eq_true rfl, rfl⟩
              · exact .inr ⟨rfl, rfl⟩
              · exact back_nil
              · exact inst_plain rfl
              · exact fun _ => rfl
              intro g57
              refine x_not rfl ?_
              refine xr_nil ⟨nofun, [(.t 0, _), (.t 1, _), (.t 2, _), (.t 7, _), (.t 8, _), (.t 58, _)], ⟨rfl, rfl, rfl, rfl, rfl, rfl, rfl, rfl, rfl, rfl, rfl, rfl, trivial⟩, ?_⟩
              refine xa_cond rfl (fun hc => ?_) (fun hc => ?_)
              · try simp only [decide_eq_true_eq, decide_eq_false_iff_not, Bool.not_eq_true', Bool.not_eq_false', bne_iff_ne, beq_iff_eq, ne_eq, Bool.not_true, Bool.not_false, beq_eq_false_iff_ne, bne_eq_false_iff_eq, Decidable.not_not, Int.not_lt, Int.not_le, Bool.and_eq_true, Bool.and_eq_false_iff, Bool.or_eq_true, Bool.or_eq_false_iff, List.length_map] at hc
                refine xa_region ?_
                refine x_move rfl rfl ?_
                refine x_move rfl rfl ?_
                refine x_orN rfl rfl (by have := hmi.2.2.1; omega) ?_
                refine x_assign rfl rfl rfl ?_
                refine xr_nil ⟨nofun, [(.t 0, _), (.t 1, _), (.t 2, _), (.t 7, _), (.t 8, _)], ⟨rfl, rfl, rfl, rfl, rfl, rfl, rfl, rfl, rfl, rfl, trivial⟩, ?_⟩
                refine xa_region ?_
                refine x_move rfl rfl ?_
                refine x_add rfl rfl (inI64 (by omega)) ?_
                refine x_assign rfl rfl rfl ?_
                refine xr_nil ⟨nofun, [(.t 0, _), (.t 1, _), (.t 2, _), (.t 7, _), (.t 8, _)], ⟨rfl, rfl, rfl, rfl, rfl, rfl, rfl, rfl, rfl, rfl, trivial⟩, ?_⟩
                refine ⟨(s + 1, mi ||| s), ?_, (by simp only; omega), ⟨rfl, rfl, rfl, rfl, rfl, trivial⟩⟩
                exact hmi.miss (by omega) hc
              · try simp only [decide_eq_true_eq, decide_eq_false_iff_not, Bool.not_eq_true', Bool.not_eq_false', bne_iff_ne, beq_iff_eq, ne_eq, Bool.not_true, Bool.not_false, beq_eq_false_iff_ne, bne_eq_false_iff_eq, Decidable.not_not, Int.not_lt, Int.not_le, Bool.and_eq_true, Bool.and_eq_false_iff, Bool.or_eq_true, Bool.or_eq_false_iff, List.length_map] at hc
                refine xa_skip ?_
                refine xa_region ?_
                refine x_move rfl rfl ?_
                refine x_add rfl rfl (inI64 (by omega)) ?_
                refine x_assign rfl rfl rfl ?_
                refine xr_nil ⟨nofun, [(.t 0, _), (.t 1, _), (.t 2, _), (.t 7, _), (.t 8, _)], ⟨rfl, rfl, rfl, rfl, rfl, rfl, rfl, rfl, rfl, rfl, trivial⟩, ?_⟩
                refine ⟨(s + 1, mi), ?_, (by simp only; omega), ⟨rfl, rfl, rfl, rfl, rfl, trivial⟩⟩
                exact hmi.hit (by omega) hc
          · try simp only [decide_eq_true_eq, decide_eq_false_iff_not, Bool.not_eq_true', Bool.not_eq_false', bne_iff_ne, beq_iff_eq, ne_eq, Bool.not_true, Bool.not_false, beq_eq_false_iff_ne, bne_eq_false_iff_eq, Decidable.not_not, Int.not_lt, Int.not_le, Bool.and_eq_true, Bool.and_eq_false_iff, Bool.or_eq_true, Bool.or_eq_false_iff, List.length_map] at hc
            refine xa_exit ?_
            refine xa_seq ?_
            refine xa_region ?_
            (refine x_assign_nil rfl rfl (fun _ => rfl) ?_; intro g12)
            refine xr_nil ⟨nofun, [(.t 0, _), (.t 7, _), (.t 12, _), (.h 12, _)], ⟨rfl, rfl, rfl, rfl, rfl, rfl, rfl, rfl, trivial⟩, ?_⟩
            refine xa_seq ?_
            refine xa_seq ?_
            refine xa_region ?_
            refine x_move rfl rfl ?_
            refine x_len_map rfl rfl ?_
            refine x_move rfl rfl ?_
            refine xr_nil ⟨nofun, [(.t 7, _), (.t 12, _), (.t 63, _), (.t 64, _), (.h 12, _)], ⟨rfl, rfl, rfl, rfl, rfl, rfl, rfl, rfl, rfl, rfl, trivial⟩, ?_⟩
            refine xa_block ?_
            refine xa_loopK (β := Nat × List Int × Nat) [(.t 7, _), (.t 63, _)] (fun (z : Nat × List Int × Nat) => match z with | (i, xs, g) => [(.t 64, iV i), (.t 12, .sl 12 g none 0 xs.length), (.h 12, .obj g 0 1 (xs.map iV))]) (fun (z : Nat × List Int × Nat) => match z with | (i, xs, g) => i ≤ l.length ∧ xs = cloU l lev e i) (fun (z : Nat × List Int × Nat) => match z with | (i, xs, g) => l.length - i) (0, [], _) ⟨rfl, rfl, rfl, rfl, rfl, trivial⟩ ⟨Nat.zero_le _, rfl⟩ ?_
            intro z hb
            obtain ⟨i, xs, g⟩ := z
            try dsimp only at hb
            obtain ⟨hi1, hxs⟩ := hb
            have hxl := cloU_len l lev e i
            rw [← hxs] at hxl
            refine xa_seq ?_
            refine xa_region ?_
            refine x_lss rfl rfl ?_
            refine xr_nil ⟨nofun, [(.t 7, _), (.t 12, _), (.t 63, _), (.t 64, _), (.t 65, _), (.h 12, _)], ⟨rfl, rfl, rfl, rfl, rfl, rfl, rfl, rfl, rfl, rfl, rfl, rfl, trivial⟩, ?_⟩
            refine xa_seq ?_
            refine xa_cond rfl (fun hc => ?_) (fun hc => ?_)
            · try simp only [decide_eq_true_eq, decide_eq_false_iff_not, Bool.not_eq_true', Bool.not_eq_false', bne_iff_ne, beq_iff_eq, ne_eq, Bool.not_true, Bool.not_false, beq_eq_false_iff_ne, bne_eq_false_iff_eq, Decidable.not_not, Int.not_lt, Int.not_le, Bool.and_eq_true, Bool.and_eq_false_iff, Bool.or_eq_true, Bool.or_eq_false_iff, List.length_map] at hc
              refine xa_skip ?_
              refine xa_seq ?_
              refine xa_block ?_
              refine xa_seq ?_
              refine xa_region ?_
              refine x_move rfl rfl ?_
              refine x_assign rfl rfl rfl ?_
              refine xr_nil ⟨nofun, [(.t 7, _), (.t 12, _), (.t 13, _), (.t 63, _), (.t 64, _), (.h 12, _)], ⟨rfl, rfl, rfl, rfl, rfl, rfl, rfl, rfl, rfl, rfl, rfl, rfl, trivial⟩, ?_⟩
              refine xa_seq ?_
              refine xa_region ?_
              refine x_move rfl rfl ?_
              refine x_move rfl rfl ?_
              refine x_shrN rfl rfl (by omega) ?_
              refine x_and1 rfl rfl (by have := Nat.div_le_self mi (2 ^ i); have := hmi.2.2.1; omega) ?_
              refine x_eql rfl rfl ?_
              refine xr_nil ⟨nofun, [(.t 7, _), (.t 12, _), (.t 13, _), (.t 63, _), (.t 64, _), (.t 71, _), (.h 12, _)], ⟨rfl, rfl, rfl, rfl, rfl, rfl, rfl, rfl, rfl, rfl, rfl, rfl, rfl, rfl, trivial⟩, ?_⟩
              refine xa_cond rfl (fun hc => ?_) (fun hc => ?_)
              · try simp only [decide_eq_true_eq, decide_eq_false_iff_not, Bool.not_eq_true', Bool.not_eq_false', bne_iff_ne, beq_iff_eq, ne_eq, Bool.not_true, Bool.not_false, beq_eq_false_iff_ne, bne_eq_false_iff_eq, Decidable.not_not, Int.not_lt, Int.not_le, Bool.and_eq_true, Bool.and_eq_false_iff, Bool.or_eq_true, Bool.or_eq_false_iff, List.length_map] at hc
                refine xa_region ?_
                refine x_move rfl rfl ?_
                refine x_move rfl rfl ?_
                refine x_buildSlice (es := List.map iV [_]) rfl rfl (by decide) rfl rfl (fun _ => slot_obj (noRef_map fun _ => rfl)) (fun _ => rfl) ?_
                intro g74
                refine x_append_map rfl rfl rfl rfl (by (simp; done)) (by simp) (by decide) rfl rfl rfl rfl (by decide) (fun _ => ⟨rfl, rfl⟩) (by simp only [maxL]; (simp only [List.length_nil, List.length_cons, List.length_append, Nat.zero_add, List.length_map]; omega)) (fun _ => rfl) ?_
                intro g75
                (refine x_assign_own rfl rfl (by (simp; done)) rfl (fun _ => (slot_obj (by exact noRef_map fun _ => rfl))) (fun _ => rfl) ?_; intro g12)
                refine xr_nil ⟨nofun, [(.t 7, _), (.t 12, _), (.t 63, _), (.t 64, _), (.h 12, _)], ⟨rfl, rfl, rfl, rfl, rfl, rfl, rfl, rfl, rfl, rfl, trivial⟩, ?_⟩
                refine xa_region ?_
                refine x_add rfl rfl (inI64 (by omega)) ?_
                refine x_move rfl rfl ?_
                refine xr_nil ⟨nofun, [(.t 7, _), (.t 12, _), (.t 63, _), (.t 64, _), (.h 12, _)], ⟨rfl, rfl, rfl, rfl, rfl, rfl, rfl, rfl, rfl, rfl, trivial⟩, ?_⟩
                refine ⟨(i + 1, xs ++ [(i : Int)], _), ?_, (by simp only; omega), ⟨rfl, rfl, rfl, rfl, rfl, trivial⟩⟩
                exact ⟨by omega, by rw [cloU_t ((hmi.fin (by omega) (show i < l.length by omega)).1 (by unfold bitN; omega)), hxs]⟩
              · try simp only [decide_eq_true_eq, decide_eq_false_iff_not, Bool.not_eq_true', Bool.not_eq_false', bne_iff_ne, beq_iff_eq, ne_eq, Bool.not_true, Bool.not_false, beq_eq_false_iff_ne, bne_eq_false_iff_eq, Decidable.not_not, Int.not_lt, Int.not_le, Bool.and_eq_true, Bool.and_eq_false_iff, Bool.or_eq_true, Bool.or_eq_false_iff, List.length_map] at hc
                refine xa_skip ?_
                refine xa_region ?_
                refine x_add rfl rfl (inI64 (by omega)) ?_
                refine x_move rfl rfl ?_
                refine xr_nil ⟨nofun, [(.t 7, _), (.t 12, _), (.t 63, _), (.t 64, _), (.h 12, _)], ⟨rfl, rfl, rfl, rfl, rfl, rfl, rfl, rfl, rfl, rfl, trivial⟩, ?_⟩
                refine ⟨(i + 1, xs, _), ?_, (by simp only; omega), ⟨rfl, rfl, rfl, rfl, rfl, trivial⟩⟩
                exact ⟨by omega, by rw [cloU_f (fun h => absurd ((hmi.fin (by omega) (show i < l.length by omega)).2 h) (by unfold bitN; omega)), hxs]⟩
            · try simp only [decide_eq_true_eq, decide_eq_false_iff_not, Bool.not_eq_true', Bool.not_eq_false', bne_iff_ne, beq_iff_eq, ne_eq, Bool.not_true, Bool.not_false, beq_eq_false_iff_ne, bne_eq_false_iff_eq, Decidable.not_not, Int.not_lt, Int.not_le, Bool.and_eq_true, Bool.and_eq_false_iff, Bool.or_eq_true, Bool.or_eq_false_iff, List.length_map] at hc
              refine xa_exit ?_
              refine xa_seq ?_
              refine xa_region ?_
              refine x_move rfl rfl ?_
              apply x_call rfl
              · apply pa_cons
                · exact pa_give rfl rfl (by (simp; done)) (noRef_map fun _ => rfl)
                exact pa_nil
              · exact s_ClipI xs (by simp only [maxL]; rw [hxs]; have := cloU_len l lev e i; omega)
              · exact ⟨rfl, rfl, rfl, of_decide_eq_true rfl, rfl⟩
              · exact .inl rfl
              · exact back_nil
              · exact inst_own
              · exact fun _ => rfl
              intro g78
              (refine x_assign_own rfl rfl (by (simp; done)) rfl (fun _ => (slot_obj (by exact noRef_map fun _ => rfl))) (fun _ => rfl) ?_; intro g6)
              refine xr_nil ⟨nofun, [(.t 6, _), (.h 6, _)], ⟨rfl, rfl, rfl, rfl, trivial⟩, ?_⟩
              refine xa_ret ?_
              refine ret_own' rfl rfl (by simp) (by exact noRef_map fun _ => rfl) trivial ?_
              rw [cbR_ok hvo hlev, hxs, clo, show i = l.length by omega]
      · have hg := hg0; try simp only [decide_eq_true_eq, decide_eq_false_iff_not, Bool.not_eq_true', Bool.not_eq_false', bne_iff_ne, beq_iff_eq, ne_eq, Bool.not_true, Bool.not_false, beq_eq_false_iff_ne, bne_eq_false_iff_eq, Decidable.not_not, Int.not_lt, Int.not_le, Bool.and_eq_true, Bool.and_eq_false_iff, Bool.or_eq_true, Bool.or_eq_false_iff] at hg
        refine x_guard_f rfl rfl (by assumption) ?_
        refine x_guard_t rfl rfl (by assumption) ?_
        refine x_pick_f rfl (by assumption) rfl rfl ?_
        refine x_pick_f rfl (by assumption) rfl rfl ?_
        refine xr_nil ⟨nofun, [(.t 0, _), (.t 1, _), (.t 2, _), (.t 29, _)], ⟨rfl, rfl, rfl, rfl, rfl, rfl, rfl, rfl, trivial⟩, ?_⟩
        refine xa_cond rfl (fun hc => absurd hc (by decide)) (fun hc => ?_)
        refine xa_skip ?_
        refine xa_seq ?_
        refine xa_region ?_
        refine x_assign rfl rfl rfl ?_
        refine xr_nil ⟨nofun, [(.t 0, _), (.t 1, _), (.t 2, _), (.t 7, _)], ⟨rfl, rfl, rfl, rfl, rfl, rfl, rfl, rfl, trivial⟩, ?_⟩
        refine xa_seq ?_
        refine xa_seq ?_
        refine xa_region ?_
        refine x_assign rfl rfl rfl ?_
        refine xr_nil ⟨nofun, [(.t 0, _), (.t 1, _), (.t 2, _), (.t 7, _), (.t 8, _)], ⟨rfl, rfl, rfl, rfl, rfl, rfl, rfl, rfl, rfl, rfl, trivial⟩, ?_⟩
        refine xa_block ?_
        obtain ⟨e, rfl, hvo, hlev⟩ := closed_in (l := l) (lev := lev) (o := o) (by simp_all) (by simp_all) (by simp_all)
        have hv := vo_iff.1 hvo
        have hn6 := hv.2.1
        have hn1 := hv.1
        have hall := fun x (hx : x ∈ l) => allB_mem hv.2.2 hx
        have hp6 := pow6 hn6
        refine xa_loopK (β := Nat × Nat) [(.t 0, _), (.t 1, _), (.t 2, _)] (fun (z : Nat × Nat) => match z with | (s, mi) => [(.t 8, iV s), (.t 7, iV mi)]) (fun (z : Nat × Nat) => match z with | (s, mi) => Mis l lev e s mi) (fun (z : Nat × Nat) => match z with | (s, mi) => 2 ^ l.length - s) (1, 0) ⟨rfl, rfl, rfl, rfl, rfl, trivial⟩ (Mis.start _ _ _) ?_
        intro z hb
        obtain ⟨s, mi⟩ := z
        try dsimp only at hb
        have hmi := hb
        have hm2 := hmi.2.1
        have hm3 := hmi.2.2.1
        refine xa_seq ?_
        refine xa_seq ?_
        refine xa_region ?_
        refine x_move rfl rfl ?_
        refine x_move rfl rfl ?_
        refine x_len_map rfl rfl ?_
        refine x_shlN (x := 1) rfl rfl (by omega) ?_
        refine x_lss rfl rfl ?_
        refine xr_nil ⟨nofun, [(.t 0, _), (.t 1, _), (.t 2, _), (.t 7, _), (.t 8, _), (.t 34, _)], ⟨rfl, rfl, rfl, rfl, rfl, rfl, rfl, rfl, rfl, rfl, rfl, rfl, trivial⟩, ?_⟩
        refine xa_cond rfl (fun hc => ?_) (fun hc => ?_)
        · try simp only [decide_eq_true_eq, decide_eq_false_iff_not, Bool.not_eq_true', Bool.not_eq_false', bne_iff_ne, beq_iff_eq, ne_eq, Bool.not_true, Bool.not_false, beq_eq_false_iff_ne, bne_eq_false_iff_eq, Decidable.not_not, Int.not_lt, Int.not_le, Bool.and_eq_true, Bool.and_eq_false_iff, Bool.or_eq_true, Bool.or_eq_false_iff, List.length_map] at hc
          refine xa_skip ?_
          refine xa_seq ?_
          refine xa_block ?_
          refine xa_seq ?_
          refine xa_region ?_
          (refine x_assign_nil rfl rfl (fun _ => rfl) ?_; intro g9)
          refine xr_nil ⟨nofun, [(.t 0, _), (.t 1, _), (.t 2, _), (.t 7, _), (.t 8, _), (.t 9, _), (.h 9, _)], ⟨rfl, rfl, rfl, rfl, rfl, rfl, rfl, rfl, rfl, rfl, rfl, rfl, rfl, rfl, trivial⟩, ?_⟩
          refine xa_seq ?_
          refine xa_seq ?_
          refine xa_region ?_
          refine x_move rfl rfl ?_
          refine x_len_map rfl rfl ?_
          refine x_move rfl rfl ?_
          refine xr_nil ⟨nofun, [(.t 0, _), (.t 1, _), (.t 2, _), (.t 7, _), (.t 8, _), (.t 9, _), (.t 37, _), (.t 38, _), (.t 39, _), (.h 9, _)], ⟨rfl, rfl, rfl, rfl, rfl, rfl, rfl, rfl, rfl, rfl, rfl, rfl, rfl, rfl, rfl, rfl, rfl, rfl, rfl, rfl, trivial⟩, ?_⟩
          refine xa_block ?_
          refine xa_loopK (β := Nat × List Int × Nat) [(.t 0, _), (.t 1, _), (.t 2, _), (.t 7, _), (.t 8, _), (.t 37, _), (.t 38, _)] (fun (z : Nat × List Int × Nat) => match z with | (i, xs, g) => [(.t 39, iV i), (.t 9, .sl 9 g none 0 xs.length), (.h 9, .obj g 0 1 (xs.map iV))]) (fun (z : Nat × List Int × Nat) => match z with | (i, xs, g) => i ≤ l.length ∧ xs = selU l s i) (fun (z : Nat × List Int × Nat) => match z with | (i, xs, g) => l.length - i) (0, [], _) ⟨rfl, rfl, rfl, rfl, rfl, rfl, rfl, rfl, rfl, rfl, trivial⟩ ⟨Nat.zero_le _, rfl⟩ ?_
          intro z hb
          obtain ⟨i, xs, g⟩ := z
          try dsimp only at hb
          obtain ⟨hi1, hxs⟩ := hb
          have hxl := selU_len l s i
          rw [← hxs] at hxl
          refine xa_seq ?_
          refine xa_region ?_
          refine x_lss rfl rfl ?_
          refine xr_nil ⟨nofun, [(.t 0, _), (.t 1, _), (.t 2, _), (.t 7, _), (.t 8, _), (.t 9, _), (.t 37, _), (.t 38, _), (.t 39, _), (.t 40, _), (.h 9, _)], ⟨rfl, rfl, rfl, rfl, rfl, rfl, rfl, rfl, rfl, rfl, rfl, rfl, rfl, rfl, rfl, rfl, rfl, rfl, rfl, rfl, rfl, rfl, trivial⟩, ?_⟩
          refine xa_seq ?_
          refine xa_cond rfl (fun hc => ?_) (fun hc => ?_)
          · try simp only [decide_eq_true_eq, decide_eq_false_iff_not, Bool.not_eq_true', Bool.not_eq_false', bne_iff_ne, beq_iff_eq, ne_eq, Bool.not_true, Bool.not_false, beq_eq_false_iff_ne, bne_eq_false_iff_eq, Decidable.not_not, Int.not_lt, Int.not_le, Bool.and_eq_true, Bool.and_eq_false_iff, Bool.or_eq_true, Bool.or_eq_false_iff, List.length_map] at hc
            refine xa_skip ?_
            refine xa_seq ?_
            refine xa_block ?_
            refine xa_seq ?_
            refine xa_region ?_
            refine x_move rfl rfl ?_
            refine x_index_listN rfl rfl rfl (fun _ => rfl) (by omega) ?_
            refine x_load_iptV rfl rfl rfl ?_
            refine x_assign rfl rfl rfl ?_
            refine x_assign rfl rfl rfl ?_
            refine xr_nil ⟨nofun, [(.t 0, _), (.t 1, _), (.t 2, _), (.t 7, _), (.t 8, _), (.t 9, _), (.t 10, _), (.t 11, _), (.t 37, _), (.t 38, _), (.t 39, _), (.h 9, _)], ⟨rfl, rfl, rfl, rfl, rfl, rfl, rfl, rfl, rfl, rfl, rfl, rfl, rfl, rfl, rfl, rfl, rfl, rfl, rfl, rfl, rfl, rfl, rfl, rfl, trivial⟩, ?_⟩
            refine xa_seq ?_
            refine xa_region ?_
            refine x_move rfl rfl ?_
            refine x_move rfl rfl ?_
            refine x_shrN rfl rfl (by omega) ?_
            refine x_and1 rfl rfl (by have := Nat.div_le_self s (2 ^ i); omega) ?_
            refine x_eql rfl rfl ?_
            refine xr_nil ⟨nofun, [(.t 0, _), (.t 1, _), (.t 2, _), (.t 7, _), (.t 8, _), (.t 9, _), (.t 11, _), (.t 37, _), (.t 38, _), (.t 39, _), (.t 48, _), (.h 9, _)], ⟨rfl, rfl, rfl, rfl, rfl, rfl, rfl, rfl, rfl, rfl, rfl, rfl, rfl, rfl, rfl, rfl, rfl, rfl, rfl, rfl, rfl, rfl, rfl, rfl, trivial⟩, ?_⟩
            refine xa_cond rfl (fun hc => ?_) (fun hc => ?_)
            · try simp only [decide_eq_true_eq, decide_eq_false_iff_not, Bool.not_eq_true', Bool.not_eq_false', bne_iff_ne, beq_iff_eq, ne_eq, Bool.not_true, Bool.not_false, beq_eq_false_iff_ne, bne_eq_false_iff_eq, Decidable.not_not, Int.not_lt, Int.not_le, Bool.and_eq_true, Bool.and_eq_false_iff, Bool.or_eq_true, Bool.or_eq_false_iff, List.length_map] at hc
              refine xa_region ?_
              refine x_move rfl rfl ?_
              refine x_move rfl rfl ?_
              refine x_buildSlice (es := List.map iV [_]) rfl rfl (by decide) rfl rfl (fun _ => slot_obj (noRef_map fun _ => rfl)) (fun _ => rfl) ?_
              intro g51
              refine x_append_map rfl rfl rfl rfl (by (simp; done)) (by simp) (by decide) rfl rfl rfl rfl (by decide) (fun _ => ⟨rfl, rfl⟩) (by simp only [maxL]; (simp only [List.length_nil, List.length_cons, List.length_append, Nat.zero_add, List.length_map]; omega)) (fun _ => rfl) ?_
              intro g52
              (refine x_assign_own rfl rfl (by (simp; done)) rfl (fun _ => (slot_obj (by exact noRef_map fun _ => rfl))) (fun _ => rfl) ?_; intro g9)
              refine xr_nil ⟨nofun, [(.t 0, _), (.t 1, _), (.t 2, _), (.t 7, _), (.t 8, _), (.t 9, _), (.t 37, _), (.t 38, _), (.t 39, _), (.h 9, _)], ⟨rfl, rfl, rfl, rfl, rfl, rfl, rfl, rfl, rfl, rfl, rfl, rfl, rfl, rfl, rfl, rfl, rfl, rfl, rfl, rfl, trivial⟩, ?_⟩
              refine xa_region ?_
              refine x_add rfl rfl (inI64 (by omega)) ?_
              refine x_move rfl rfl ?_
              refine xr_nil ⟨nofun, [(.t 0, _), (.t 1, _), (.t 2, _), (.t 7, _), (.t 8, _), (.t 9, _), (.t 37, _), (.t 38, _), (.t 39, _), (.h 9, _)], ⟨rfl, rfl, rfl, rfl, rfl, rfl, rfl, rfl, rfl, rfl, rfl, rfl, rfl, rfl, rfl, rfl, rfl, rfl, rfl, rfl, trivial⟩, ?_⟩
              refine ⟨(i + 1, xs ++ [l.getD i default], _), ?_, (by simp only; omega), ⟨rfl, rfl, rfl, rfl, rfl, rfl, rfl, rfl, rfl, rfl, trivial⟩⟩
              exact ⟨by omega, by rw [selU, if_pos (show bitN s i = 1 by unfold bitN; omega), hxs]⟩
            · try simp only [decide_eq_true_eq, decide_eq_false_iff_not, Bool.not_eq_true', Bool.not_eq_false', bne_iff_ne, beq_iff_eq, ne_eq, Bool.not_true, Bool.not_false, beq_eq_false_iff_ne, bne_eq_false_iff_eq, Decidable.not_not, Int.not_lt, Int.not_le, Bool.and_eq_true, Bool.and_eq_false_iff, Bool.or_eq_true, Bool.or_eq_false_iff, List.length_map] at hc
              refine xa_skip ?_
              refine xa_region ?_
              refine x_add rfl rfl (inI64 (by omega)) ?_
              refine x_move rfl rfl ?_
              refine xr_nil ⟨nofun, [(.t 0, _), (.t 1, _), (.t 2, _), (.t 7, _), (.t 8, _), (.t 9, _), (.t 37, _), (.t 38, _), (.t 39, _), (.h 9, _)], ⟨rfl, rfl, rfl, rfl, rfl, rfl, rfl, rfl, rfl, rfl, rfl, rfl, rfl, rfl, rfl, rfl, rfl, rfl, rfl, rfl, trivial⟩, ?_⟩
              refine ⟨(i + 1, xs, _), ?_, (by simp only; omega), ⟨rfl, rfl, rfl, rfl, rfl, rfl, rfl, rfl, rfl, rfl, trivial⟩⟩
              exact ⟨by omega, by rw [selU, if_neg (show ¬ bitN s i = 1 by unfold bitN; omega), hxs]⟩
          · try simp only [decide_eq_true_eq, decide_eq_false_iff_not, Bool.not_eq_true', Bool.not_eq_false', bne_iff_ne, beq_iff_eq, ne_eq, Bool.not_true, Bool.not_false, beq_eq_false_iff_ne, bne_eq_false_iff_eq, Decidable.not_not, Int.not_lt, Int.not_le, Bool.and_eq_true, Bool.and_eq_false_iff, Bool.or_eq_true, Bool.or_eq_false_iff, List.length_map] at hc
            refine xa_exit ?_
            refine xa_seq ?_
            refine xa_region ?_
            refine x_move rfl rfl ?_
            refine x_move rfl rfl ?_
            refine x_move rfl rfl ?_
            have hsx : xs = sel l s := by rw [hxs]; unfold sel; congr 1; omega
            subst hsx
            apply x_call rfl
            · apply pa_cons
              · exact pa_lend_map rfl rfl rfl (by (simp; done)) (fun _ => rfl)
              apply pa_cons
              · exact pa_plain rfl
              apply pa_cons
              · exact pa_plain rfl
              exact pa_nil
            · exact s_foundSet (sel l s) (Nat.le_trans (selU_len l s _) hn6) (fun x hx => hall x (sel_mem hx)) (sel_pos hmi.1 (by omega)) lev hlev e
            · exact ⟨rfl, rfl, rfl, of_decide_eq_true rfl, rfl⟩
            · exact .inr ⟨rfl, rfl⟩
            · exact back_nil
            · exact inst_plain rfl
            · exact fun _ => rfl
            intro g57
            refine x_not rfl ?_
            refine xr_nil ⟨nofun, [(.t 0, _), (.t 1, _), (.t 2, _), (.t 7, _), (.t 8, _), (.t 58, _)], ⟨rfl, rfl, rfl, rfl, rfl, rfl, rfl, rfl, rfl, rfl, rfl, rfl, trivial⟩, ?_⟩
            refine xa_cond rfl (fun hc => ?_) (fun hc => ?_)
            · try simp only [decide_eq_true_eq, decide_eq_false_iff_not, Bool.not_eq_true', Bool.not_eq_false', bne_iff_ne, beq_iff_eq, ne_eq, Bool.not_true, Bool.not_false, beq_eq_false_iff_ne, bne_eq_false_iff_eq, Decidable.not_not, Int.not_lt, Int.not_le, Bool.and_eq_true, Bool.and_eq_false_iff, Bool.or_eq_true, Bool.or_eq_false_iff, List.length_map] at hc
              refine xa_region ?_
              refine x_move rfl rfl ?_
              refine x_move rfl rfl ?_
              refine x_orN rfl rfl (by have := hmi.2.2.1; omega) ?_
              refine x_assign rfl rfl rfl ?_
              refine xr_nil ⟨nofun, [(.t 0, _), (.t 1, _), (.t 2, _), (.t 7, _), (.t 8, _)], ⟨rfl, rfl, rfl, rfl, rfl, rfl, rfl, rfl, rfl, rfl, trivial⟩, ?_⟩
              refine xa_region ?_
              refine x_move rfl rfl ?_
              refine x_add rfl rfl (inI64 (by omega)) ?_
              refine x_assign rfl rfl rfl ?_
              refine xr_nil ⟨nofun, [(.t 0, _), (.t 1, _), (.t 2, _), (.t 7, _), (.t 8, _)], ⟨rfl, rfl, rfl, rfl, rfl, rfl, rfl, rfl, rfl, rfl, trivial⟩, ?_⟩
              refine ⟨(s + 1, mi ||| s), ?_, (by simp only; omega), ⟨rfl, rfl, rfl, rfl, rfl, trivial⟩⟩
              exact hmi.miss (by omega) hc
            · try simp only [decide_eq_true_eq, decide_eq_false_iff_not, Bool.not_eq_true', Bool.not_eq_false', bne_iff_ne, beq_iff_eq, ne_eq, Bool.not_true, Bool.not_false, beq_eq_false_iff_ne, bne_eq_false_iff_eq, Decidable.not_not, Int.not_lt, Int.not_le, Bool.and_eq_true, Bool.and_eq_false_iff, Bool.or_eq_true, Bool.or_eq_false_iff, List.length_map] at hc
              refine xa_skip ?_
              refine xa_region ?_
              refine x_move rfl rfl ?_
              refine x_add rfl rfl (inI64 (by omega)) ?_
              refine x_assign rfl rfl rfl ?_
              refine xr_nil ⟨nofun, [(.t 0, _), (.t 1, _), (.t 2, _), (.t 7, _), (.t 8, _)], ⟨rfl, rfl, rfl, rfl, rfl, rfl, rfl, rfl, rfl, rfl, trivial⟩, ?_⟩
              refine ⟨(s + 1, mi), ?_, (by simp only; omega), ⟨rfl, rfl, rfl, rfl, rfl, trivial⟩⟩
              exact hmi.hit (by omega) hc
        · try simp only [decide_eq_true_eq, decide_eq_false_iff_not, Bool.not_eq_true', Bool.not_eq_false', bne_iff_ne, beq_iff_eq, ne_eq, Bool.not_true, Bool.not_false, beq_eq_false_iff_ne, bne_eq_false_iff_eq, Decidable.not_not, Int.not_lt, Int.not_le, Bool.and_eq_true, Bool.and_eq_false_iff, Bool.or_eq_true, Bool.or_eq_false_iff, List.length_map] at hc
          refine xa_exit ?_
          refine xa_seq ?_
          refine xa_region ?_
          (refine x_assign_nil rfl rfl (fun _ => rfl) ?_; intro g12)
          refine xr_nil ⟨nofun, [(.t 0, _), (.t 7, _), (.t 12, _), (.h 12, _)], ⟨rfl, rfl, rfl, rfl, rfl, rfl, rfl, rfl, trivial⟩, ?_⟩
          refine xa_seq ?_
          refine xa_seq ?_
          refine xa_region ?_
          refine x_move rfl rfl ?_
          refine x_len_map rfl rfl ?_
          refine x_move rfl rfl ?_
          refine xr_nil ⟨nofun, [(.t 7, _), (.t 12, _), (.t 63, _), (.t 64, _), (.h 12, _)], ⟨rfl, rfl, rfl, rfl, rfl, rfl, rfl, rfl, rfl, rfl, trivial⟩, ?_⟩
          refine xa_block ?_
          refine xa_loopK (β := Nat × List Int × Nat) [(.t 7, _), (.t 63, _)] (fun (z : Nat × List Int × Nat) => match z with | (i, xs, g) => [(.t 64, iV i), (.t 12, .sl 12 g none 0 xs.length), (.h 12, .obj g 0 1 (xs.map iV))]) (fun (z : Nat × List Int × Nat) => match z with | (i, xs, g) => i ≤ l.length ∧ xs = cloU l lev e i) (fun (z : Nat × List Int × Nat) => match z with | (i, xs, g) => l.length - i) (0, [], _) ⟨rfl, rfl, rfl, rfl, rfl, trivial⟩ ⟨Nat.zero_le _, rfl⟩ ?_
          intro z hb
          obtain ⟨i, xs, g⟩ := z
          try dsimp only at hb
          obtain ⟨hi1, hxs⟩ := hb
          have hxl := cloU_len l lev e i
          rw [← hxs] at hxl
          refine xa_seq ?_
          refine xa_region ?_
          refine x_lss rfl rfl ?_
          refine xr_nil ⟨nofun, [(.t 7, _), (.t 12, _), (.t 63, _), (.t 64, _), (.t 65, _), (.h 12, _)], ⟨rfl, rfl, rfl, rfl, rfl, rfl, rfl, rfl, rfl, rfl, rfl, rfl, trivial⟩, ?_⟩
          refine xa_seq ?_
          refine xa_cond rfl (fun hc => ?_) (fun hc => ?_)
          · try simp only [decide_eq_true_eq, decide_eq_false_iff_not, Bool.not_eq_true', Bool.not_eq_false', bne_iff_ne, beq_iff_eq, ne_eq, Bool.not_true, Bool.not_false, beq_eq_false_iff_ne, bne_eq_false_iff_eq, Decidable.not_not, Int.not_lt, Int.not_le, Bool.and_eq_true, Bool.and_eq_false_iff, Bool.or_eq_true, Bool.or_eq_false_iff, List.length_map] at hc
            refine xa_skip ?_
            refine xa_seq ?_
            refine xa_block ?_
            refine xa_seq ?_
            refine xa_region ?_
            refine x_move rfl rfl ?_
            refine x_assign rfl rfl rfl ?_
            refine xr_nil ⟨nofun, [(.t 7, _), (.t 12, _), (.t 13, _), (.t 63, _), (.t 64, _), (.h 12, _)], ⟨rfl, rfl, rfl, rfl, rfl, rfl, rfl, rfl, rfl, rfl, rfl, rfl, trivial⟩, ?_⟩
            refine xa_seq ?_
            refine xa_region ?_
            refine x_move rfl rfl ?_
            refine x_move rfl rfl ?_
            refine x_shrN rfl rfl (by omega) ?_
            refine x_and1 rfl rfl (by have := Nat.div_le_self mi (2 ^ i); have := hmi.2.2.1; omega) ?_
            refine x_eql rfl rfl ?_
            refine xr_nil ⟨nofun, [(.t 7, _), (.t 12, _), (.t 13, _), (.t 63, _), (.t 64, _), (.t 71, _), (.h 12, _)], ⟨rfl, rfl, rfl, rfl, rfl, rfl, rfl, rfl, rfl, rfl, rfl, rfl, rfl, rfl, trivial⟩, ?_⟩
            refine xa_cond rfl (fun hc => ?_) (fun hc => ?_)
            · try simp only [decide_eq_true_eq, decide_eq_false_iff_not, Bool.not_eq_true', Bool.not_eq_false', bne_iff_ne, beq_iff_eq, ne_eq, Bool.not_true, Bool.not_false, beq_eq_false_iff_ne, bne_eq_false_iff_eq, Decidable.not_not, Int.not_lt, Int.not_le, Bool.and_eq_true, Bool.and_eq_false_iff, Bool.or_eq_true, Bool.or_eq_false_iff, List.length_map] at hc
              refine xa_region ?_
              refine x_move rfl rfl ?_
              refine x_move rfl rfl ?_
              refine x_buildSlice (es := List.map iV [_]) rfl rfl (by decide) rfl rfl (fun _ => slot_obj (noRef_map fun _ => rfl)) (fun _ => rfl) ?_
              intro g74
              refine x_append_map rfl rfl rfl rfl (by (simp; done)) (by simp) (by decide) rfl rfl rfl rfl (by decide) (fun _ => ⟨rfl, rfl⟩) (by simp only [maxL]; (simp only [List.length_nil, List.length_cons, List.length_append, Nat.zero_add, List.length_map]; omega)) (fun _ => rfl) ?_
              intro g75
              (refine x_assign_own rfl rfl (by (simp; done)) rfl (fun _ => (slot_obj (by exact noRef_map fun _ => rfl))) (fun _ => rfl) ?_; intro g12)
              refine xr_nil ⟨nofun, [(.t 7, _), (.t 12, _), (.t 63, _), (.t 64, _), (.h 12, _)], ⟨rfl, rfl, rfl, rfl, rfl, rfl, rfl, rfl, rfl, rfl, trivial⟩, ?_⟩
              refine xa_region ?_
              refine x_add rfl rfl (inI64 (by omega)) ?_
              refine x_move rfl rfl ?_
              refine xr_nil ⟨nofun, [(.t 7, _), (.t 12, _), (.t 63, _), (.t 64, _), (.h 12, _)], ⟨rfl, rfl, rfl, rfl, rfl, rfl, rfl, rfl, rfl, rfl, trivial⟩, ?_⟩
              refine ⟨(i + 1, xs ++ [(i : Int)], _), ?_, (by simp only; omega), ⟨rfl, rfl, rfl, rfl, rfl, trivial⟩⟩
              exact ⟨by omega, by rw [cloU_t ((hmi.fin (by omega) (show i < l.length by omega)).1 (by unfold bitN; omega)), hxs]⟩
            · try simp only [decide_eq_true_eq, decide_eq_false_iff_not, Bool.not_eq_true', Bool.not_eq_false', bne_iff_ne, beq_iff_eq, ne_eq, Bool.not_true, Bool.not_false, beq_eq_false_iff_ne, bne_eq_false_iff_eq, Decidable.not_not, Int.not_lt, Int.not_le, Bool.and_eq_true, Bool.and_eq_false_iff, Bool.or_eq_true, Bool.or_eq_false_iff, List.length_map] at hc
              refine xa_skip ?_
              refine xa_region ?_
              refine x_add rfl rfl (inI64 (by omega)) ?_
              refine x_move rfl rfl ?_
              refine xr_nil ⟨nofun, [(.t 7, _), (.t 12, _), (.t 63, _), (.t 64, _), (.h 12, _)], ⟨rfl, rfl, rfl, rfl, rfl, rfl, rfl, rfl, rfl, rfl, trivial⟩, ?_⟩
              refine ⟨(i + 1, xs, _), ?_, (by simp only; omega), ⟨rfl, rfl, rfl, rfl, rfl, trivial⟩⟩
              exact ⟨by omega, by rw [cloU_f (fun h => absurd ((hmi.fin (by omega) (show i < l.length by omega)).2 h) (by unfold bitN; omega)), hxs]⟩
          · try simp only [decide_eq_true_eq, decide_eq_false_iff_not, Bool.not_eq_true', Bool.not_eq_false', bne_iff_ne, beq_iff_eq, ne_eq, Bool.not_true, Bool.not_false, beq_eq_false_iff_ne, bne_eq_false_iff_eq, Decidable.not_not, Int.not_lt, Int.not_le, Bool.and_eq_true, Bool.and_eq_false_iff, Bool.or_eq_true, Bool.or_eq_false_iff, List.length_map] at hc
            refine xa_exit ?_
            refine xa_seq ?_
            refine xa_region ?_
            refine x_move rfl rfl ?_
            apply x_call rfl
            · apply pa_cons
              · exact pa_give rfl rfl (by (simp; done)) (noRef_map fun _ => rfl)
              exact pa_nil
            · exact s_ClipI xs (by simp only [maxL]; rw [hxs]; have := cloU_len l lev e i; omega)
            · exact ⟨rfl, rfl, rfl, of_decide_eq_true rfl, rfl⟩
            · exact .inl rfl
            · exact back_nil
            · exact inst_own
            · exact fun _ => rfl
            intro g78
            (refine x_assign_own rfl rfl (by (simp; done)) rfl (fun _ => (slot_obj (by exact noRef_map fun _ => rfl))) (fun _ => rfl) ?_; intro g6)
            refine xr_nil ⟨nofun, [(.t 6, _), (.h 6, _)], ⟨rfl, rfl, rfl, rfl, trivial⟩, ?_⟩
            refine xa_ret ?_
            refine ret_own' rfl rfl (by simp) (by exact noRef_map fun _ => rfl) trivial ?_
            rw [cbR_ok hvo hlev, hxs, clo, show i = l.length by omega]
    · have hg := hg0; try simp only [decide_eq_true_eq, decide_eq_false_iff_not, Bool.not_eq_true', Bool.not_eq_false', bne_iff_ne, beq_iff_eq, ne_eq, Bool.not_true, Bool.not_false, beq_eq_false_iff_ne, bne_eq_false_iff_eq, Decidable.not_not, Int.not_lt, Int.not_le, Bool.and_eq_true, Bool.and_eq_false_iff, Bool.or_eq_true, Bool.or_eq_false_iff] at hg
      refine x_guard_f rfl rfl (by assumption) ?_
      refine x_guard_f rfl rfl (by assumption) ?_
      refine x_guard_u rfl rfl ?_
      refine x_guard_u rfl rfl ?_
      refine x_guard_f rfl rfl (by assumption) ?_
      refine x_pick_t rfl (by assumption) rfl rfl ?_
      refine xr_nil ⟨nofun, [(.t 0, _), (.t 1, _), (.t 2, _), (.t 29, _)], ⟨rfl, rfl, rfl, rfl, rfl, rfl, rfl, rfl, trivial⟩, ?_⟩
      refine xa_cond rfl (fun hc => ?_) (fun hc => absurd hc (by decide))
      refine xa_seq ?_
      refine xa_region ?_
      (refine x_assign_nil rfl rfl (fun _ => rfl) ?_; intro g6)
      refine xr_nil ⟨nofun, [(.t 6, _), (.h 6, _)], ⟨rfl, rfl, rfl, rfl, trivial⟩, ?_⟩
      refine xa_ret ?_
      refine ret_own' rfl rfl (by simp) (by rfl) trivial ?_
      rw [cbR_none (by rintro ⟨h1, h2, h3⟩; omega)]
      rfl
  · have hg := hg0; try simp only [decide_eq_true_eq, decide_eq_false_iff_not, Bool.not_eq_true', Bool.not_eq_false', bne_iff_ne, beq_iff_eq, ne_eq, Bool.not_true, Bool.not_false, beq_eq_false_iff_ne, bne_eq_false_iff_eq, Decidable.not_not, Int.not_lt, Int.not_le, Bool.and_eq_true, Bool.and_eq_false_iff, Bool.or_eq_true, Bool.or_eq_false_iff] at hg
    refine x_guard_f rfl rfl (by assumption) ?_
    refine x_guard_f rfl rfl (by assumption) ?_
    refine x_pick_t rfl (by assumption) rfl rfl ?_
    refine x_move rfl rfl ?_
    refine x_guard_f rfl rfl (by rfl) ?_
    refine x_guard_f rfl rfl (by rfl) ?_
    refine x_guard_f rfl rfl (by rfl) ?_
    refine x_guard_u rfl rfl ?_
    refine x_guard_u rfl rfl ?_
    refine x_guard_f rfl rfl (by rfl) ?_
    refine x_pick_t rfl (by rfl) rfl rfl ?_
    refine xr_nil ⟨nofun, [(.t 0, _), (.t 1, _), (.t 2, _), (.t 29, _)], ⟨rfl, rfl, rfl, rfl, rfl, rfl, rfl, rfl, trivial⟩, ?_⟩
    refine xa_cond rfl (fun hc => ?_) (fun hc => absurd hc (by decide))
    refine xa_seq ?_
    refine xa_region ?_
    (refine x_assign_nil rfl rfl (fun _ => rfl) ?_; intro g6)
    refine xr_nil ⟨nofun, [(.t 6, _), (.h 6, _)], ⟨rfl, rfl, rfl, rfl, trivial⟩, ?_⟩
    refine xa_ret ?_
    refine ret_own' rfl rfl (by simp) (by rfl) trivial ?_
    rw [cbR_none (by rintro ⟨h1, h2, h3⟩; (simp_all; done))]
    rfl

theorem keep_s_isIn : keepOf Try.f12 = [0, 1, 4, 5, 9, 17] := by kernel_rfl
set_option maxHeartbeats 20000000 in
theorem s_isIn (xs : List Int) (hl : xs.length ≤ 1000) (y : Int) : CW cxT 12 [L xs, iV y] = some (bV (decide (y ∈ xs)), []) := by
  refine fn_intro rfl Try.func12 rfl ⟨by kernel_rfl, rfl, of_decide_eq_true rfl, of_decide_eq_true rfl, by decide⟩ keep_s_isIn ?_
  refine xa_seq ?_
  refine xa_region ?_
  refine x_assign rfl rfl rfl ?_
  refine xr_nil ⟨nofun, [(.t 0, _), (.t 1, _)], ⟨rfl, rfl, rfl, rfl, trivial⟩, ?_⟩
  refine xa_seq ?_
  refine xa_seq ?_
  refine xa_region ?_
  refine x_assign rfl rfl rfl ?_
  refine xr_nil ⟨nofun, [(.t 0, _), (.t 1, _), (.t 5, _)], ⟨rfl, rfl, rfl, rfl, rfl, rfl, trivial⟩, ?_⟩
  refine xa_block ?_
  refine xa_loopK (β := Nat) [(.t 0, _), (.t 1, _)] (fun (i : Nat) => [(.t 5, iV i)]) (fun (i : Nat) => i ≤ xs.length ∧ ∀ j, j < i → xs.getD j default ≠ y) (fun (i : Nat) => xs.length - i) 0 ⟨rfl, rfl, rfl, trivial⟩ ⟨Nat.zero_le _, fun j h => by omega⟩ ?_
  intro i hb
  obtain ⟨hi1, hi2⟩ := hb
  refine xa_seq ?_
  refine xa_seq ?_
  refine xa_region ?_
  refine x_move rfl rfl ?_
  refine x_move rfl rfl ?_
  refine x_len_map rfl rfl ?_
  refine x_lss rfl rfl ?_
  refine xr_nil ⟨nofun, [(.t 0, _), (.t 1, _), (.t 5, _), (.t 9, _)], ⟨rfl, rfl, rfl, rfl, rfl, rfl, rfl, rfl, trivial⟩, ?_⟩
  refine xa_cond rfl (fun hc => ?_) (fun hc => ?_)
  · try simp only [decide_eq_true_eq, decide_eq_false_iff_not, Bool.not_eq_true', Bool.not_eq_false', bne_iff_ne, beq_iff_eq, ne_eq, Bool.not_true, Bool.not_false, beq_eq_false_iff_ne, bne_eq_false_iff_eq, Decidable.not_not, Int.not_lt, Int.not_le, Bool.and_eq_true, Bool.and_eq_false_iff, Bool.or_eq_true, Bool.or_eq_false_iff, List.length_map] at hc
    refine xa_skip ?_
    refine xa_seq ?_
    refine xa_block ?_
    refine xa_seq ?_
    refine xa_region ?_
    refine x_move rfl rfl ?_
    refine x_move rfl rfl ?_
    refine x_index_listN rfl rfl rfl (fun _ => rfl) (by omega) ?_
    refine x_load_iptV rfl rfl rfl ?_
    refine x_move rfl rfl ?_
    refine x_eql rfl rfl ?_
    refine xr_nil ⟨nofun, [(.t 0, _), (.t 1, _), (.t 5, _), (.t 17, _)], ⟨rfl, rfl, rfl, rfl, rfl, rfl, rfl, rfl, trivial⟩, ?_⟩
    refine xa_cond rfl (fun hc => ?_) (fun hc => ?_)
    · try simp only [decide_eq_true_eq, decide_eq_false_iff_not, Bool.not_eq_true', Bool.not_eq_false', bne_iff_ne, beq_iff_eq, ne_eq, Bool.not_true, Bool.not_false, beq_eq_false_iff_ne, bne_eq_false_iff_eq, Decidable.not_not, Int.not_lt, Int.not_le, Bool.and_eq_true, Bool.and_eq_false_iff, Bool.or_eq_true, Bool.or_eq_false_iff, List.length_map] at hc
      refine xa_seq ?_
      refine xa_region ?_
      refine x_assign rfl rfl rfl ?_
      refine xr_nil ⟨nofun, [(.t 4, _)], ⟨rfl, rfl, trivial⟩, ?_⟩
      refine xa_ret ?_
      refine ret_val' rfl rfl trivial ?_
      exact congrArg bV (decide_eq_true (hc ▸ getD_mem (by omega))).symm
    · try simp only [decide_eq_true_eq, decide_eq_false_iff_not, Bool.not_eq_true', Bool.not_eq_false', bne_iff_ne, beq_iff_eq, ne_eq, Bool.not_true, Bool.not_false, beq_eq_false_iff_ne, bne_eq_false_iff_eq, Decidable.not_not, Int.not_lt, Int.not_le, Bool.and_eq_true, Bool.and_eq_false_iff, Bool.or_eq_true, Bool.or_eq_false_iff, List.length_map] at hc
      refine xa_skip ?_
      refine xa_region ?_
      refine x_move rfl rfl ?_
      refine x_add rfl rfl (inI64 (by omega)) ?_
      refine x_assign rfl rfl rfl ?_
      refine xr_nil ⟨nofun, [(.t 0, _), (.t 1, _), (.t 5, _)], ⟨rfl, rfl, rfl, rfl, rfl, rfl, trivial⟩, ?_⟩
      refine ⟨i + 1, ⟨by omega, fun a ha => by rcases Nat.lt_succ_iff_lt_or_eq.1 ha with h | h; exact hi2 a h; subst h; exact hc⟩, (by omega), ⟨rfl, rfl, rfl, trivial⟩⟩
  · try simp only [decide_eq_true_eq, decide_eq_false_iff_not, Bool.not_eq_true', Bool.not_eq_false', bne_iff_ne, beq_iff_eq, ne_eq, Bool.not_true, Bool.not_false, beq_eq_false_iff_ne, bne_eq_false_iff_eq, Decidable.not_not, Int.not_lt, Int.not_le, Bool.and_eq_true, Bool.and_eq_false_iff, Bool.or_eq_true, Bool.or_eq_false_iff, List.length_map] at hc
    refine xa_exit ?_
    refine xa_seq ?_
    refine xa_region ?_
    refine x_assign rfl rfl rfl ?_
    refine xr_nil ⟨nofun, [(.t 4, _)], ⟨rfl, rfl, trivial⟩, ?_⟩
    refine xa_ret ?_
    refine ret_val' rfl rfl trivial ?_
    refine congrArg bV (decide_eq_false fun h => ?_).symm
    obtain ⟨j, hj, hjy⟩ := mem_getD h
    exact hi2 j (by omega) hjy

theorem keep_s_someOdds : keepOf Try.f30 = [0, 2, 4, 3, 12, 28] := by kernel_rfl
set_option maxHeartbeats 20000000 in
theorem s_someOdds (bs : List Int) (p : Int) (hbs : Bytes bs) (hl : bs.length ≤ 1048576) (hp : 0 ≤ p ∧ p ≤ 1000) : ∃ res outs, (fun res outs => ∃ (xs : List Int) (p' : Int), res = .own 1 (xs.map iV) ∧ outs = [[rdr bs p']] ∧ p ≤ p' ∧ p' ≤ p + 100 ∧ xs.length ≤ 7) res outs ∧ CW cxT 30 [.ownp [rdr bs p] 0 0] = some (res, outs) := by
  refine fn_introP rfl Try.func30 rfl ⟨by kernel_rfl, rfl, of_decide_eq_true rfl, of_decide_eq_true rfl, by decide⟩ keep_s_someOdds ?_
  refine xa_seq ?_
  refine xa_region ?_
  (refine x_assign_nil rfl rfl (fun _ => rfl) ?_; intro g2)
  refine xr_nil ⟨nofun, [(.t 0, _), (.h 0, _)], ⟨rfl, rfl, rfl, rfl, trivial⟩, ?_⟩
  refine xa_seq ?_
  refine xa_region ?_
  refine x_buildSlice (es := List.map iV []) rfl rfl (by decide) rfl rfl (fun _ => slot_obj (noRef_map fun _ => rfl)) (fun _ => rfl) ?_
  intro g5
  (refine x_assign_own rfl rfl (by (simp; done)) rfl (fun _ => (slot_obj (by exact noRef_map fun _ => rfl))) (fun _ => rfl) ?_; intro g3)
  refine xr_nil ⟨nofun, [(.t 0, _), (.t 3, _), (.h 0, _), (.h 3, _)], ⟨rfl, rfl, rfl, rfl, rfl, rfl, rfl, rfl, trivial⟩, ?_⟩
  refine xa_seq ?_
  refine xa_seq ?_
  refine xa_region ?_
  refine x_move rfl rfl ?_
  refine x_buildSlice (es := List.map iV [_, _, _, _, _, _, _]) rfl rfl (by decide) rfl rfl (fun _ => slot_obj (noRef_map fun _ => rfl)) (fun _ => rfl) ?_
  intro g7
  obtain ⟨_, _, ⟨k0, rfl, rfl, hk0⟩, hC0⟩ := s_one bs p hbs hl (by omega) [3, 4, 5, 2, 6, 1, 0] (by decide)
  have hk1 : 0 ≤ k0 ∧ k0 ≤ 6 := by simp at hk0; omega
  apply x_call rfl
  · apply pa_cons
    · exact pa_box rfl (by decide) rfl
    apply pa_cons
    · exact pa_keep_map rfl rfl (by (simp; done)) (fun _ => rfl)
    exact pa_nil
  · exact hC0
  · exact ⟨rfl, rfl, rfl, of_decide_eq_true rfl, rfl⟩
  · exact .inl rfl
  · exact back_cons rfl rfl rfl back_nil
  · exact inst_plain rfl
  · exact fun _ => rfl
  intro g8
  refine x_assign rfl rfl rfl ?_
  refine xr_nil ⟨nofun, [(.t 0, _), (.t 3, _), (.t 4, _), (.h 0, _), (.h 3, _)], ⟨rfl, rfl, rfl, rfl, rfl, rfl, rfl, rfl, rfl, rfl, trivial⟩, ?_⟩
  refine xa_block ?_
  refine xa_loopK (β := List Int × Nat × Int) [(.t 0, _), (.t 4, _)] (fun (z : List Int × Nat × Int) => match z with | (xs, g, q) => [(.h 0, .obj 1 4 0 [rdr bs q]), (.t 3, .sl 3 g none 0 xs.length), (.h 3, .obj g 0 1 (xs.map iV))]) (fun (z : List Int × Nat × Int) => match z with | (xs, g, q) => (xs.length : Int) ≤ k0 ∧ p + 1 ≤ q ∧ q ≤ p + 1 + 4 * (xs.length : Int)) (fun (z : List Int × Nat × Int) => match z with | (xs, g, q) => 6 - xs.length) ([], _, p + 1) ⟨rfl, rfl, rfl, rfl, rfl, trivial⟩ ⟨by simp; omega, by omega, by simp⟩ ?_
  intro z hb
  obtain ⟨xs, g, q⟩ := z
  try dsimp only at hb
  obtain ⟨hx1, hq1, hq2⟩ := hb
  refine xa_seq ?_
  refine xa_seq ?_
  refine xa_region ?_
  refine x_move rfl rfl ?_
  refine x_len_sl rfl rfl ?_
  refine x_move rfl rfl ?_
  refine x_lss rfl rfl ?_
  refine xr_nil ⟨nofun, [(.t 0, _), (.t 3, _), (.t 4, _), (.t 12, _), (.h 0, _), (.h 3, _)], ⟨rfl, rfl, rfl, rfl, rfl, rfl, rfl, rfl, rfl, rfl, rfl, rfl, trivial⟩, ?_⟩
  refine xa_cond rfl (fun hc => ?_) (fun hc => ?_)
  · try simp only [decide_eq_true_eq, decide_eq_false_iff_not, Bool.not_eq_true', Bool.not_eq_false', bne_iff_ne, beq_iff_eq, ne_eq, Bool.not_true, Bool.not_false, beq_eq_false_iff_ne, bne_eq_false_iff_eq, Decidable.not_not, Int.not_lt, Int.not_le, Bool.and_eq_true, Bool.and_eq_false_iff, Bool.or_eq_true, Bool.or_eq_false_iff, List.length_map] at hc
    refine xa_skip ?_
    refine xa_block ?_
    refine xa_region ?_
    refine x_move rfl rfl ?_
    refine x_move rfl rfl ?_
    refine x_move rfl rfl ?_
    obtain ⟨_, _, ⟨k1, rfl, rfl, -, -⟩, hC1⟩ := s_pick bs q hbs hl (by omega) 60 (by omega)
    apply x_call rfl
    · apply pa_cons
      · exact pa_box rfl (by decide) rfl
      apply pa_cons
      · exact pa_plain rfl
      exact pa_nil
    · exact hC1
    · exact ⟨rfl, rfl, rfl, of_decide_eq_true rfl, rfl⟩
    · exact .inl rfl
    · exact back_cons rfl rfl rfl back_nil
    · exact inst_plain rfl
    · exact fun _ => rfl
    intro g16
    refine x_move rfl rfl ?_
    obtain ⟨_, _, ⟨k2, rfl, rfl, -, -⟩, hC2⟩ := s_pick bs (q + 1) hbs hl (by omega) 20 (by omega)
    apply x_call rfl
    · apply pa_cons
      · exact pa_box rfl (by decide) rfl
      apply pa_cons
      · exact pa_plain rfl
      exact pa_nil
    · exact hC2
    · exact ⟨rfl, rfl, rfl, of_decide_eq_true rfl, rfl⟩
    · exact .inl rfl
    · exact back_cons rfl rfl rfl back_nil
    · exact inst_plain rfl
    · exact fun _ => rfl
    intro g18
    refine x_move rfl rfl ?_
    obtain ⟨_, _, ⟨k3, rfl, rfl, hk31, hk32⟩, hC3⟩ := s_pick bs (q + 1 + 1) hbs hl (by omega) 250 (by omega)
    have hk31 := hk31 (by omega)
    apply x_call rfl
    · apply pa_cons
      · exact pa_box rfl (by decide) rfl
      apply pa_cons
      · exact pa_plain rfl
      exact pa_nil
    · exact hC3
    · exact ⟨rfl, rfl, rfl, of_decide_eq_true rfl, rfl⟩
    · exact .inl rfl
    · exact back_cons rfl rfl rfl back_nil
    · exact inst_plain rfl
    · exact fun _ => rfl
    intro g20
    refine x_mul rfl rfl (inI64 (by omega)) ?_
    refine x_buildSlice (es := List.map iV [_, _, _, _, _, _]) rfl rfl (by decide) rfl rfl (fun _ => slot_obj (noRef_map fun _ => rfl)) (fun _ => rfl) ?_
    intro g22
    obtain ⟨_, _, ⟨k4, rfl, rfl, -⟩, hC4⟩ := s_one bs (q + 1 + 1 + 1) hbs hl (by omega) [k1, k2, 4 * k3, 10, 0, 1000] (by simp)
    apply x_call rfl
    · apply pa_cons
      · exact pa_box rfl (by decide) rfl
      apply pa_cons
      · exact pa_keep_map rfl rfl (by (simp; done)) (fun _ => rfl)
      exact pa_nil
    · exact hC4
    · exact ⟨rfl, rfl, rfl, of_decide_eq_true rfl, rfl⟩
    · exact .inl rfl
    · exact back_cons rfl rfl rfl back_nil
    · exact inst_plain rfl
    · exact fun _ => rfl
    intro g23
    refine x_buildSlice (es := List.map iV [_]) rfl rfl (by decide) rfl rfl (fun _ => slot_obj (noRef_map fun _ => rfl)) (fun _ => rfl) ?_
    intro g24
    refine x_append_map rfl rfl rfl rfl (by (simp; done)) (by simp) (by decide) rfl rfl rfl rfl (by decide) (fun _ => ⟨rfl, rfl⟩) (by simp only [maxL]; (simp only [List.length_nil, List.length_cons, List.length_append, Nat.zero_add, List.length_map]; omega)) (fun _ => rfl) ?_
    intro g25
    (refine x_assign_own rfl rfl (by (simp; done)) rfl (fun _ => (slot_obj (by exact noRef_map fun _ => rfl))) (fun _ => rfl) ?_; intro g3)
    refine xr_nil ⟨nofun, [(.t 0, _), (.t 3, _), (.t 4, _), (.h 0, _), (.h 3, _)], ⟨rfl, rfl, rfl, rfl, rfl, rfl, rfl, rfl, rfl, rfl, trivial⟩, ?_⟩
    refine ⟨(xs ++ [k4], _, q + 1 + 1 + 1 + 1), ?_, (by simp only [List.length_append, List.length_singleton]; omega), ⟨rfl, rfl, rfl, rfl, rfl, trivial⟩⟩
    refine ⟨?_, ?_, ?_⟩ <;> (try simp only [List.length_append, List.length_singleton]) <;> omega
  · try simp only [decide_eq_true_eq, decide_eq_false_iff_not, Bool.not_eq_true', Bool.not_eq_false', bne_iff_ne, beq_iff_eq, ne_eq, Bool.not_true, Bool.not_false, beq_eq_false_iff_ne, bne_eq_false_iff_eq, Decidable.not_not, Int.not_lt, Int.not_le, Bool.and_eq_true, Bool.and_eq_false_iff, Bool.or_eq_true, Bool.or_eq_false_iff, List.length_map] at hc
    refine xa_exit ?_
    refine xa_seq ?_
    refine xa_seq ?_
    refine xa_region ?_
    refine x_move rfl rfl ?_
    obtain ⟨_, _, ⟨k5, rfl, rfl, -, -⟩, hC5⟩ := s_pick bs q hbs hl (by omega) 30 (by omega)
    apply x_call rfl
    · apply pa_cons
      · exact pa_box rfl (by decide) rfl
      apply pa_cons
      · exact pa_plain rfl
      exact pa_nil
    · exact hC5
    · exact ⟨rfl, rfl, rfl, of_decide_eq_true rfl, rfl⟩
    · exact .inl rfl
    · exact back_cons rfl rfl rfl back_nil
    · exact inst_plain rfl
    · exact fun _ => rfl
    intro g27
    refine x_eql rfl rfl ?_
    refine xr_nil ⟨nofun, [(.t 0, _), (.t 3, _), (.t 28, _), (.h 0, _), (.h 3, _)], ⟨rfl, rfl, rfl, rfl, rfl, rfl, rfl, rfl, rfl, rfl, trivial⟩, ?_⟩
    refine xa_cond rfl (fun hc => ?_) (fun hc => ?_)
    · try simp only [decide_eq_true_eq, decide_eq_false_iff_not, Bool.not_eq_true', Bool.not_eq_false', bne_iff_ne, beq_iff_eq, ne_eq, Bool.not_true, Bool.not_false, beq_eq_false_iff_ne, bne_eq_false_iff_eq, Decidable.not_not, Int.not_lt, Int.not_le, Bool.and_eq_true, Bool.and_eq_false_iff, Bool.or_eq_true, Bool.or_eq_false_iff, List.length_map] at hc
      refine xa_seq ?_
      refine xa_region ?_
      refine x_move rfl rfl ?_
      refine x_move rfl rfl ?_
      refine x_buildSlice (es := List.map iV [_, _]) rfl rfl (by decide) rfl rfl (fun _ => slot_obj (noRef_map fun _ => rfl)) (fun _ => rfl) ?_
      intro g31
      obtain ⟨_, _, ⟨k6, rfl, rfl, -⟩, hC6⟩ := s_one bs (q + 1) hbs hl (by omega) [1001, -1] (by decide)
      apply x_call rfl
      · apply pa_cons
        · exact pa_box rfl (by decide) rfl
        apply pa_cons
        · exact pa_keep_map rfl rfl (by (simp; done)) (fun _ => rfl)
        exact pa_nil
      · exact hC6
      · exact ⟨rfl, rfl, rfl, of_decide_eq_true rfl, rfl⟩
      · exact .inl rfl
      · exact back_cons rfl rfl rfl back_nil
      · exact inst_plain rfl
      · exact fun _ => rfl
      intro g32
      refine x_buildSlice (es := List.map iV [_]) rfl rfl (by decide) rfl rfl (fun _ => slot_obj (noRef_map fun _ => rfl)) (fun _ => rfl) ?_
      intro g33
      refine x_append_map rfl rfl rfl rfl (by (simp; done)) (by simp) (by decide) rfl rfl rfl rfl (by decide) (fun _ => ⟨rfl, rfl⟩) (by simp only [maxL]; (simp only [List.length_nil, List.length_cons, List.length_append, Nat.zero_add, List.length_map]; omega)) (fun _ => rfl) ?_
      intro g34
      (refine x_assign_own rfl rfl (by (simp; done)) rfl (fun _ => (slot_obj (by exact noRef_map fun _ => rfl))) (fun _ => rfl) ?_; intro g2)
      refine xr_nil ⟨nofun, [(.t 2, _), (.h 0, _), (.h 2, _)], ⟨rfl, rfl, rfl, rfl, rfl, rfl, trivial⟩, ?_⟩
      refine xa_ret ?_
      refine ⟨_, _, ?_, ret_own rfl rfl (by (simp; done)) (by exact noRef_map fun _ => rfl) (outs_one rfl rfl)⟩
      exact ⟨_, _, rfl, rfl, by omega, by omega, by (simp only [List.length_append, List.length_singleton]; omega)⟩
    · try simp only [decide_eq_true_eq, decide_eq_false_iff_not, Bool.not_eq_true', Bool.not_eq_false', bne_iff_ne, beq_iff_eq, ne_eq, Bool.not_true, Bool.not_false, beq_eq_false_iff_ne, bne_eq_false_iff_eq, Decidable.not_not, Int.not_lt, Int.not_le, Bool.and_eq_true, Bool.and_eq_false_iff, Bool.or_eq_true, Bool.or_eq_false_iff, List.length_map] at hc
      refine xa_skip ?_
      refine xa_seq ?_
      refine xa_region ?_
      refine x_move rfl rfl ?_
      (refine x_assign_own rfl rfl (by (simp; done)) rfl (fun _ => (slot_obj (by exact noRef_map fun _ => rfl))) (fun _ => rfl) ?_; intro g2)
      refine xr_nil ⟨nofun, [(.t 2, _), (.h 0, _), (.h 2, _)], ⟨rfl, rfl, rfl, rfl, rfl, rfl, trivial⟩, ?_⟩
      refine xa_ret ?_
      refine ⟨_, _, ?_, ret_own rfl rfl (by (simp; done)) (by exact noRef_map fun _ => rfl) (outs_one rfl rfl)⟩
      exact ⟨_, _, rfl, rfl, by omega, by omega, by omega⟩

theorem keep_s_isNaN : keepOf Try.f76 = [0, 2] := by kernel_rfl
set_option maxHeartbeats 20000000 in
theorem s_isNaN (x : Int) : CW cxT 76 [iV x] = some (bV false, []) := by
  refine fn_intro rfl Try.func76 rfl ⟨by kernel_rfl, rfl, of_decide_eq_true rfl, of_decide_eq_true rfl, by decide⟩ keep_s_isNaN ?_
  refine xa_seq ?_
  refine xa_region ?_
  refine x_assign rfl rfl rfl ?_
  refine xr_nil ⟨nofun, [(.t 0, _)], ⟨rfl, rfl, trivial⟩, ?_⟩
  refine xa_seq ?_
  refine xa_region ?_
  refine x_move rfl rfl ?_
  refine x_move rfl rfl ?_
  refine x_neq rfl rfl ?_
  refine x_assign rfl rfl rfl ?_
  refine xr_nil ⟨nofun, [(.t 2, _)], ⟨rfl, rfl, trivial⟩, ?_⟩
  refine xa_ret ?_
  refine ret_val' rfl rfl trivial ?_
  simp

theorem keep_s_Compare : keepOf Try.f65 = [0, 1, 4, 5, 11, 6, 12, 13, 16, 19] := by kernel_rfl
set_option maxHeartbeats 20000000 in
theorem s_Compare (x y : Int) : CW cxT 65 [iV x, iV y] = some (iV (cmpC x y), []) := by
  refine fn_intro rfl Try.func65 rfl ⟨by kernel_rfl, rfl, of_decide_eq_true rfl, of_decide_eq_true rfl, by decide⟩ keep_s_Compare ?_
  refine xa_seq ?_
  refine xa_region ?_
  refine x_assign rfl rfl rfl ?_
  refine xr_nil ⟨nofun, [(.t 0, _), (.t 1, _)], ⟨rfl, rfl, rfl, rfl, trivial⟩, ?_⟩
  refine xa_seq ?_
  refine xa_region ?_
  refine x_move rfl rfl ?_
  apply x_call rfl
  · apply pa_cons
    · exact pa_plain rfl
    exact pa_nil
  · exact s_isNaN x
  · exact ⟨rfl, rfl, rfl, of_decide_eq_true rfl, rfl⟩
  · exact .inl rfl
  · exact back_nil
  · exact inst_plain rfl
  · exact fun _ => rfl
  intro g8
  refine x_assign rfl rfl rfl ?_
  refine xr_nil ⟨nofun, [(.t 0, _), (.t 1, _), (.t 5, _)], ⟨rfl, rfl, rfl, rfl, rfl, rfl, trivial⟩, ?_⟩
  refine xa_seq ?_
  refine xa_region ?_
  refine x_move rfl rfl ?_
  apply x_call rfl
  · apply pa_cons
    · exact pa_plain rfl
    exact pa_nil
  · exact s_isNaN y
  · exact ⟨rfl, rfl, rfl, of_decide_eq_true rfl, rfl⟩
  · exact .inl rfl
  · exact back_nil
  · exact inst_plain rfl
  · exact fun _ => rfl
  intro g10
  refine x_assign rfl rfl rfl ?_
  refine xr_nil ⟨nofun, [(.t 0, _), (.t 1, _), (.t 5, _), (.t 6, _)], ⟨rfl, rfl, rfl, rfl, rfl, rfl, rfl, rfl, trivial⟩, ?_⟩
  refine xa_seq ?_
  refine xa_seq ?_
  refine xa_region ?_
  refine x_move rfl rfl ?_
  refine xr_nil ⟨nofun, [(.t 0, _), (.t 1, _), (.t 6, _), (.t 11, _)], ⟨rfl, rfl, rfl, rfl, rfl, rfl, rfl, rfl, trivial⟩, ?_⟩
  refine xa_cond rfl (fun hc => absurd hc (by decide)) (fun hc => ?_)
  refine xa_skip ?_
  refine xa_seq ?_
  refine xa_seq ?_
  refine xa_region ?_
  refine x_move rfl rfl ?_
  refine xr_nil ⟨nofun, [(.t 0, _), (.t 1, _), (.t 13, _)], ⟨rfl, rfl, rfl, rfl, rfl, rfl, trivial⟩, ?_⟩
  refine xa_cond rfl (fun hc => absurd hc (by decide)) (fun hc => ?_)
  refine xa_skip ?_
  refine xa_seq ?_
  refine xa_seq ?_
  refine xa_region ?_
  refine x_move rfl rfl ?_
  refine x_move rfl rfl ?_
  refine x_lss rfl rfl ?_
  refine xr_nil ⟨nofun, [(.t 0, _), (.t 1, _), (.t 16, _)], ⟨rfl, rfl, rfl, rfl, rfl, rfl, trivial⟩, ?_⟩
  refine xa_cond rfl (fun hc => ?_) (fun hc => ?_)
  · try simp only [decide_eq_true_eq, decide_eq_false_iff_not, Bool.not_eq_true', Bool.not_eq_false', bne_iff_ne, beq_iff_eq, ne_eq, Bool.not_true, Bool.not_false, beq_eq_false_iff_ne, bne_eq_false_iff_eq, Decidable.not_not, Int.not_lt, Int.not_le, Bool.and_eq_true, Bool.and_eq_false_iff, Bool.or_eq_true, Bool.or_eq_false_iff, List.length_map] at hc
    refine xa_seq ?_
    refine xa_region ?_
    refine x_assign rfl rfl rfl ?_
    refine xr_nil ⟨nofun, [(.t 4, _)], ⟨rfl, rfl, trivial⟩, ?_⟩
    refine xa_ret ?_
    refine ret_val' rfl rfl trivial ?_
    unfold cmpC; rw [if_pos hc]; rfl
  · try simp only [decide_eq_true_eq, decide_eq_false_iff_not, Bool.not_eq_true', Bool.not_eq_false', bne_iff_ne, beq_iff_eq, ne_eq, Bool.not_true, Bool.not_false, beq_eq_false_iff_ne, bne_eq_false_iff_eq, Decidable.not_not, Int.not_lt, Int.not_le, Bool.and_eq_true, Bool.and_eq_false_iff, Bool.or_eq_true, Bool.or_eq_false_iff, List.length_map] at hc
    refine xa_skip ?_
    refine xa_seq ?_
    refine xa_seq ?_
    refine xa_region ?_
    refine x_move rfl rfl ?_
    refine x_move rfl rfl ?_
    refine x_gtr rfl rfl ?_
    refine xr_nil ⟨nofun, [(.t 19, _)], ⟨rfl, rfl, trivial⟩, ?_⟩
    refine xa_cond rfl (fun hc => ?_) (fun hc => ?_)
    · try simp only [decide_eq_true_eq, decide_eq_false_iff_not, Bool.not_eq_true', Bool.not_eq_false', bne_iff_ne, beq_iff_eq, ne_eq, Bool.not_true, Bool.not_false, beq_eq_false_iff_ne, bne_eq_false_iff_eq, Decidable.not_not, Int.not_lt, Int.not_le, Bool.and_eq_true, Bool.and_eq_false_iff, Bool.or_eq_true, Bool.or_eq_false_iff, List.length_map] at hc
      refine xa_seq ?_
      refine xa_region ?_
      refine x_assign rfl rfl rfl ?_
      refine xr_nil ⟨nofun, [(.t 4, _)], ⟨rfl, rfl, trivial⟩, ?_⟩
      refine xa_ret ?_
      refine ret_val' rfl rfl trivial ?_
      unfold cmpC; rw [if_neg (by omega), if_pos hc]; rfl
    · try simp only [decide_eq_true_eq, decide_eq_false_iff_not, Bool.not_eq_true', Bool.not_eq_false', bne_iff_ne, beq_iff_eq, ne_eq, Bool.not_true, Bool.not_false, beq_eq_false_iff_ne, bne_eq_false_iff_eq, Decidable.not_not, Int.not_lt, Int.not_le, Bool.and_eq_true, Bool.and_eq_false_iff, Bool.or_eq_true, Bool.or_eq_false_iff, List.length_map] at hc
      refine xa_skip ?_
      refine xa_seq ?_
      refine xa_region ?_
      refine x_assign rfl rfl rfl ?_
      refine xr_nil ⟨nofun, [(.t 4, _)], ⟨rfl, rfl, trivial⟩, ?_⟩
      refine xa_ret ?_
      refine ret_val' rfl rfl trivial ?_
      unfold cmpC; rw [if_neg (by omega), if_neg (by omega)]; rfl

theorem keep_s_bySize1 : keepOf Try.f64 = [0, 1, 2, 5] := by kernel_rfl
set_option maxHeartbeats 20000000 in
theorem s_bySize1 (l : List Int) (hl : l.length ≤ 1000) (a b : Nat) (ha : a < l.length) (hb : b < l.length) : CW cxT 64 [nV a, nV b, .ipt (L l) 0] = some (iV (cmpC (l.getD a default) (l.getD b default)), []) := by
  refine fn_intro rfl Try.func64 rfl ⟨by kernel_rfl, rfl, of_decide_eq_true rfl, of_decide_eq_true rfl, by decide⟩ keep_s_bySize1 ?_
  refine xa_seq ?_
  refine xa_region ?_
  refine x_assign rfl rfl rfl ?_
  refine xr_nil ⟨nofun, [(.t 0, _), (.t 1, _), (.t 2, _)], ⟨rfl, rfl, rfl, rfl, rfl, rfl, trivial⟩, ?_⟩
  refine xa_seq ?_
  refine xa_region ?_
  refine x_load_iptV rfl rfl rfl ?_
  refine x_move rfl rfl ?_
  refine x_index_listN rfl rfl rfl (fun _ => rfl) (by omega) ?_
  refine x_load_iptV rfl rfl rfl ?_
  refine x_load_iptV rfl rfl rfl ?_
  refine x_move rfl rfl ?_
  refine x_index_listN rfl rfl rfl (fun _ => rfl) (by omega) ?_
  refine x_load_iptV rfl rfl rfl ?_
  apply x_call rfl
  · apply pa_cons
    · exact pa_plain rfl
    apply pa_cons
    · exact pa_plain rfl
    exact pa_nil
  · exact s_Compare _ _
  · exact ⟨rfl, rfl, rfl, of_decide_eq_true rfl, rfl⟩
  · exact .inl rfl
  · exact back_nil
  · exact inst_plain rfl
  · exact fun _ => rfl
  intro g14
  refine x_assign rfl rfl rfl ?_
  refine xr_nil ⟨fun _ => ⟨by (simp only [wmap, List.nil_append, List.append_nil, List.map_cons, List.map_nil, List.cons_append]; decide +kernel), by decide +kernel⟩, [(.t 5, _)], ⟨rfl, rfl, trivial⟩, ?_⟩
  refine xa_ret ?_
  refine ret_val' rfl rfl trivial ?_
  rfl

theorem keep_s_insSort : keepOf Try.f90 = [0, 1, 2, 3, 8, 14, 9, 34] := by kernel_rfl
set_option maxHeartbeats 20000000 in
theorem s_insSort (l : List Int) (hl : l.length ≤ 6) (hp : 1 ≤ l.length) (d1 : List Nat) (hd : Ord l 1 d1) : ∃ res outs, (fun res outs => ∃ d : List Nat, res = .tup [] ∧ outs = [d.map nV] ∧ Ord l l.length d) res outs ∧ CW cxT 90 [.own 1 (d1.map nV), iV 0, iV l.length, .clo 64 [.ipt (L l) 0]] = some (res, outs) := by
  have hd1l := hd.1
  refine fn_introP rfl Try.func90 rfl ⟨by kernel_rfl, rfl, of_decide_eq_true rfl, of_decide_eq_true rfl, by decide⟩ keep_s_insSort ?_
  refine xa_seq ?_
  refine xa_region ?_
  refine x_move rfl rfl ?_
  refine x_add rfl rfl (inI64 (by omega)) ?_
  refine x_assign rfl rfl rfl ?_
  refine xr_nil ⟨nofun, [(.t 0, _), (.t 1, _), (.t 2, _), (.t 3, _), (.t 8, _), (.h 0, _)], ⟨rfl, rfl, rfl, rfl, rfl, rfl, rfl, rfl, rfl, rfl, rfl, rfl, trivial⟩, ?_⟩
  refine xa_block ?_
  refine xa_loopK (β := Nat × List Nat) [(.t 0, _), (.t 1, _), (.t 2, _), (.t 3, _)] (fun (z : Nat × List Nat) => match z with | (i, d0) => [(.t 8, iV i), (.h 0, .obj 1 1 1 (d0.map nV))]) (fun (z : Nat × List Nat) => match z with | (i, d0) => 1 ≤ i ∧ Ord l i d0) (fun (z : Nat × List Nat) => match z with | (i, d0) => l.length - i) (1, d1) ⟨rfl, rfl, rfl, rfl, rfl, rfl, trivial⟩ ⟨Nat.le_refl _, hd⟩ ?_
  intro z hb
  obtain ⟨i, d0⟩ := z
  try dsimp only at hb
  obtain ⟨hi1, ho⟩ := hb
  have hol := ho.1
  have hil := ho.2.1
  refine xa_seq ?_
  refine xa_seq ?_
  refine xa_region ?_
  refine x_move rfl rfl ?_
  refine x_move rfl rfl ?_
  refine x_lss rfl rfl ?_
  refine xr_nil ⟨nofun, [(.t 0, _), (.t 1, _), (.t 2, _), (.t 3, _), (.t 8, _), (.t 14, _), (.h 0, _)], ⟨rfl, rfl, rfl, rfl, rfl, rfl, rfl, rfl, rfl, rfl, rfl, rfl, rfl, rfl, trivial⟩, ?_⟩
  refine xa_cond rfl (fun hc => ?_) (fun hc => ?_)
  · try simp only [decide_eq_true_eq, decide_eq_false_iff_not, Bool.not_eq_true', Bool.not_eq_false', bne_iff_ne, beq_iff_eq, ne_eq, Bool.not_true, Bool.not_false, beq_eq_false_iff_ne, bne_eq_false_iff_eq, Decidable.not_not, Int.not_lt, Int.not_le, Bool.and_eq_true, Bool.and_eq_false_iff, Bool.or_eq_true, Bool.or_eq_false_iff, List.length_map] at hc
    refine xa_skip ?_
    refine xa_seq ?_
    refine xa_block ?_
    refine xa_seq ?_
    refine xa_region ?_
    refine x_move rfl rfl ?_
    try rw [show ((j : Int) - 1) = ((j - 1 : Nat) : Int) from by omega]
    refine x_assign rfl rfl rfl ?_
    refine xr_nil ⟨nofun, [(.t 0, _), (.t 1, _), (.t 2, _), (.t 3, _), (.t 8, _), (.t 9, _), (.h 0, _)], ⟨rfl, rfl, rfl, rfl, rfl, rfl, rfl, rfl, rfl, rfl, rfl, rfl, rfl, rfl, trivial⟩, ?_⟩
    refine xa_block ?_
    refine xa_loopK (β := Nat × List Nat) [(.t 0, _), (.t 1, _), (.t 2, _), (.t 3, _), (.t 8, _)] (fun (z : Nat × List Nat) => match z with | (j, d) => [(.t 9, iV j), (.h 0, .obj 1 1 1 (d.map nV))]) (fun (z : Nat × List Nat) => match z with | (j, d) => OrdIn l i d0 j d) (fun (z : Nat × List Nat) => match z with | (j, d) => j) (i, d0) ⟨rfl, rfl, rfl, rfl, rfl, rfl, rfl, trivial⟩ (OrdIn.start ho (by omega)) ?_
    intro z hb
    obtain ⟨j, d⟩ := z
    try dsimp only at hb
    have hin := hb
    have hj1 := hin.1
    have hdl := hin.2.1
    refine xa_seq ?_
    refine xa_seq ?_
    refine xa_region ?_
    refine x_move rfl rfl ?_
    refine x_move rfl rfl ?_
    refine x_gtr rfl rfl ?_
    refine x_move rfl rfl ?_
    refine x_guard_split rfl rfl (fun hg0 => ?_) (fun hg0 => ?_)
    · have hg := hg0; try simp only [decide_eq_true_eq, decide_eq_false_iff_not, Bool.not_eq_true', Bool.not_eq_false', bne_iff_ne, beq_iff_eq, ne_eq, Bool.not_true, Bool.not_false, beq_eq_false_iff_ne, bne_eq_false_iff_eq, Decidable.not_not, Int.not_lt, Int.not_le, Bool.and_eq_true, Bool.and_eq_false_iff, Bool.or_eq_true, Bool.or_eq_false_iff] at hg
      refine x_move rfl rfl ?_
      refine x_guard_t rfl rfl (by assumption) ?_
      refine x_move rfl rfl ?_
      refine x_guard_t rfl rfl (by assumption) ?_
      refine x_move rfl rfl ?_
      refine x_guard_t rfl rfl (by assumption) ?_
      refine x_index_slN rfl rfl rfl rfl (by (simp; omega)) (by (simp; omega)) rfl ?_
      refine x_guard_t rfl rfl (by assumption) ?_
      refine x_load_mapV rfl rfl (by omega) (fun _ => rfl) (fun _ => rfl) rfl ?_
      refine x_guard_t rfl rfl (by assumption) ?_
      refine x_move rfl rfl ?_
      refine x_guard_t rfl rfl (by assumption) ?_
      refine x_move rfl rfl ?_
      refine x_guard_t rfl rfl (by assumption) ?_
      refine x_sub rfl rfl (inI64 (by omega)) ?_
      refine x_guard_t rfl rfl (by assumption) ?_
      have hj0 : 0 < j := by omega
      rw [show ((j : Int) - 1) = ((j - 1 : Nat) : Int) from by omega]
      refine x_index_slN rfl rfl rfl rfl (by (simp; omega)) (by (simp; omega)) rfl ?_
      refine x_guard_t rfl rfl (by assumption) ?_
      refine x_load_mapV rfl rfl (by omega) (fun _ => rfl) (fun _ => rfl) rfl ?_
      refine x_guard_t rfl rfl (by assumption) ?_
      have hv1 := hin.lt ho (by omega) (x := j) (by omega)
      have hv2 := hin.lt ho (by omega) (x := j - 1) (by omega)
      apply x_callV rfl rfl
      · apply pa_cons
        · exact pa_plain rfl
        apply pa_cons
        · exact pa_plain rfl
        apply pa_cons
        · exact pa_plain rfl
        exact pa_nil
      · exact s_bySize1 l (by omega) (d.getD j default) (d.getD (j - 1) default) hv1 hv2
      · exact ⟨rfl, rfl, rfl, of_decide_eq_true rfl, rfl⟩
      · exact .inl rfl
      · exact back_nil
      · exact inst_plain rfl
      · exact fun _ => rfl
      intro g32
      refine x_guard_t rfl rfl (by assumption) ?_
      have hcb := cmpC_bd (l.getD (d.getD j default) default) (l.getD (d.getD (j - 1) default) default)
      refine x_lss rfl rfl ?_
      refine x_pick_t rfl (by assumption) rfl rfl ?_
      refine xr_nil ⟨fun _ => ⟨by (simp only [wmap, List.nil_append, List.append_nil, List.map_cons, List.map_nil, List.cons_append]; decide +kernel), by decide +kernel⟩, [(.t 0, _), (.t 1, _), (.t 2, _), (.t 3, _), (.t 8, _), (.t 9, _), (.t 34, _), (.h 0, _)], ⟨rfl, rfl, rfl, rfl, rfl, rfl, rfl, rfl, rfl, rfl, rfl, rfl, rfl, rfl, rfl, rfl, trivial⟩, ?_⟩
      refine xa_cond rfl (fun hc => ?_) (fun hc => ?_)
      · try simp only [decide_eq_true_eq, decide_eq_false_iff_not, Bool.not_eq_true', Bool.not_eq_false', bne_iff_ne, beq_iff_eq, ne_eq, Bool.not_true, Bool.not_false, beq_eq_false_iff_ne, bne_eq_false_iff_eq, Decidable.not_not, Int.not_lt, Int.not_le, Bool.and_eq_true, Bool.and_eq_false_iff, Bool.or_eq_true, Bool.or_eq_false_iff, List.length_map] at hc
        refine xa_skip ?_
        refine xa_seq ?_
        refine xa_block ?_
        refine xa_region ?_
        refine x_move rfl rfl ?_
        refine x_move rfl rfl ?_
        refine x_move rfl rfl ?_
        refine x_move rfl rfl ?_
        refine x_sub rfl rfl (inI64 (by omega)) ?_
        refine x_move rfl rfl ?_
        refine x_move rfl rfl ?_
        refine x_sub rfl rfl (inI64 (by omega)) ?_
        rw [show ((j : Int) - 1) = ((j - 1 : Nat) : Int) from by omega]
        refine x_index_slN rfl rfl rfl rfl (by (simp; omega)) (by (simp; omega)) rfl ?_
        refine x_load_mapV rfl rfl (by omega) (fun _ => rfl) (fun _ => rfl) rfl ?_
        refine x_move rfl rfl ?_
        refine x_move rfl rfl ?_
        refine x_index_slN rfl rfl rfl rfl (by (simp; omega)) (by (simp; omega)) rfl ?_
        refine x_load_mapV rfl rfl (by omega) (fun _ => rfl) (fun _ => rfl) rfl ?_
        refine x_index_slN rfl rfl rfl rfl (by (simp; omega)) (by (simp; omega)) rfl ?_
        refine x_store_mapO rfl rfl rfl (by omega) (fun _ _ => ⟨rfl, rfl, of_decide_eq_true rfl, of_decide_eq_true rfl, rfl, rfl⟩) (by decide) (by exact slot_obj1 (noRef_map fun _ => rfl)) ?_
        refine x_index_slN rfl rfl rfl rfl (by (simp; omega)) (by (simp; omega)) rfl ?_
        refine x_store_mapO rfl rfl rfl (by (simp; omega)) (fun _ _ => ⟨rfl, rfl, of_decide_eq_true rfl, of_decide_eq_true rfl, rfl, rfl⟩) (by decide) (by exact slot_obj1 (noRef_map fun _ => rfl)) ?_
        refine xr_nil ⟨fun _ => ⟨by decide +kernel, by decide +kernel⟩, [(.t 0, _), (.t 1, _), (.t 2, _), (.t 3, _), (.t 8, _), (.t 9, _), (.h 0, _)], ⟨rfl, rfl, rfl, rfl, rfl, rfl, rfl, rfl, rfl, rfl, rfl, rfl, rfl, rfl, trivial⟩, ?_⟩
        refine xa_region ?_
        refine x_move rfl rfl ?_
        refine x_sub rfl rfl (inI64 (by omega)) ?_
        try rw [show ((j : Int) - 1) = ((j - 1 : Nat) : Int) from by omega]
        refine x_assign rfl rfl rfl ?_
        refine xr_nil ⟨nofun, [(.t 0, _), (.t 1, _), (.t 2, _), (.t 3, _), (.t 8, _), (.t 9, _), (.h 0, _)], ⟨rfl, rfl, rfl, rfl, rfl, rfl, rfl, rfl, rfl, rfl, rfl, rfl, rfl, rfl, trivial⟩, ?_⟩
        refine ⟨(j - 1, _), ?_, (by simp only; omega), ⟨rfl, rfl, rfl, rfl, rfl, rfl, rfl, trivial⟩⟩
        exact hin.step (by omega) hj0 (cmpC_neg.1 (by omega))
      · try simp only [decide_eq_true_eq, decide_eq_false_iff_not, Bool.not_eq_true', Bool.not_eq_false', bne_iff_ne, beq_iff_eq, ne_eq, Bool.not_true, Bool.not_false, beq_eq_false_iff_ne, bne_eq_false_iff_eq, Decidable.not_not, Int.not_lt, Int.not_le, Bool.and_eq_true, Bool.and_eq_false_iff, Bool.or_eq_true, Bool.or_eq_false_iff, List.length_map] at hc
        refine xa_exit ?_
        refine xa_region ?_
        refine x_move rfl rfl ?_
        refine x_add rfl rfl (inI64 (by omega)) ?_
        refine x_assign rfl rfl rfl ?_
        refine xr_nil ⟨nofun, [(.t 0, _), (.t 1, _), (.t 2, _), (.t 3, _), (.t 8, _), (.h 0, _)], ⟨rfl, rfl, rfl, rfl, rfl, rfl, rfl, rfl, rfl, rfl, rfl, rfl, trivial⟩, ?_⟩
        first
          | (refine ⟨(i + 1, d), ⟨by omega, hin.fin ho (by omega) (.inr fun h => by rw [← cmpC_neg] at h; omega)⟩, by simp only; omega, ⟨rfl, rfl, rfl, rfl, rfl, rfl, trivial⟩⟩)
          | (refine ⟨(i + 1, d), ⟨by omega, hin.fin ho (by omega) (.inl (by omega))⟩, by simp only; omega, ⟨rfl, rfl, rfl, rfl, rfl, rfl, trivial⟩⟩)
    · have hg := hg0; try simp only [decide_eq_true_eq, decide_eq_false_iff_not, Bool.not_eq_true', Bool.not_eq_false', bne_iff_ne, beq_iff_eq, ne_eq, Bool.not_true, Bool.not_false, beq_eq_false_iff_ne, bne_eq_false_iff_eq, Decidable.not_not, Int.not_lt, Int.not_le, Bool.and_eq_true, Bool.and_eq_false_iff, Bool.or_eq_true, Bool.or_eq_false_iff] at hg
      refine x_guard_f rfl rfl (by assumption) ?_
      refine x_guard_f rfl rfl (by assumption) ?_
      refine x_guard_f rfl rfl (by assumption) ?_
      refine x_guard_f rfl rfl (by assumption) ?_
      refine x_guard_f rfl rfl (by assumption) ?_
      refine x_guard_f rfl rfl (by assumption) ?_
      refine x_guard_f rfl rfl (by assumption) ?_
      refine x_guard_f rfl rfl (by assumption) ?_
      refine x_guard_f rfl rfl (by assumption) ?_
      refine x_guard_f rfl rfl (by assumption) ?_
      refine x_guard_f rfl rfl (by assumption) ?_
      refine x_pick_f rfl (by assumption) rfl rfl ?_
      refine xr_nil ⟨fun _ => ⟨by decide +kernel, by decide +kernel⟩, [(.t 0, _), (.t 1, _), (.t 2, _), (.t 3, _), (.t 8, _), (.t 9, _), (.t 34, _), (.h 0, _)], ⟨rfl, rfl, rfl, rfl, rfl, rfl, rfl, rfl, rfl, rfl, rfl, rfl, rfl, rfl, rfl, rfl, trivial⟩, ?_⟩
      refine xa_cond rfl (fun hc => absurd hc (by decide)) (fun hc => ?_)
      refine xa_exit ?_
      refine xa_region ?_
      refine x_move rfl rfl ?_
      refine x_add rfl rfl (inI64 (by omega)) ?_
      refine x_assign rfl rfl rfl ?_
      refine xr_nil ⟨nofun, [(.t 0, _), (.t 1, _), (.t 2, _), (.t 3, _), (.t 8, _), (.h 0, _)], ⟨rfl, rfl, rfl, rfl, rfl, rfl, rfl, rfl, rfl, rfl, rfl, rfl, trivial⟩, ?_⟩
      first
        | (refine ⟨(i + 1, d), ⟨by omega, hin.fin ho (by omega) (.inr fun h => by rw [← cmpC_neg] at h; omega)⟩, by simp only; omega, ⟨rfl, rfl, rfl, rfl, rfl, rfl, trivial⟩⟩)
        | (refine ⟨(i + 1, d), ⟨by omega, hin.fin ho (by omega) (.inl (by omega))⟩, by simp only; omega, ⟨rfl, rfl, rfl, rfl, rfl, rfl, trivial⟩⟩)
  · try simp only [decide_eq_true_eq, decide_eq_false_iff_not, Bool.not_eq_true', Bool.not_eq_false', bne_iff_ne, beq_iff_eq, ne_eq, Bool.not_true, Bool.not_false, beq_eq_false_iff_ne, bne_eq_false_iff_eq, Decidable.not_not, Int.not_lt, Int.not_le, Bool.and_eq_true, Bool.and_eq_false_iff, Bool.or_eq_true, Bool.or_eq_false_iff, List.length_map] at hc
    refine xa_exit ?_
    refine ⟨_, _, ?_, ret_none (outs_one rfl (imm_map fun _ => rfl))⟩
    exact ⟨d0, rfl, rfl, (show i = l.length by omega) ▸ ho⟩

theorem keep_s_places : keepOf Try.f66 = [0, 2, 4, 11, 6, 17, 44, 5, 3] := by kernel_rfl
set_option maxHeartbeats 20000000 in
theorem s_places (l : List Int) (hl : l.length ≤ 1000) : CW cxT 66 [L l] = some (.own 1 ((plU l l.length).map nV), []) := by
  refine fn_intro rfl Try.func66 rfl ⟨by kernel_rfl, rfl, of_decide_eq_true rfl, of_decide_eq_true rfl, by decide⟩ keep_s_places ?_
  refine xa_seq ?_
  refine xa_region ?_
  (refine x_assign_nil rfl rfl (fun _ => rfl) ?_; intro g2)
  refine xr_nil ⟨nofun, [(.t 0, _)], ⟨rfl, rfl, trivial⟩, ?_⟩
  refine xa_seq ?_
  refine xa_region ?_
  refine x_buildSlice (es := List.map nV []) rfl rfl (by decide) rfl rfl (fun _ => slot_obj (noRef_map fun _ => rfl)) (fun _ => rfl) ?_
  intro g7
  (refine x_assign_own rfl rfl (by (simp; done)) rfl (fun _ => (slot_obj (by exact noRef_map fun _ => rfl))) (fun _ => rfl) ?_; intro g3)
  refine xr_nil ⟨nofun, [(.t 0, _), (.t 3, _), (.h 3, _)], ⟨rfl, rfl, rfl, rfl, rfl, rfl, trivial⟩, ?_⟩
  refine xa_seq ?_
  refine xa_seq ?_
  refine xa_region ?_
  refine x_assign rfl rfl rfl ?_
  refine xr_nil ⟨nofun, [(.t 0, _), (.t 3, _), (.t 4, _), (.h 3, _)], ⟨rfl, rfl, rfl, rfl, rfl, rfl, rfl, rfl, trivial⟩, ?_⟩
  refine xa_block ?_
  refine xa_loopK (β := Nat × List Nat × Nat) [(.t 0, _)] (fun (z : Nat × List Nat × Nat) => match z with | (i, xs, g) => [(.t 4, iV i), (.t 3, .sl 3 g none 0 xs.length), (.h 3, .obj g 0 1 (xs.map nV))]) (fun (z : Nat × List Nat × Nat) => match z with | (i, xs, g) => i ≤ l.length ∧ xs = plU l i) (fun (z : Nat × List Nat × Nat) => match z with | (i, xs, g) => l.length - i) (0, [], _) ⟨rfl, rfl, rfl, rfl, trivial⟩ ⟨Nat.zero_le _, rfl⟩ ?_
  intro z hb
  obtain ⟨i, xs, g⟩ := z
  try dsimp only at hb
  obtain ⟨hi1, hxs⟩ := hb
  have hxl : xs.length = i := by rw [hxs]; simp
  refine xa_seq ?_
  refine xa_seq ?_
  refine xa_region ?_
  refine x_move rfl rfl ?_
  refine x_move rfl rfl ?_
  refine x_len_map rfl rfl ?_
  refine x_lss rfl rfl ?_
  refine xr_nil ⟨nofun, [(.t 0, _), (.t 3, _), (.t 4, _), (.t 11, _), (.h 3, _)], ⟨rfl, rfl, rfl, rfl, rfl, rfl, rfl, rfl, rfl, rfl, trivial⟩, ?_⟩
  refine xa_cond rfl (fun hc => ?_) (fun hc => ?_)
  · try simp only [decide_eq_true_eq, decide_eq_false_iff_not, Bool.not_eq_true', Bool.not_eq_false', bne_iff_ne, beq_iff_eq, ne_eq, Bool.not_true, Bool.not_false, beq_eq_false_iff_ne, bne_eq_false_iff_eq, Decidable.not_not, Int.not_lt, Int.not_le, Bool.and_eq_true, Bool.and_eq_false_iff, Bool.or_eq_true, Bool.or_eq_false_iff, List.length_map] at hc
    refine xa_skip ?_
    refine xa_seq ?_
    refine xa_block ?_
    refine xa_seq ?_
    refine xa_region ?_
    refine x_assign rfl rfl rfl ?_
    refine xr_nil ⟨nofun, [(.t 0, _), (.t 3, _), (.t 4, _), (.t 5, _), (.h 3, _)], ⟨rfl, rfl, rfl, rfl, rfl, rfl, rfl, rfl, rfl, rfl, trivial⟩, ?_⟩
    refine xa_seq ?_
    refine xa_seq ?_
    refine xa_region ?_
    refine x_assign rfl rfl rfl ?_
    refine xr_nil ⟨nofun, [(.t 0, _), (.t 3, _), (.t 4, _), (.t 5, _), (.t 6, _), (.h 3, _)], ⟨rfl, rfl, rfl, rfl, rfl, rfl, rfl, rfl, rfl, rfl, rfl, rfl, trivial⟩, ?_⟩
    refine xa_block ?_
    refine xa_loopK (β := Nat) [(.t 0, _), (.t 3, _), (.t 4, _), (.h 3, _)] (fun (k : Nat) => [(.t 6, iV k), (.t 5, iV (pl l i k))]) (fun (k : Nat) => k ≤ l.length) (fun (k : Nat) => l.length - k) 0 ⟨rfl, rfl, rfl, rfl, rfl, rfl, trivial⟩ (Nat.zero_le _) ?_
    intro k hb
    have hpl := pl_le l i k
    refine xa_seq ?_
    refine xa_seq ?_
    refine xa_region ?_
    refine x_move rfl rfl ?_
    refine x_move rfl rfl ?_
    refine x_len_map rfl rfl ?_
    refine x_lss rfl rfl ?_
    refine xr_nil ⟨nofun, [(.t 0, _), (.t 3, _), (.t 4, _), (.t 5, _), (.t 6, _), (.t 17, _), (.h 3, _)], ⟨rfl, rfl, rfl, rfl, rfl, rfl, rfl, rfl, rfl, rfl, rfl, rfl, rfl, rfl, trivial⟩, ?_⟩
    refine xa_cond rfl (fun hc => ?_) (fun hc => ?_)
    · try simp only [decide_eq_true_eq, decide_eq_false_iff_not, Bool.not_eq_true', Bool.not_eq_false', bne_iff_ne, beq_iff_eq, ne_eq, Bool.not_true, Bool.not_false, beq_eq_false_iff_ne, bne_eq_false_iff_eq, Decidable.not_not, Int.not_lt, Int.not_le, Bool.and_eq_true, Bool.and_eq_false_iff, Bool.or_eq_true, Bool.or_eq_false_iff, List.length_map] at hc
      refine xa_skip ?_
      refine xa_seq ?_
      refine xa_block ?_
      refine xa_seq ?_
      refine xa_region ?_
      refine x_move rfl rfl ?_
      refine x_move rfl rfl ?_
      refine x_index_listN rfl rfl rfl (fun _ => rfl) (by omega) ?_
      refine x_load_iptV rfl rfl rfl ?_
      refine x_move rfl rfl ?_
      refine x_move rfl rfl ?_
      refine x_index_listN rfl rfl rfl (fun _ => rfl) (by omega) ?_
      refine x_load_iptV rfl rfl rfl ?_
      refine x_lss rfl rfl ?_
      refine x_move rfl rfl ?_
      refine x_guard_split rfl rfl (fun hg0 => ?_) (fun hg0 => ?_)
      · have hg := hg0; try simp only [decide_eq_true_eq, decide_eq_false_iff_not, Bool.not_eq_true', Bool.not_eq_false', bne_iff_ne, beq_iff_eq, ne_eq, Bool.not_true, Bool.not_false, beq_eq_false_iff_ne, bne_eq_false_iff_eq, Decidable.not_not, Int.not_lt, Int.not_le, Bool.and_eq_true, Bool.and_eq_false_iff, Bool.or_eq_true, Bool.or_eq_false_iff] at hg
        refine x_move rfl rfl ?_
        refine x_guard_t rfl rfl (by assumption) ?_
        refine x_move rfl rfl ?_
        refine x_guard_t rfl rfl (by assumption) ?_
        refine x_index_listN rfl rfl rfl (fun _ => rfl) (by omega) ?_
        refine x_guard_t rfl rfl (by assumption) ?_
        refine x_load_iptV rfl rfl rfl ?_
        refine x_guard_t rfl rfl (by assumption) ?_
        refine x_move rfl rfl ?_
        refine x_guard_t rfl rfl (by assumption) ?_
        refine x_move rfl rfl ?_
        refine x_guard_t rfl rfl (by assumption) ?_
        refine x_index_listN rfl rfl rfl (fun _ => rfl) (by omega) ?_
        refine x_guard_t rfl rfl (by assumption) ?_
        refine x_load_iptV rfl rfl rfl ?_
        refine x_guard_t rfl rfl (by assumption) ?_
        refine x_eql rfl rfl ?_
        refine x_guard_t rfl rfl (by assumption) ?_
        refine x_move rfl rfl ?_
        refine x_guard_split rfl rfl (fun hg0 => ?_) (fun hg0 => ?_)
        · have hg := hg0; try simp only [decide_eq_true_eq, decide_eq_false_iff_not, Bool.not_eq_true', Bool.not_eq_false', bne_iff_ne, beq_iff_eq, ne_eq, Bool.not_true, Bool.not_false, beq_eq_false_iff_ne, bne_eq_false_iff_eq, Decidable.not_not, Int.not_lt, Int.not_le, Bool.and_eq_true, Bool.and_eq_false_iff, Bool.or_eq_true, Bool.or_eq_false_iff] at hg
          refine x_move rfl rfl ?_
          refine x_guard_t rfl rfl (by assumption) ?_
          refine x_move rfl rfl ?_
          refine x_guard_t rfl rfl (by assumption) ?_
          refine x_lss rfl rfl ?_
          refine x_guard_t rfl rfl (by assumption) ?_
          refine x_pick_t rfl (by assumption) rfl rfl ?_
          refine x_pick_f rfl (by assumption) rfl rfl ?_
          refine xr_nil ⟨fun _ => ⟨by decide +kernel, by decide +kernel⟩, [(.t 0, _), (.t 3, _), (.t 4, _), (.t 5, _), (.t 6, _), (.t 44, _), (.h 3, _)], ⟨rfl, rfl, rfl, rfl, rfl, rfl, rfl, rfl, rfl, rfl, rfl, rfl, rfl, rfl, trivial⟩, ?_⟩
          refine xa_cond rfl (fun hc => ?_) (fun hc => ?_)
          · try simp only [decide_eq_true_eq, decide_eq_false_iff_not, Bool.not_eq_true', Bool.not_eq_false', bne_iff_ne, beq_iff_eq, ne_eq, Bool.not_true, Bool.not_false, beq_eq_false_iff_ne, bne_eq_false_iff_eq, Decidable.not_not, Int.not_lt, Int.not_le, Bool.and_eq_true, Bool.and_eq_false_iff, Bool.or_eq_true, Bool.or_eq_false_iff, List.length_map] at hc
            refine xa_region ?_
            refine x_move rfl rfl ?_
            refine x_add rfl rfl (inI64 (by omega)) ?_
            refine x_assign rfl rfl rfl ?_
            refine xr_nil ⟨nofun, [(.t 0, _), (.t 3, _), (.t 4, _), (.t 5, _), (.t 6, _), (.h 3, _)], ⟨rfl, rfl, rfl, rfl, rfl, rfl, rfl, rfl, rfl, rfl, rfl, rfl, trivial⟩, ?_⟩
            refine xa_region ?_
            refine x_move rfl rfl ?_
            refine x_add rfl rfl (inI64 (by omega)) ?_
            refine x_assign rfl rfl rfl ?_
            refine xr_nil ⟨nofun, [(.t 0, _), (.t 3, _), (.t 4, _), (.t 5, _), (.t 6, _), (.h 3, _)], ⟨rfl, rfl, rfl, rfl, rfl, rfl, rfl, rfl, rfl, rfl, rfl, rfl, trivial⟩, ?_⟩
            first
              | (have hlt : LTl l k i := (by unfold LTl; omega)
                 refine ⟨k + 1, by omega, by omega, ?_⟩
                 rw [pl_succ, if_pos hlt]
                 exact ⟨rfl, rfl, rfl, rfl, rfl, rfl, trivial⟩)
              | (have hlt : ¬ LTl l k i := (by unfold LTl; omega)
                 refine ⟨k + 1, by omega, by omega, ?_⟩
                 rw [pl_succ, if_neg hlt]
                 exact ⟨rfl, rfl, rfl, rfl, rfl, rfl, trivial⟩)
          · try simp only [decide_eq_true_eq, decide_eq_false_iff_not, Bool.not_eq_true', Bool.not_eq_false', bne_iff_ne, beq_iff_eq, ne_eq, Bool.not_true, Bool.not_false, beq_eq_false_iff_ne, bne_eq_false_iff_eq, Decidable.not_not, Int.not_lt, Int.not_le, Bool.and_eq_true, Bool.and_eq_false_iff, Bool.or_eq_true, Bool.or_eq_false_iff, List.length_map] at hc
            refine xa_skip ?_
            refine xa_region ?_
            refine x_move rfl rfl ?_
            refine x_add rfl rfl (inI64 (by omega)) ?_
            refine x_assign rfl rfl rfl ?_
            refine xr_nil ⟨nofun, [(.t 0, _), (.t 3, _), (.t 4, _), (.t 5, _), (.t 6, _), (.h 3, _)], ⟨rfl, rfl, rfl, rfl, rfl, rfl, rfl, rfl, rfl, rfl, rfl, rfl, trivial⟩, ?_⟩
            first
              | (have hlt : LTl l k i := (by unfold LTl; omega)
                 refine ⟨k + 1, by omega, by omega, ?_⟩
                 rw [pl_succ, if_pos hlt]
                 exact ⟨rfl, rfl, rfl, rfl, rfl, rfl, trivial⟩)
              | (have hlt : ¬ LTl l k i := (by unfold LTl; omega)
                 refine ⟨k + 1, by omega, by omega, ?_⟩
                 rw [pl_succ, if_neg hlt]
                 exact ⟨rfl, rfl, rfl, rfl, rfl, rfl, trivial⟩)
        · have hg := hg0; try simp only [decide_eq_true_eq, decide_eq_false_iff_not, Bool.not_eq_true', Bool.not_eq_false', bne_iff_ne, beq_iff_eq, ne_eq, Bool.not_true, Bool.not_false, beq_eq_false_iff_ne, bne_eq_false_iff_eq, Decidable.not_not, Int.not_lt, Int.not_le, Bool.and_eq_true, Bool.and_eq_false_iff, Bool.or_eq_true, Bool.or_eq_false_iff] at hg
          refine x_guard_f rfl rfl (by assumption) ?_
          refine x_guard_f rfl rfl (by assumption) ?_
          refine x_guard_t rfl rfl (by assumption) ?_
          refine x_pick_f rfl (by assumption) rfl rfl ?_
          refine x_pick_f rfl (by assumption) rfl rfl ?_
          refine xr_nil ⟨fun _ => ⟨by decide +kernel, by decide +kernel⟩, [(.t 0, _), (.t 3, _), (.t 4, _), (.t 5, _), (.t 6, _), (.t 44, _), (.h 3, _)], ⟨rfl, rfl, rfl, rfl, rfl, rfl, rfl, rfl, rfl, rfl, rfl, rfl, rfl, rfl, trivial⟩, ?_⟩
          refine xa_cond rfl (fun hc => absurd hc (by decide)) (fun hc => ?_)
          refine xa_skip ?_
          refine xa_region ?_
          refine x_move rfl rfl ?_
          refine x_add rfl rfl (inI64 (by omega)) ?_
          refine x_assign rfl rfl rfl ?_
          refine xr_nil ⟨nofun, [(.t 0, _), (.t 3, _), (.t 4, _), (.t 5, _), (.t 6, _), (.h 3, _)], ⟨rfl, rfl, rfl, rfl, rfl, rfl, rfl, rfl, rfl, rfl, rfl, rfl, trivial⟩, ?_⟩
          first
            | (have hlt : LTl l k i := (by unfold LTl; omega)
               refine ⟨k + 1, by omega, by omega, ?_⟩
               rw [pl_succ, if_pos hlt]
               exact ⟨rfl, rfl, rfl, rfl, rfl, rfl, trivial⟩)
            | (have hlt : ¬ LTl l k i := (by unfold LTl; omega)
               refine ⟨k + 1, by omega, by omega, ?_⟩
               rw [pl_succ, if_neg hlt]
               exact ⟨rfl, rfl, rfl, rfl, rfl, rfl, trivial⟩)
      · have hg := hg0; try simp only [decide_eq_true_eq, decide_eq_false_iff_not, Bool.not_eq_true', Bool.not_eq_false', bne_iff_ne, beq_iff_eq, ne_eq, Bool.not_true, Bool.not_false, beq_eq_false_iff_ne, bne_eq_false_iff_eq, Decidable.not_not, Int.not_lt, Int.not_le, Bool.and_eq_true, Bool.and_eq_false_iff, Bool.or_eq_true, Bool.or_eq_false_iff] at hg
        refine x_guard_f rfl rfl (by assumption) ?_
        refine x_guard_f rfl rfl (by assumption) ?_
        refine x_guard_f rfl rfl (by assumption) ?_
        refine x_guard_f rfl rfl (by assumption) ?_
        refine x_guard_f rfl rfl (by assumption) ?_
        refine x_guard_f rfl rfl (by assumption) ?_
        refine x_guard_f rfl rfl (by assumption) ?_
        refine x_guard_f rfl rfl (by assumption) ?_
        refine x_guard_f rfl rfl (by assumption) ?_
        refine x_guard_u rfl rfl ?_
        refine x_guard_u rfl rfl ?_
        refine x_guard_u rfl rfl ?_
        refine x_guard_f rfl rfl (by assumption) ?_
        refine x_pick_t rfl (by assumption) rfl rfl ?_
        refine xr_nil ⟨fun _ => ⟨by decide +kernel, by decide +kernel⟩, [(.t 0, _), (.t 3, _), (.t 4, _), (.t 5, _), (.t 6, _), (.t 44, _), (.h 3, _)], ⟨rfl, rfl, rfl, rfl, rfl, rfl, rfl, rfl, rfl, rfl, rfl, rfl, rfl, rfl, trivial⟩, ?_⟩
        refine xa_cond rfl (fun hc => ?_) (fun hc => absurd hc (by decide))
        refine xa_region ?_
        refine x_move rfl rfl ?_
        refine x_add rfl rfl (inI64 (by omega)) ?_
        refine x_assign rfl rfl rfl ?_
        refine xr_nil ⟨nofun, [(.t 0, _), (.t 3, _), (.t 4, _), (.t 5, _), (.t 6, _), (.h 3, _)], ⟨rfl, rfl, rfl, rfl, rfl, rfl, rfl, rfl, rfl, rfl, rfl, rfl, trivial⟩, ?_⟩
        refine xa_region ?_
        refine x_move rfl rfl ?_
        refine x_add rfl rfl (inI64 (by omega)) ?_
        refine x_assign rfl rfl rfl ?_
        refine xr_nil ⟨nofun, [(.t 0, _), (.t 3, _), (.t 4, _), (.t 5, _), (.t 6, _), (.h 3, _)], ⟨rfl, rfl, rfl, rfl, rfl, rfl, rfl, rfl, rfl, rfl, rfl, rfl, trivial⟩, ?_⟩
        first
          | (have hlt : LTl l k i := (by unfold LTl; omega)
             refine ⟨k + 1, by omega, by omega, ?_⟩
             rw [pl_succ, if_pos hlt]
             exact ⟨rfl, rfl, rfl, rfl, rfl, rfl, trivial⟩)
          | (have hlt : ¬ LTl l k i := (by unfold LTl; omega)
             refine ⟨k + 1, by omega, by omega, ?_⟩
             rw [pl_succ, if_neg hlt]
             exact ⟨rfl, rfl, rfl, rfl, rfl, rfl, trivial⟩)
    · try simp only [decide_eq_true_eq, decide_eq_false_iff_not, Bool.not_eq_true', Bool.not_eq_false', bne_iff_ne, beq_iff_eq, ne_eq, Bool.not_true, Bool.not_false, beq_eq_false_iff_ne, bne_eq_false_iff_eq, Decidable.not_not, Int.not_lt, Int.not_le, Bool.and_eq_true, Bool.and_eq_false_iff, Bool.or_eq_true, Bool.or_eq_false_iff, List.length_map] at hc
      refine xa_exit ?_
      refine xa_region ?_
      refine x_move rfl rfl ?_
      refine x_move rfl rfl ?_
      refine x_buildSlice (es := List.map nV [pl l i k]) rfl rfl (by decide) rfl rfl (fun _ => slot_obj (noRef_map fun _ => rfl)) (fun _ => rfl) ?_
      intro g49
      refine x_append_map rfl rfl rfl rfl (by (simp; done)) (by simp) (by decide) rfl rfl rfl rfl (by decide) (fun _ => ⟨rfl, rfl⟩) (by simp only [maxL]; (simp only [List.length_nil, List.length_cons, List.length_append, Nat.zero_add, List.length_map]; omega)) (fun _ => rfl) ?_
      intro g50
      (refine x_assign_own rfl rfl (by (simp; done)) rfl (fun _ => (slot_obj (by exact noRef_map fun _ => rfl))) (fun _ => rfl) ?_; intro g3)
      refine xr_nil ⟨nofun, [(.t 0, _), (.t 3, _), (.t 4, _), (.h 3, _)], ⟨rfl, rfl, rfl, rfl, rfl, rfl, rfl, rfl, trivial⟩, ?_⟩
      refine xa_region ?_
      refine x_move rfl rfl ?_
      refine x_add rfl rfl (inI64 (by omega)) ?_
      refine x_assign rfl rfl rfl ?_
      refine xr_nil ⟨nofun, [(.t 0, _), (.t 3, _), (.t 4, _), (.h 3, _)], ⟨rfl, rfl, rfl, rfl, rfl, rfl, rfl, rfl, trivial⟩, ?_⟩
      refine ⟨(i + 1, xs ++ [pl l i k], _), ⟨by omega, ?_⟩, by simp only; omega, ⟨rfl, rfl, rfl, rfl, trivial⟩⟩
      rw [plU_succ, hxs, at', show k = l.length by omega]
  · try simp only [decide_eq_true_eq, decide_eq_false_iff_not, Bool.not_eq_true', Bool.not_eq_false', bne_iff_ne, beq_iff_eq, ne_eq, Bool.not_true, Bool.not_false, beq_eq_false_iff_ne, bne_eq_false_iff_eq, Decidable.not_not, Int.not_lt, Int.not_le, Bool.and_eq_true, Bool.and_eq_false_iff, Bool.or_eq_true, Bool.or_eq_false_iff, List.length_map] at hc
    refine xa_exit ?_
    refine xa_seq ?_
    refine xa_region ?_
    refine x_move rfl rfl ?_
    (refine x_assign_own rfl rfl (by (simp; done)) rfl (fun _ => (slot_obj (by exact noRef_map fun _ => rfl))) (fun _ => rfl) ?_; intro g2)
    refine xr_nil ⟨nofun, [(.t 2, _), (.h 2, _)], ⟨rfl, rfl, rfl, rfl, trivial⟩, ?_⟩
    refine xa_ret ?_
    refine ret_own' rfl rfl (by simp) (by exact noRef_map fun _ => rfl) trivial ?_
    rw [hxs, show i = l.length by omega]

theorem keep_s_foundAt : keepOf Try.f25 = [0, 1, 4, 15, 18, 17, 19, 16, 7, 25, 6, 5] := by kernel_rfl
set_option maxHeartbeats 20000000 in
theorem s_foundAt (l : List Int) (hl : l.length ≤ 1000) (lev : Int) : CW cxT 25 [L l, iV lev] = some (.own 1 ((foR l lev).map iV), []) := by
  refine fn_intro rfl Try.func25 rfl ⟨by kernel_rfl, rfl, of_decide_eq_true rfl, of_decide_eq_true rfl, by decide⟩ keep_s_foundAt ?_
  refine xa_seq ?_
  refine xa_region ?_
  (refine x_assign_nil rfl rfl (fun _ => rfl) ?_; intro g4)
  refine xr_nil ⟨nofun, [(.t 0, _), (.t 1, _)], ⟨rfl, rfl, rfl, rfl, trivial⟩, ?_⟩
  refine xa_seq ?_
  refine xa_seq ?_
  refine xa_region ?_
  refine x_move rfl rfl ?_
  apply x_call rfl
  · apply pa_cons
    · exact pa_plain rfl
    exact pa_nil
  · exact s_voI l hl
  · exact ⟨rfl, rfl, rfl, of_decide_eq_true rfl, rfl⟩
  · exact .inl rfl
  · exact back_nil
  · exact inst_plain rfl
  · exact fun _ => rfl
  intro g9
  refine x_not rfl ?_
  refine x_move rfl rfl ?_
  refine x_guard_split rfl rfl (fun hg0 => ?_) (fun hg0 => ?_)
  · have hg := hg0; try simp only [decide_eq_true_eq, decide_eq_false_iff_not, Bool.not_eq_true', Bool.not_eq_false', bne_iff_ne, beq_iff_eq, ne_eq, Bool.not_true, Bool.not_false, beq_eq_false_iff_ne, bne_eq_false_iff_eq, Decidable.not_not, Int.not_lt, Int.not_le, Bool.and_eq_true, Bool.and_eq_false_iff, Bool.or_eq_true, Bool.or_eq_false_iff] at hg
    refine x_move rfl rfl ?_
    refine x_guard_t rfl rfl (by assumption) ?_
    apply x_call rfl
    · apply pa_cons
      · exact pa_plain rfl
      apply pa_cons
      · exact pa_plain rfl
      apply pa_cons
      · exact pa_plain rfl
      exact pa_nil
    · exact s_in _ _ _
    · exact ⟨rfl, rfl, rfl, of_decide_eq_true rfl, rfl⟩
    · exact .inl rfl
    · exact back_nil
    · exact inst_plain rfl
    · exact fun _ => rfl
    intro g13
    refine x_guard_t rfl rfl (by assumption) ?_
    refine x_not rfl ?_
    refine x_pick_f rfl (by assumption) rfl rfl ?_
    refine xr_nil ⟨nofun, [(.t 0, _), (.t 1, _), (.t 15, _)], ⟨rfl, rfl, rfl, rfl, rfl, rfl, trivial⟩, ?_⟩
    refine xa_cond rfl (fun hc => ?_) (fun hc => ?_)
    · try simp only [decide_eq_true_eq, decide_eq_false_iff_not, Bool.not_eq_true', Bool.not_eq_false', bne_iff_ne, beq_iff_eq, ne_eq, Bool.not_true, Bool.not_false, beq_eq_false_iff_ne, bne_eq_false_iff_eq, Decidable.not_not, Int.not_lt, Int.not_le, Bool.and_eq_true, Bool.and_eq_false_iff, Bool.or_eq_true, Bool.or_eq_false_iff, List.length_map] at hc
      refine xa_seq ?_
      refine xa_region ?_
      (refine x_assign_nil rfl rfl (fun _ => rfl) ?_; intro g4)
      refine xr_nil ⟨nofun, [(.t 4, _), (.h 4, _)], ⟨rfl, rfl, rfl, rfl, trivial⟩, ?_⟩
      refine xa_ret ?_
      refine ret_own' rfl rfl (by simp) (by rfl) trivial ?_
      rw [foR, if_neg (by rintro ⟨h1, h2, h3⟩; omega)]
      rfl
    · try simp only [decide_eq_true_eq, decide_eq_false_iff_not, Bool.not_eq_true', Bool.not_eq_false', bne_iff_ne, beq_iff_eq, ne_eq, Bool.not_true, Bool.not_false, beq_eq_false_iff_ne, bne_eq_false_iff_eq, Decidable.not_not, Int.not_lt, Int.not_le, Bool.and_eq_true, Bool.and_eq_false_iff, Bool.or_eq_true, Bool.or_eq_false_iff, List.length_map] at hc
      refine xa_skip ?_
      refine xa_seq ?_
      refine xa_region ?_
      (refine x_assign_nil rfl rfl (fun _ => rfl) ?_; intro g5)
      refine xr_nil ⟨nofun, [(.t 0, _), (.t 1, _), (.t 5, _), (.h 5, _)], ⟨rfl, rfl, rfl, rfl, rfl, rfl, rfl, rfl, trivial⟩, ?_⟩
      refine xa_seq ?_
      refine xa_seq ?_
      refine xa_region ?_
      refine x_move rfl rfl ?_
      refine x_len_map rfl rfl ?_
      refine x_move rfl rfl ?_
      refine xr_nil ⟨nofun, [(.t 1, _), (.t 5, _), (.t 16, _), (.t 17, _), (.t 18, _), (.h 5, _)], ⟨rfl, rfl, rfl, rfl, rfl, rfl, rfl, rfl, rfl, rfl, rfl, rfl, trivial⟩, ?_⟩
      refine xa_block ?_
      have hvl : vo l = true ∧ 0 ≤ lev ∧ lev ≤ 1000 := by simp_all
      refine xa_loopK (β := Nat × List Int × Nat) [(.t 1, _), (.t 16, _), (.t 17, _)] (fun (z : Nat × List Int × Nat) => match z with | (i, xs, g) => [(.t 18, iV i), (.t 5, .sl 5 g none 0 xs.length), (.h 5, .obj g 0 1 (xs.map iV))]) (fun (z : Nat × List Int × Nat) => match z with | (i, xs, g) => i ≤ l.length ∧ xs = foU l lev i) (fun (z : Nat × List Int × Nat) => match z with | (i, xs, g) => l.length - i) (0, [], _) ⟨rfl, rfl, rfl, rfl, rfl, rfl, trivial⟩ ⟨Nat.zero_le _, rfl⟩ ?_
      intro z hb
      obtain ⟨i, xs, g⟩ := z
      try dsimp only at hb
      obtain ⟨hi1, hxs⟩ := hb
      have hxl := foU_len l lev i
      rw [← hxs] at hxl
      refine xa_seq ?_
      refine xa_region ?_
      refine x_lss rfl rfl ?_
      refine xr_nil ⟨nofun, [(.t 1, _), (.t 5, _), (.t 16, _), (.t 17, _), (.t 18, _), (.t 19, _), (.h 5, _)], ⟨rfl, rfl, rfl, rfl, rfl, rfl, rfl, rfl, rfl, rfl, rfl, rfl, rfl, rfl, trivial⟩, ?_⟩
      refine xa_seq ?_
      refine xa_cond rfl (fun hc => ?_) (fun hc => ?_)
      · try simp only [decide_eq_true_eq, decide_eq_false_iff_not, Bool.not_eq_true', Bool.not_eq_false', bne_iff_ne, beq_iff_eq, ne_eq, Bool.not_true, Bool.not_false, beq_eq_false_iff_ne, bne_eq_false_iff_eq, Decidable.not_not, Int.not_lt, Int.not_le, Bool.and_eq_true, Bool.and_eq_false_iff, Bool.or_eq_true, Bool.or_eq_false_iff, List.length_map] at hc
        refine xa_skip ?_
        refine xa_seq ?_
        refine xa_block ?_
        refine xa_seq ?_
        refine xa_region ?_
        refine x_move rfl rfl ?_
        refine x_index_listN rfl rfl rfl (fun _ => rfl) (by omega) ?_
        refine x_load_iptV rfl rfl rfl ?_
        refine x_assign rfl rfl rfl ?_
        refine x_assign rfl rfl rfl ?_
        refine xr_nil ⟨nofun, [(.t 1, _), (.t 5, _), (.t 6, _), (.t 7, _), (.t 16, _), (.t 17, _), (.t 18, _), (.h 5, _)], ⟨rfl, rfl, rfl, rfl, rfl, rfl, rfl, rfl, rfl, rfl, rfl, rfl, rfl, rfl, rfl, rfl, trivial⟩, ?_⟩
        refine xa_seq ?_
        refine xa_region ?_
        refine x_move rfl rfl ?_
        refine x_move rfl rfl ?_
        refine x_leq rfl rfl ?_
        refine xr_nil ⟨nofun, [(.t 1, _), (.t 5, _), (.t 6, _), (.t 16, _), (.t 17, _), (.t 18, _), (.t 25, _), (.h 5, _)], ⟨rfl, rfl, rfl, rfl, rfl, rfl, rfl, rfl, rfl, rfl, rfl, rfl, rfl, rfl, rfl, rfl, trivial⟩, ?_⟩
        refine xa_cond rfl (fun hc => ?_) (fun hc => ?_)
        · try simp only [decide_eq_true_eq, decide_eq_false_iff_not, Bool.not_eq_true', Bool.not_eq_false', bne_iff_ne, beq_iff_eq, ne_eq, Bool.not_true, Bool.not_false, beq_eq_false_iff_ne, bne_eq_false_iff_eq, Decidable.not_not, Int.not_lt, Int.not_le, Bool.and_eq_true, Bool.and_eq_false_iff, Bool.or_eq_true, Bool.or_eq_false_iff, List.length_map] at hc
          refine xa_region ?_
          refine x_move rfl rfl ?_
          refine x_move rfl rfl ?_
          refine x_buildSlice (es := List.map iV [_]) rfl rfl (by decide) rfl rfl (fun _ => slot_obj (noRef_map fun _ => rfl)) (fun _ => rfl) ?_
          intro g28
          refine x_append_map rfl rfl rfl rfl (by (simp; done)) (by simp) (by decide) rfl rfl rfl rfl (by decide) (fun _ => ⟨rfl, rfl⟩) (by simp only [maxL]; (simp only [List.length_nil, List.length_cons, List.length_append, Nat.zero_add, List.length_map]; omega)) (fun _ => rfl) ?_
          intro g29
          (refine x_assign_own rfl rfl (by (simp; done)) rfl (fun _ => (slot_obj (by exact noRef_map fun _ => rfl))) (fun _ => rfl) ?_; intro g5)
          refine xr_nil ⟨nofun, [(.t 1, _), (.t 5, _), (.t 16, _), (.t 17, _), (.t 18, _), (.h 5, _)], ⟨rfl, rfl, rfl, rfl, rfl, rfl, rfl, rfl, rfl, rfl, rfl, rfl, trivial⟩, ?_⟩
          refine xa_region ?_
          refine x_add rfl rfl (inI64 (by omega)) ?_
          refine x_move rfl rfl ?_
          refine xr_nil ⟨nofun, [(.t 1, _), (.t 5, _), (.t 16, _), (.t 17, _), (.t 18, _), (.h 5, _)], ⟨rfl, rfl, rfl, rfl, rfl, rfl, rfl, rfl, rfl, rfl, rfl, rfl, trivial⟩, ?_⟩
          refine ⟨(i + 1, xs ++ [(i : Int)], _), ?_, (by simp only; omega), ⟨rfl, rfl, rfl, rfl, rfl, rfl, trivial⟩⟩
          exact ⟨by omega, by rw [foU_t (by assumption), hxs]⟩
        · try simp only [decide_eq_true_eq, decide_eq_false_iff_not, Bool.not_eq_true', Bool.not_eq_false', bne_iff_ne, beq_iff_eq, ne_eq, Bool.not_true, Bool.not_false, beq_eq_false_iff_ne, bne_eq_false_iff_eq, Decidable.not_not, Int.not_lt, Int.not_le, Bool.and_eq_true, Bool.and_eq_false_iff, Bool.or_eq_true, Bool.or_eq_false_iff, List.length_map] at hc
          refine xa_skip ?_
          refine xa_region ?_
          refine x_add rfl rfl (inI64 (by omega)) ?_
          refine x_move rfl rfl ?_
          refine xr_nil ⟨nofun, [(.t 1, _), (.t 5, _), (.t 16, _), (.t 17, _), (.t 18, _), (.h 5, _)], ⟨rfl, rfl, rfl, rfl, rfl, rfl, rfl, rfl, rfl, rfl, rfl, rfl, trivial⟩, ?_⟩
          refine ⟨(i + 1, xs, _), ?_, (by simp only; omega), ⟨rfl, rfl, rfl, rfl, rfl, rfl, trivial⟩⟩
          exact ⟨by omega, by rw [foU_f (by omega), hxs]⟩
      · try simp only [decide_eq_true_eq, decide_eq_false_iff_not, Bool.not_eq_true', Bool.not_eq_false', bne_iff_ne, beq_iff_eq, ne_eq, Bool.not_true, Bool.not_false, beq_eq_false_iff_ne, bne_eq_false_iff_eq, Decidable.not_not, Int.not_lt, Int.not_le, Bool.and_eq_true, Bool.and_eq_false_iff, Bool.or_eq_true, Bool.or_eq_false_iff, List.length_map] at hc
        refine xa_exit ?_
        refine xa_seq ?_
        refine xa_region ?_
        refine x_move rfl rfl ?_
        apply x_call rfl
        · apply pa_cons
          · exact pa_give rfl rfl (by (simp; done)) (noRef_map fun _ => rfl)
          exact pa_nil
        · exact s_ClipI xs (by simp only [maxL]; rw [hxs]; have := foU_len l lev i; omega)
        · exact ⟨rfl, rfl, rfl, of_decide_eq_true rfl, rfl⟩
        · exact .inl rfl
        · exact back_nil
        · exact inst_own
        · exact fun _ => rfl
        intro g32
        (refine x_assign_own rfl rfl (by (simp; done)) rfl (fun _ => (slot_obj (by exact noRef_map fun _ => rfl))) (fun _ => rfl) ?_; intro g4)
        refine xr_nil ⟨nofun, [(.t 4, _), (.h 4, _)], ⟨rfl, rfl, rfl, rfl, trivial⟩, ?_⟩
        refine xa_ret ?_
        refine ret_own' rfl rfl (by simp) (by exact noRef_map fun _ => rfl) trivial ?_
        rw [foR, if_pos hvl, hxs, show i = l.length by omega]
  · have hg := hg0; try simp only [decide_eq_true_eq, decide_eq_false_iff_not, Bool.not_eq_true', Bool.not_eq_false', bne_iff_ne, beq_iff_eq, ne_eq, Bool.not_true, Bool.not_false, beq_eq_false_iff_ne, bne_eq_false_iff_eq, Decidable.not_not, Int.not_lt, Int.not_le, Bool.and_eq_true, Bool.and_eq_false_iff, Bool.or_eq_true, Bool.or_eq_false_iff] at hg
    refine x_guard_f rfl rfl (by assumption) ?_
    refine x_guard_f rfl rfl (by assumption) ?_
    refine x_pick_t rfl (by assumption) rfl rfl ?_
    refine xr_nil ⟨nofun, [(.t 0, _), (.t 1, _), (.t 15, _)], ⟨rfl, rfl, rfl, rfl, rfl, rfl, trivial⟩, ?_⟩
    refine xa_cond rfl (fun hc => ?_) (fun hc => absurd hc (by decide))
    refine xa_seq ?_
    refine xa_region ?_
    (refine x_assign_nil rfl rfl (fun _ => rfl) ?_; intro g4)
    refine xr_nil ⟨nofun, [(.t 4, _), (.h 4, _)], ⟨rfl, rfl, rfl, rfl, trivial⟩, ?_⟩
    refine xa_ret ?_
    refine ret_own' rfl rfl (by simp) (by rfl) trivial ?_
    rw [foR, if_neg (by rintro ⟨h1, h2, h3⟩; (simp_all; done))]
    rfl

theorem keep_s_stable : keepOf Try.f75 = [0, 1, 2, 6, 8, 13, 7, 30, 35, 9, 54] := by kernel_rfl
set_option maxHeartbeats 20000000 in
theorem s_stable (l : List Int) (hl : l.length ≤ 6) (hp : 1 ≤ l.length) (d1 : List Nat) (hd : Ord l 1 d1) : ∃ res outs, (fun res outs => ∃ d : List Nat, res = .tup [] ∧ outs = [d.map nV] ∧ Ord l l.length d) res outs ∧ CW cxT 75 [.own 1 (d1.map nV), iV l.length, .clo 64 [.ipt (L l) 0]] = some (res, outs) := by
  obtain ⟨_, _, ⟨d, rfl, rfl, ho⟩, hC⟩ := s_insSort l hl hp d1 hd
  have hol := ho.1
  have hdl := hd.1
  refine fn_introP rfl Try.func75 rfl ⟨by kernel_rfl, rfl, of_decide_eq_true rfl, of_decide_eq_true rfl, by decide⟩ keep_s_stable ?_
  refine xa_seq ?_
  refine xa_region ?_
  refine x_assign rfl rfl rfl ?_
  refine xr_nil ⟨nofun, [(.t 0, _), (.t 1, _), (.t 2, _), (.t 6, _), (.h 0, _)], ⟨rfl, rfl, rfl, rfl, rfl, rfl, rfl, rfl, rfl, rfl, trivial⟩, ?_⟩
  refine xa_seq ?_
  refine xa_region ?_
  refine x_move rfl rfl ?_
  refine x_assign rfl rfl rfl ?_
  refine x_assign rfl rfl rfl ?_
  refine xr_nil ⟨nofun, [(.t 0, _), (.t 1, _), (.t 2, _), (.t 6, _), (.t 7, _), (.t 8, _), (.h 0, _)], ⟨rfl, rfl, rfl, rfl, rfl, rfl, rfl, rfl, rfl, rfl, rfl, rfl, rfl, rfl, trivial⟩, ?_⟩
  refine xa_seq ?_
  refine xa_block ?_
  refine xa_loopK (β := Unit) [(.t 0, _), (.t 1, _), (.t 2, _), (.t 6, _), (.t 7, _), (.t 8, _), (.h 0, _)] (fun (u : Unit) => []) (fun (u : Unit) => True) (fun (u : Unit) => 0) () ⟨rfl, rfl, rfl, rfl, rfl, rfl, rfl, trivial⟩ trivial ?_
  intro u hb
  refine xa_seq ?_
  refine xa_seq ?_
  refine xa_region ?_
  refine x_move rfl rfl ?_
  refine x_move rfl rfl ?_
  refine x_leq rfl rfl ?_
  refine xr_nil ⟨nofun, [(.t 0, _), (.t 1, _), (.t 2, _), (.t 6, _), (.t 7, _), (.t 8, _), (.t 13, _), (.h 0, _)], ⟨rfl, rfl, rfl, rfl, rfl, rfl, rfl, rfl, rfl, rfl, rfl, rfl, rfl, rfl, rfl, rfl, trivial⟩, ?_⟩
  refine xa_cond rfl (fun hc => ?_) (fun hc => ?_)
  · try simp only [decide_eq_true_eq, decide_eq_false_iff_not, Bool.not_eq_true', Bool.not_eq_false', bne_iff_ne, beq_iff_eq, ne_eq, Bool.not_true, Bool.not_false, beq_eq_false_iff_ne, bne_eq_false_iff_eq, Decidable.not_not, Int.not_lt, Int.not_le] at hc
    exact absurd hc (by omega)
  · try simp only [decide_eq_true_eq, decide_eq_false_iff_not, Bool.not_eq_true', Bool.not_eq_false', bne_iff_ne, beq_iff_eq, ne_eq, Bool.not_true, Bool.not_false, beq_eq_false_iff_ne, bne_eq_false_iff_eq, Decidable.not_not, Int.not_lt, Int.not_le, Bool.and_eq_true, Bool.and_eq_false_iff, Bool.or_eq_true, Bool.or_eq_false_iff, List.length_map] at hc
    refine xa_exit ?_
    refine xa_seq ?_
    refine xa_region ?_
    refine x_move rfl rfl ?_
    refine x_move rfl rfl ?_
    refine x_move rfl rfl ?_
    refine x_move rfl rfl ?_
    apply x_call rfl
    · apply pa_cons
      · exact pa_write rfl rfl (by decide) (by (simp; done)) (imm_map fun _ => rfl)
      apply pa_cons
      · exact pa_plain rfl
      apply pa_cons
      · exact pa_plain rfl
      apply pa_cons
      · exact pa_clo rfl (pc_ipt pc_nil)
      exact pa_nil
    · exact hC
    · exact ⟨rfl, rfl, rfl, of_decide_eq_true rfl, rfl⟩
    · exact .inl rfl
    · exact back_cons rfl (by simp [hol, hdl]) (nilFit_nV _ _) back_nil
    · exact inst_tup rfl
    · (intro _; exact tRefs_cons (slot_obj1 (noRef_map fun _ => rfl)) rfl)
    intro g27
    refine xr_nil ⟨nofun, [(.t 0, _), (.t 1, _), (.t 2, _), (.t 6, _), (.h 0, _)], ⟨rfl, rfl, rfl, rfl, rfl, rfl, rfl, rfl, rfl, rfl, trivial⟩, ?_⟩
    refine xa_block ?_
    refine xa_loopK (β := Unit) [(.t 0, _), (.t 1, _), (.t 2, _), (.t 6, _), (.h 0, _)] (fun (u : Unit) => []) (fun (u : Unit) => True) (fun (u : Unit) => 0) () ⟨rfl, rfl, rfl, rfl, rfl, trivial⟩ trivial ?_
    intro u hb
    refine xa_seq ?_
    refine xa_seq ?_
    refine xa_region ?_
    refine x_move rfl rfl ?_
    refine x_move rfl rfl ?_
    refine x_lss rfl rfl ?_
    refine xr_nil ⟨nofun, [(.t 0, _), (.t 1, _), (.t 2, _), (.t 6, _), (.t 30, _), (.h 0, _)], ⟨rfl, rfl, rfl, rfl, rfl, rfl, rfl, rfl, rfl, rfl, rfl, rfl, trivial⟩, ?_⟩
    refine xa_cond rfl (fun hc => ?_) (fun hc => ?_)
    · try simp only [decide_eq_true_eq, decide_eq_false_iff_not, Bool.not_eq_true', Bool.not_eq_false', bne_iff_ne, beq_iff_eq, ne_eq, Bool.not_true, Bool.not_false, beq_eq_false_iff_ne, bne_eq_false_iff_eq, Decidable.not_not, Int.not_lt, Int.not_le] at hc
      exact absurd hc (by omega)
    · try simp only [decide_eq_true_eq, decide_eq_false_iff_not, Bool.not_eq_true', Bool.not_eq_false', bne_iff_ne, beq_iff_eq, ne_eq, Bool.not_true, Bool.not_false, beq_eq_false_iff_ne, bne_eq_false_iff_eq, Decidable.not_not, Int.not_lt, Int.not_le, Bool.and_eq_true, Bool.and_eq_false_iff, Bool.or_eq_true, Bool.or_eq_false_iff, List.length_map] at hc
      refine xa_exit ?_
      refine ⟨_, _, ?_, ret_none (outs_one rfl (imm_map fun _ => rfl))⟩
      exact ⟨d, rfl, rfl, ho⟩

theorem keep_s_SortStable : keepOf Try.f63 = [0, 1] := by kernel_rfl
set_option maxHeartbeats 20000000 in
theorem s_SortStable (l : List Int) (hl : l.length ≤ 6) (hp : 1 ≤ l.length) (d1 : List Nat) (hd : Ord l 1 d1) : ∃ res outs, (fun res outs => ∃ d : List Nat, res = .tup [] ∧ outs = [d.map nV] ∧ Ord l l.length d) res outs ∧ CW cxT 63 [.own 1 (d1.map nV), .clo 64 [.ipt (L l) 0]] = some (res, outs) := by
  obtain ⟨_, _, ⟨d, rfl, rfl, ho⟩, hC⟩ := s_stable l hl hp d1 hd
  have hol := ho.1
  have hdl := hd.1
  refine fn_introP rfl Try.func63 rfl ⟨by kernel_rfl, rfl, of_decide_eq_true rfl, of_decide_eq_true rfl, by decide⟩ keep_s_SortStable ?_
  refine xa_region ?_
  refine x_move rfl rfl ?_
  refine x_move rfl rfl ?_
  refine x_len_sl rfl rfl ?_
  rw [show (((d1.map nV).length : Nat) : Int) = (l.length : Int) from by simp [hdl]]
  refine x_move rfl rfl ?_
  apply x_call rfl
  · apply pa_cons
    · exact pa_write rfl rfl (by decide) (by (simp; done)) (imm_map fun _ => rfl)
    apply pa_cons
    · exact pa_plain rfl
    apply pa_cons
    · exact pa_clo rfl (pc_ipt pc_nil)
    exact pa_nil
  · exact hC
  · exact ⟨rfl, rfl, rfl, of_decide_eq_true rfl, rfl⟩
  · exact .inl rfl
  · exact back_cons rfl (by simp [hol, hdl]) (nilFit_nV _ _) back_nil
  · exact inst_tup rfl
  · (intro _; exact tRefs_cons (slot_obj1 (noRef_map fun _ => rfl)) rfl)
  intro g8
  refine xr_nil ⟨nofun, [(.h 0, _)], ⟨rfl, rfl, trivial⟩, ?_⟩
  refine ⟨_, _, ?_, ret_none (outs_one rfl (imm_map fun _ => rfl))⟩
  exact ⟨d, rfl, rfl, ho⟩

theorem keep_s_bySize : keepOf Try.f50 = [0, 2, 1, 3, 10, 9, 11, 4] := by kernel_rfl
set_option maxHeartbeats 20000000 in
theorem s_bySize (l : List Int) (hl : l.length ≤ 6) (hp : 1 ≤ l.length) : ∃ res outs, (fun res outs => ∃ d : List Nat, res = .own 1 (d.map nV) ∧ outs = [] ∧ Ord l l.length d) res outs ∧ CW cxT 50 [L l] = some (res, outs) := by
  refine fn_introP rfl Try.func50 rfl ⟨by kernel_rfl, rfl, of_decide_eq_true rfl, of_decide_eq_true rfl, by decide⟩ keep_s_bySize ?_
  refine xa_seq ?_
  refine xa_region ?_
  refine x_box rfl rfl rfl (fun _ => slot_box rfl) (fun _ => rfl) ?_
  intro g1
  (refine x_assign_nil rfl rfl (fun _ => rfl) ?_; intro g2)
  refine xr_nil ⟨nofun, [(.t 1, _), (.h 1, _)], ⟨rfl, rfl, rfl, rfl, trivial⟩, ?_⟩
  refine xa_seq ?_
  refine xa_region ?_
  refine x_load_boxV rfl rfl rfl rfl rfl ?_
  refine x_len_map rfl rfl ?_
  refine x_makeSlice (f := nV) (x0 := 0) rfl rfl rfl rfl rfl (by simp only [maxL]; omega) (by decide) (fun _ => slot_obj (by exact noRef_map fun _ => rfl)) (fun _ => rfl) ?_
  intro g7
  (refine x_assign_own rfl rfl (by (simp; done)) rfl (fun _ => (slot_obj (by exact noRef_map fun _ => rfl))) (fun _ => rfl) ?_; intro g3)
  refine xr_nil ⟨nofun, [(.t 1, _), (.t 3, _), (.h 1, _), (.h 3, _)], ⟨rfl, rfl, rfl, rfl, rfl, rfl, rfl, rfl, trivial⟩, ?_⟩
  refine xa_seq ?_
  refine xa_seq ?_
  refine xa_region ?_
  refine x_move rfl rfl ?_
  refine x_len_sl rfl rfl ?_
  refine x_move rfl rfl ?_
  refine xr_nil ⟨nofun, [(.t 1, _), (.t 3, _), (.t 9, _), (.t 10, _), (.h 1, _), (.h 3, _)], ⟨rfl, rfl, rfl, rfl, rfl, rfl, rfl, rfl, rfl, rfl, rfl, rfl, trivial⟩, ?_⟩
  refine xa_block ?_
  refine xa_loopK (β := Nat × List Nat) [(.t 1, _), (.t 3, _), (.t 9, _), (.h 1, _)] (fun (z : Nat × List Nat) => match z with | (b, d1) => [(.t 10, iV b), (.h 3, .obj g3 0 1 (d1.map nV))]) (fun (z : Nat × List Nat) => match z with | (b, d1) => b ≤ l.length ∧ d1.length = l.length ∧ ∀ x, x < b → d1.getD x default = x) (fun (z : Nat × List Nat) => match z with | (b, d1) => l.length - b) (0, List.replicate l.length 0) ⟨rfl, rfl, rfl, rfl, rfl, rfl, trivial⟩ ⟨Nat.zero_le _, by simp, fun x h => by omega⟩ ?_
  intro z hb
  obtain ⟨b, d1⟩ := z
  try dsimp only at hb
  obtain ⟨hb1, hb2, hb3⟩ := hb
  refine xa_seq ?_
  refine xa_region ?_
  refine x_lss rfl rfl ?_
  refine xr_nil ⟨nofun, [(.t 1, _), (.t 3, _), (.t 9, _), (.t 10, _), (.t 11, _), (.h 1, _), (.h 3, _)], ⟨rfl, rfl, rfl, rfl, rfl, rfl, rfl, rfl, rfl, rfl, rfl, rfl, rfl, rfl, trivial⟩, ?_⟩
  refine xa_seq ?_
  refine xa_cond rfl (fun hc => ?_) (fun hc => ?_)
  · try simp only [decide_eq_true_eq, decide_eq_false_iff_not, Bool.not_eq_true', Bool.not_eq_false', bne_iff_ne, beq_iff_eq, ne_eq, Bool.not_true, Bool.not_false, beq_eq_false_iff_ne, bne_eq_false_iff_eq, Decidable.not_not, Int.not_lt, Int.not_le, Bool.and_eq_true, Bool.and_eq_false_iff, Bool.or_eq_true, Bool.or_eq_false_iff, List.length_map] at hc
    refine xa_skip ?_
    refine xa_seq ?_
    refine xa_block ?_
    refine xa_seq ?_
    refine xa_region ?_
    refine x_move rfl rfl ?_
    refine x_assign rfl rfl rfl ?_
    refine xr_nil ⟨nofun, [(.t 1, _), (.t 3, _), (.t 4, _), (.t 9, _), (.t 10, _), (.h 1, _), (.h 3, _)], ⟨rfl, rfl, rfl, rfl, rfl, rfl, rfl, rfl, rfl, rfl, rfl, rfl, rfl, rfl, trivial⟩, ?_⟩
    refine xa_region ?_
    refine x_move rfl rfl ?_
    refine x_move rfl rfl ?_
    refine x_move rfl rfl ?_
    refine x_index_slN rfl rfl rfl rfl (by omega) (by (simp; omega)) rfl ?_
    refine x_store_mapO rfl rfl rfl (by omega) (fun _ _ => ⟨rfl, rfl, of_decide_eq_true rfl, of_decide_eq_true rfl, rfl, rfl⟩) (by decide) (by exact slot_obj (noRef_map fun _ => rfl)) ?_
    refine xr_nil ⟨nofun, [(.t 1, _), (.t 3, _), (.t 9, _), (.t 10, _), (.h 1, _), (.h 3, _)], ⟨rfl, rfl, rfl, rfl, rfl, rfl, rfl, rfl, rfl, rfl, rfl, rfl, trivial⟩, ?_⟩
    refine xa_region ?_
    refine x_add rfl rfl (inI64 (by omega)) ?_
    refine x_move rfl rfl ?_
    refine xr_nil ⟨nofun, [(.t 1, _), (.t 3, _), (.t 9, _), (.t 10, _), (.h 1, _), (.h 3, _)], ⟨rfl, rfl, rfl, rfl, rfl, rfl, rfl, rfl, rfl, rfl, rfl, rfl, trivial⟩, ?_⟩
    refine ⟨(b + 1, d1.set b b), ⟨by omega, by simp [hb2], fun x hx => by rw [getD_setN (by omega)]; by_cases e : x = b; (· rw [if_pos e, e]); (· rw [if_neg e]; exact hb3 x (by omega))⟩, (by simp only; omega), ⟨rfl, rfl, rfl, rfl, rfl, rfl, trivial⟩⟩
  · try simp only [decide_eq_true_eq, decide_eq_false_iff_not, Bool.not_eq_true', Bool.not_eq_false', bne_iff_ne, beq_iff_eq, ne_eq, Bool.not_true, Bool.not_false, beq_eq_false_iff_ne, bne_eq_false_iff_eq, Decidable.not_not, Int.not_lt, Int.not_le, Bool.and_eq_true, Bool.and_eq_false_iff, Bool.or_eq_true, Bool.or_eq_false_iff, List.length_map] at hc
    refine xa_exit ?_
    refine xa_seq ?_
    refine xa_region ?_
    refine x_move rfl rfl ?_
    refine x_makeFunc rfl rfl ?_
    have hio := iota_of hb2 (fun x hx => hb3 x (by omega)) hp
    obtain ⟨_, _, ⟨d, rfl, rfl, ho⟩, hC⟩ := s_SortStable l hl hp d1 hio
    have hol := ho.1
    apply x_call rfl
    · apply pa_cons
      · exact pa_write rfl rfl (by decide) (by (simp; omega)) (imm_map fun _ => rfl)
      apply pa_cons
      · exact pa_clo rfl (pc_box rfl rfl pc_nil)
      exact pa_nil
    · exact hC
    · exact ⟨rfl, rfl, rfl, of_decide_eq_true rfl, rfl⟩
    · exact .inr ⟨by simp [hasList, hasListL], outs1 fun _ => rfl⟩
    · exact back_cons rfl (by simp [hol, hb2]) (nilFit_nV _ _) back_nil
    · exact inst_tup rfl
    · (intro _; exact tRefs_cons (slot_obj (noRef_map fun _ => rfl)) rfl)
    intro g20
    refine xr_nil ⟨nofun, [(.t 3, _), (.h 3, _)], ⟨rfl, rfl, rfl, rfl, trivial⟩, ?_⟩
    refine xa_seq ?_
    refine xa_region ?_
    refine x_move rfl rfl ?_
    (refine x_assign_own rfl rfl (by simp [hol]) rfl (fun _ => (slot_obj (by exact noRef_map fun _ => rfl))) (fun _ => rfl) ?_; intro g2)
    refine xr_nil ⟨nofun, [(.t 2, _), (.h 2, _)], ⟨rfl, rfl, rfl, rfl, trivial⟩, ?_⟩
    refine xa_ret ?_
    refine ⟨_, _, ?_, ret_own rfl rfl (by simp [hol]) (by exact noRef_map fun _ => rfl) outs_nil⟩
    exact ⟨d, rfl, rfl, ho⟩

theorem keep_s_drawStepUp : keepOf Try.f26 = [0, 2] := by kernel_rfl
set_option maxHeartbeats 20000000 in
theorem s_drawStepUp (bs : List Int) (hbs : Bytes bs) (hl : bs.length ≤ 1048576) : ∃ res outs, (fun res outs => ∃ (xs : List Int), res = .own 1 (xs.map iV) ∧ outs = [] ∧ xs.length ≤ 7) res outs ∧ CW cxT 26 [.list (bs.map uV)] = some (res, outs) := by
  refine fn_introP rfl Try.func26 rfl ⟨by kernel_rfl, rfl, of_decide_eq_true rfl, of_decide_eq_true rfl, by decide⟩ keep_s_drawStepUp ?_
  refine xa_seq ?_
  refine xa_region ?_
  (refine x_assign_nil rfl rfl (fun _ => rfl) ?_; intro g2)
  refine xr_nil ⟨nofun, [(.t 0, _)], ⟨rfl, rfl, trivial⟩, ?_⟩
  refine xa_seq ?_
  refine xa_region ?_
  refine x_move rfl rfl ?_
  obtain ⟨_, _, ⟨rfl, rfl⟩, hC0⟩ := s_newReader bs hl
  have hbs2 : Bytes (bs.take 2000) := fun b hb => hbs b (List.mem_of_mem_take hb)
  have hl2 : (bs.take 2000).length ≤ 1048576 := by simp; omega
  apply x_call rfl
  · apply pa_cons
    · exact pa_plain rfl
    exact pa_nil
  · exact hC0
  · exact ⟨rfl, rfl, rfl, of_decide_eq_true rfl, rfl⟩
  · exact .inl rfl
  · exact back_nil
  · exact inst_box
  · exact fun _ => rfl
  intro g4
  obtain ⟨_, _, ⟨xs, p1, rfl, rfl, hp1, hp2, hx7⟩, hC1⟩ := s_someOdds (bs.take 2000) 0 hbs2 hl2 (by omega)
  apply x_call rfl
  · apply pa_cons
    · exact pa_box rfl (by decide) rfl
    exact pa_nil
  · exact hC1
  · exact ⟨rfl, rfl, rfl, of_decide_eq_true rfl, rfl⟩
  · exact .inl rfl
  · exact back_cons rfl rfl rfl back_nil
  · exact inst_own
  · exact fun _ => rfl
  intro g5
  (refine x_assign_own rfl rfl (by (simp; done)) rfl (fun _ => (slot_obj (by exact noRef_map fun _ => rfl))) (fun _ => rfl) ?_; intro g2)
  refine xr_nil ⟨nofun, [(.t 2, _), (.h 2, _)], ⟨rfl, rfl, rfl, rfl, trivial⟩, ?_⟩
  refine xa_ret ?_
  refine ⟨_, _, ?_, ret_own rfl rfl (by simp) (by exact noRef_map fun _ => rfl) outs_nil⟩
  exact ⟨xs, rfl, rfl, hx7⟩

theorem keep_s_stepUp1 : keepOf Try.f53 = [0, 1, 2, 5] := by kernel_rfl
set_option maxHeartbeats 20000000 in
theorem s_stepUp1 (l : List Int) (hl : l.length ≤ 6) (p r : Int) (hp : 0 ≤ p ∧ p ≤ 1000) (hr : 0 ≤ r ∧ r < l.length) : CW cxT 53 [iV p, iV r, .ipt (L l) 0] = some (iV (p * ((l.length : Int) - r)), []) := by
  have hm := mul_bound hp (show (l.length : Int) - r ≤ 6 by omega) (by omega)
  refine fn_intro rfl Try.func53 rfl ⟨by kernel_rfl, rfl, of_decide_eq_true rfl, of_decide_eq_true rfl, by decide⟩ keep_s_stepUp1 ?_
  refine xa_seq ?_
  refine xa_region ?_
  refine x_assign rfl rfl rfl ?_
  refine xr_nil ⟨nofun, [(.t 0, _), (.t 1, _), (.t 2, _)], ⟨rfl, rfl, rfl, rfl, rfl, rfl, trivial⟩, ?_⟩
  refine xa_seq ?_
  refine xa_region ?_
  refine x_move rfl rfl ?_
  refine x_load_iptV rfl rfl rfl ?_
  refine x_len_map rfl rfl ?_
  refine x_move rfl rfl ?_
  refine x_sub rfl rfl (inI64 (by omega)) ?_
  refine x_mul rfl rfl (inI64 (by omega)) ?_
  refine x_assign rfl rfl rfl ?_
  refine xr_nil ⟨nofun, [(.t 5, _)], ⟨rfl, rfl, trivial⟩, ?_⟩
  refine xa_ret ?_
  refine ret_val' rfl rfl trivial ?_
  rfl

theorem keep_s_backward : keepOf Try.f52 = [0, 1, 4, 2, 11, 17, 18, 19, 6, 7, 8, 3, 5, 14, 28] := by kernel_rfl
set_option maxHeartbeats 20000000 in
theorem s_backward (l : List Int) (hl : l.length ≤ 1000) : CW cxT 52 [L l, .clo 53 [.ipt (L l) 0]] = some (.own 1 ((suR l).map iV), []) := by
  refine fn_intro rfl Try.func52 rfl ⟨by kernel_rfl, rfl, of_decide_eq_true rfl, of_decide_eq_true rfl, by decide⟩ keep_s_backward ?_
  refine xa_seq ?_
  refine xa_region ?_
  refine x_box rfl rfl rfl (fun _ => slot_box rfl) (fun _ => rfl) ?_
  intro g2
  refine x_box rfl rfl rfl (fun _ => slot_box rfl) (fun _ => rfl) ?_
  intro g3
  (refine x_assign_nil rfl rfl (fun _ => rfl) ?_; intro g4)
  refine xr_nil ⟨nofun, [(.t 2, _), (.t 3, _), (.h 2, _), (.h 3, _)], ⟨rfl, rfl, rfl, rfl, rfl, rfl, rfl, rfl, trivial⟩, ?_⟩
  refine xa_seq ?_
  refine xa_seq ?_
  refine xa_region ?_
  refine x_load_boxV rfl rfl rfl rfl rfl ?_
  apply x_call rfl
  · apply pa_cons
    · exact pa_plain rfl
    exact pa_nil
  · exact s_voI l hl
  · exact ⟨rfl, rfl, rfl, of_decide_eq_true rfl, rfl⟩
  · exact .inl rfl
  · exact back_nil
  · exact inst_plain rfl
  · exact fun _ => rfl
  intro g10
  refine x_not rfl ?_
  refine xr_nil ⟨nofun, [(.t 2, _), (.t 3, _), (.t 11, _), (.h 2, _), (.h 3, _)], ⟨rfl, rfl, rfl, rfl, rfl, rfl, rfl, rfl, rfl, rfl, trivial⟩, ?_⟩
  refine xa_cond rfl (fun hc => ?_) (fun hc => ?_)
  · try simp only [decide_eq_true_eq, decide_eq_false_iff_not, Bool.not_eq_true', Bool.not_eq_false', bne_iff_ne, beq_iff_eq, ne_eq, Bool.not_true, Bool.not_false, beq_eq_false_iff_ne, bne_eq_false_iff_eq, Decidable.not_not, Int.not_lt, Int.not_le, Bool.and_eq_true, Bool.and_eq_false_iff, Bool.or_eq_true, Bool.or_eq_false_iff, List.length_map] at hc
    refine xa_seq ?_
    refine xa_region ?_
    (refine x_assign_nil rfl rfl (fun _ => rfl) ?_; intro g4)
    refine xr_nil ⟨nofun, [(.t 4, _), (.h 4, _)], ⟨rfl, rfl, rfl, rfl, trivial⟩, ?_⟩
    refine xa_ret ?_
    refine ret_own' rfl rfl (by (simp; done)) (by rfl) trivial ?_
    rw [suR, if_neg (by simpa using hc)]
    rfl
  · try simp only [decide_eq_true_eq, decide_eq_false_iff_not, Bool.not_eq_true', Bool.not_eq_false', bne_iff_ne, beq_iff_eq, ne_eq, Bool.not_true, Bool.not_false, beq_eq_false_iff_ne, bne_eq_false_iff_eq, Decidable.not_not, Int.not_lt, Int.not_le, Bool.and_eq_true, Bool.and_eq_false_iff, Bool.or_eq_true, Bool.or_eq_false_iff, List.length_map] at hc
    have hvo : vo l = true := by exact hc
    have hv := vo_iff.1 hvo
    have hn6 := hv.2.1
    have hn1 := hv.1
    have hall := fun x (hx : x ∈ l) => allB_mem hv.2.2 hx
    have hp6 := pow6 hn6
    obtain ⟨_, _, ⟨d, rfl, rfl, ho⟩, hC⟩ := s_bySize l hn6 hn1
    have hol := ho.1
    rw [nV_zs] at hC
    have hzl := zsN_length d
    refine xa_skip ?_
    refine xa_seq ?_
    refine xa_region ?_
    refine x_load_boxV rfl rfl rfl rfl rfl ?_
    refine x_len_map rfl rfl ?_
    refine x_makeSlice (f := iV) (x0 := 0) rfl rfl rfl rfl rfl (by simp only [maxL]; omega) (by decide) (fun _ => slot_obj (by exact noRef_map fun _ => rfl)) (fun _ => rfl) ?_
    intro g14
    refine x_alloc rfl (fun _ => slot_box rfl) (fun _ => rfl) ?_
    intro g5
    refine x_store_ref rfl rfl rfl rfl rfl (by decide) rfl rfl ?_
    refine xr_nil ⟨nofun, [(.t 2, _), (.t 3, _), (.t 5, _), (.h 2, _), (.h 3, _), (.h 5, _), (.h 1000014, _)], ⟨rfl, rfl, rfl, rfl, rfl, rfl, rfl, rfl, rfl, rfl, rfl, rfl, rfl, rfl, trivial⟩, ?_⟩
    refine xa_seq ?_
    refine xa_region ?_
    refine x_alloc rfl (fun _ => slot_box rfl) (fun _ => rfl) ?_
    intro g6
    refine x_store_boxV rfl rfl rfl rfl ⟨by decide, rfl, of_decide_eq_true rfl, of_decide_eq_true rfl, rfl⟩ rfl (by exact slot_box rfl) ?_
    refine xr_nil ⟨nofun, [(.t 2, _), (.t 3, _), (.t 5, _), (.t 6, _), (.h 2, _), (.h 3, _), (.h 5, _), (.h 1000014, _), (.h 6, _)], ⟨rfl, rfl, rfl, rfl, rfl, rfl, rfl, rfl, rfl, rfl, rfl, rfl, rfl, rfl, rfl, rfl, rfl, rfl, trivial⟩, ?_⟩
    refine xa_seq ?_
    refine xa_seq ?_
    refine xa_region ?_
    refine x_load_boxV rfl rfl rfl rfl rfl ?_
    apply x_call rfl
    · apply pa_cons
      · exact pa_plain rfl
      exact pa_nil
    · exact hC
    · exact ⟨rfl, rfl, rfl, of_decide_eq_true rfl, rfl⟩
    · exact .inl rfl
    · exact back_nil
    · exact inst_own
    · exact fun _ => rfl
    intro g16
    simp only [List.length_map]
    apply x_call rfl
    · apply pa_cons
      · exact pa_keep_map rfl rfl (by (simp; done)) (fun _ => rfl)
      exact pa_nil
    · exact s_Backward _
    · exact ⟨rfl, rfl, rfl, of_decide_eq_true rfl, rfl⟩
    · exact .inl rfl
    · exact back_nil
    · exact inst_clo
    · exact fun _ => tRefs_cons (slot_objM (noRef_map fun _ => rfl) (by decide)) rfl
    intro _
    refine xr_nil ⟨nofun, [(.t 2, _), (.t 3, _), (.t 5, _), (.t 6, _), (.t 17, _), (.h 2, _), (.h 3, _), (.h 5, _), (.h 1000014, _), (.h 6, _)], ⟨rfl, rfl, rfl, rfl, rfl, rfl, rfl, rfl, rfl, rfl, rfl, rfl, rfl, rfl, rfl, rfl, rfl, rfl, rfl, rfl, trivial⟩, ?_⟩
    refine xa_block ?_
    refine xa_rangeC (zs := zsN d) (σ := List Int × Int) [(.t 2, _), (.t 3, _), (.t 5, _), (.t 6, _), (.h 2, _), (.h 3, _), (.h 5, _)] (fun (ys : List (Nat × Int)) s => match s with | (out, m) => [(.h 1000014, .obj g14 0 1 (out.map iV)), (.h 6, .obj g6 3 1 [iV m])]) (fun ys s => match s with | (out, m) => (out, m) = bkF l ys) (List.replicate l.length 0, 1000) rfl rfl rfl (by rw [hzl]; simp only [maxL]; omega) rfl rfl rfl (fun ys s => rfl) ⟨rfl, rfl, rfl, rfl, rfl, rfl, rfl, rfl, rfl, trivial⟩ rfl ?_ ?_
    · intro ys q e s hyz hz hlen hP
      obtain ⟨out, m⟩ := s
      dsimp only at hP
      obtain ⟨hq, he⟩ := hz
      rw [zsN_getD] at he
      subst he
      have hql : q < l.length := by omega
      have hdr := ho.2.2.2.1 q hql
      have hb0 := hall _ (getD_mem hdr)
      have hol2 : out.length = l.length := by have := bkF_len l ys; rw [← hP] at this; exact this
      refine xa_weak (B := [(.t 2, _), (.t 3, _), (.t 5, _), (.t 6, _), (.h 2, _), (.h 3, _), (.h 5, _), (.t 7, iV (q : Int)), (.t 8, nV (d.getD q default)), (.h 1000014, .obj g14 0 1 (out.map iV)), (.h 6, .obj g6 3 1 [iV m])]) ⟨rfl, rfl, rfl, rfl, rfl, rfl, rfl, rfl, rfl, rfl, rfl, trivial⟩ ?_
      refine xa_block ?_
      refine xa_seq ?_
      refine xa_region ?_
      refine x_load_boxV rfl rfl rfl rfl rfl ?_
      refine x_load_boxV rfl rfl rfl rfl rfl ?_
      refine x_load_boxV rfl rfl rfl rfl rfl ?_
      refine x_move rfl rfl ?_
      refine x_index_listN rfl rfl rfl (fun _ => rfl) (by omega) ?_
      refine x_load_iptV rfl rfl rfl ?_
      refine x_move rfl rfl ?_
      apply x_callV rfl rfl
      · apply pa_cons
        · exact pa_plain rfl
        apply pa_cons
        · exact pa_plain rfl
        apply pa_cons
        · exact pa_plain rfl
        exact pa_nil
      · exact s_stepUp1 l hn6 (l.getD (d.getD q default) default) (q : Int) hb0 (by omega)
      · exact ⟨rfl, rfl, rfl, of_decide_eq_true rfl, rfl⟩
      · exact .inl rfl
      · exact back_nil
      · exact inst_plain rfl
      · exact fun _ => rfl
      intro g27
      refine x_min rfl rfl ?_
      refine x_store_boxV rfl rfl rfl rfl ⟨by decide, rfl, of_decide_eq_true rfl, of_decide_eq_true rfl, rfl⟩ rfl (by exact slot_box rfl) ?_
      refine xr_nil ⟨fun _ => ⟨by (simp only [wmap, List.nil_append, List.append_nil, List.map_cons, List.map_nil, List.cons_append]; decide +kernel), by decide +kernel⟩, [(.t 2, _), (.t 3, _), (.t 5, _), (.t 6, _), (.t 8, _), (.h 2, _), (.h 3, _), (.h 5, _), (.h 1000014, _), (.h 6, _)], ⟨rfl, rfl, rfl, rfl, rfl, rfl, rfl, rfl, rfl, rfl, rfl, rfl, rfl, rfl, rfl, rfl, rfl, rfl, rfl, rfl, trivial⟩, ?_⟩
      refine xa_region ?_
      refine x_load_boxV rfl rfl rfl rfl rfl ?_
      refine x_move rfl rfl ?_
      refine x_load_boxV rfl rfl rfl rfl rfl ?_
      refine x_index_slN rfl rfl rfl rfl (by omega) (by (simp; omega)) rfl ?_
      refine x_store_mapO rfl rfl rfl (by omega) (fun _ _ => ⟨rfl, rfl, of_decide_eq_true rfl, of_decide_eq_true rfl, rfl, rfl⟩) (by decide) (by exact slot_obj (noRef_map fun _ => rfl)) ?_
      refine xr_nil ⟨nofun, [(.t 2, _), (.t 3, _), (.t 5, _), (.t 6, _), (.h 2, _), (.h 3, _), (.h 5, _), (.h 1000014, _), (.h 6, _)], ⟨rfl, rfl, rfl, rfl, rfl, rfl, rfl, rfl, rfl, rfl, rfl, rfl, rfl, rfl, rfl, rfl, rfl, rfl, trivial⟩, ?_⟩
      exact ⟨rfl, (_, _), by rw [bkF_snoc, ← hP]; rfl, ⟨rfl, rfl, rfl, rfl, rfl, rfl, rfl, rfl, rfl, trivial⟩⟩
    · intro ys s hys hP
      obtain ⟨out, m⟩ := s
      dsimp only at hP
      have hol2 : out.length = l.length := by have := bkF_len l ys; rw [← hP] at this; exact this
      have hfin : out = suU l l.length := by have := bk_fin ho; rw [← hys, ← hP] at this; exact this
      refine xa_weak (B := [(.t 2, _), (.t 3, _), (.t 5, _), (.t 6, _), (.h 2, _), (.h 3, _), (.h 5, _), (.h 1000014, .obj g14 0 1 (out.map iV)), (.h 6, .obj g6 3 1 [iV m])]) ⟨rfl, rfl, rfl, rfl, rfl, rfl, rfl, rfl, rfl, trivial⟩ ?_
      refine xa_seq ?_
      refine xa_region ?_
      refine x_load_boxV rfl rfl rfl rfl rfl ?_
      (refine x_assign_own rfl rfl (by (simp; omega)) rfl (fun _ => (slot_obj (by exact noRef_map fun _ => rfl))) (fun _ => rfl) ?_; intro g4)
      refine xr_nil ⟨nofun, [(.t 4, _), (.h 4, _)], ⟨rfl, rfl, rfl, rfl, trivial⟩, ?_⟩
      refine xa_ret ?_
      refine ret_own' rfl rfl (by (simp [hol2]; done)) (by exact noRef_map fun _ => rfl) trivial ?_
      rw [suR, if_pos hvo, hfin]

theorem keep_s_stepUpI : keepOf Try.f27 = [0, 2, 1] := by kernel_rfl
set_option maxHeartbeats 20000000 in
theorem s_stepUpI (l : List Int) (hl : l.length ≤ 1000) : CW cxT 27 [L l] = some (.own 1 ((suR l).map iV), []) := by
  refine fn_intro rfl Try.func27 rfl ⟨by kernel_rfl, rfl, of_decide_eq_true rfl, of_decide_eq_true rfl, by decide⟩ keep_s_stepUpI ?_
  refine xa_seq ?_
  refine xa_region ?_
  refine x_box rfl rfl rfl (fun _ => slot_box rfl) (fun _ => rfl) ?_
  intro g1
  (refine x_assign_nil rfl rfl (fun _ => rfl) ?_; intro g2)
  refine xr_nil ⟨nofun, [(.t 1, _), (.h 1, _)], ⟨rfl, rfl, rfl, rfl, trivial⟩, ?_⟩
  refine xa_seq ?_
  refine xa_region ?_
  refine x_load_boxV rfl rfl rfl rfl rfl ?_
  refine x_makeFunc rfl rfl ?_
  apply x_call rfl
  · apply pa_cons
    · exact pa_plain rfl
    apply pa_cons
    · exact pa_clo rfl (pc_box rfl rfl pc_nil)
    exact pa_nil
  · exact s_backward l hl
  · exact ⟨rfl, rfl, rfl, of_decide_eq_true rfl, rfl⟩
  · exact .inr ⟨hasListL_mapF fun _ => rfl, rfl⟩
  · exact back_nil
  · exact inst_own
  · exact fun _ => rfl
  intro g5
  (refine x_assign_own rfl rfl (by (simp; done)) rfl (fun _ => (slot_obj (by exact noRef_map fun _ => rfl))) (fun _ => rfl) ?_; intro g2)
  refine xr_nil ⟨nofun, [(.t 2, _), (.h 2, _)], ⟨rfl, rfl, rfl, rfl, trivial⟩, ?_⟩
  refine xa_ret ?_
  refine ret_own' rfl rfl (by simp) (by exact noRef_map fun _ => rfl) trivial ?_
  rfl

theorem keep_s_stepUpC : keepOf Try.f54 = [0, 2, 5, 14, 7, 20, 3, 31, 6, 4] := by kernel_rfl
set_option maxHeartbeats 20000000 in
theorem s_stepUpC (l : List Int) (hl : l.length ≤ 6) (hall : ∀ x ∈ l, 0 ≤ x ∧ x ≤ 1000) : CW cxT 54 [L l] = some (.own 1 ((suU l l.length).map iV), []) := by
  refine fn_intro rfl Try.func54 rfl ⟨by kernel_rfl, rfl, of_decide_eq_true rfl, of_decide_eq_true rfl, by decide⟩ keep_s_stepUpC ?_
  refine xa_seq ?_
  refine xa_region ?_
  (refine x_assign_nil rfl rfl (fun _ => rfl) ?_; intro g2)
  refine xr_nil ⟨nofun, [(.t 0, _)], ⟨rfl, rfl, trivial⟩, ?_⟩
  refine xa_seq ?_
  refine xa_region ?_
  refine x_move rfl rfl ?_
  apply x_call rfl
  · apply pa_cons
    · exact pa_plain rfl
    exact pa_nil
  · exact s_places l (by omega)
  · exact ⟨rfl, rfl, rfl, of_decide_eq_true rfl, rfl⟩
  · exact .inl rfl
  · exact back_nil
  · exact inst_own
  · exact fun _ => rfl
  intro g9
  simp only [List.length_map, plU_length]
  (refine x_assign_own rfl rfl (by (simp; done)) rfl (fun _ => (slot_obj (by exact noRef_map fun _ => rfl))) (fun _ => rfl) ?_; intro g3)
  refine xr_nil ⟨nofun, [(.t 0, _), (.t 3, _), (.h 3, _)], ⟨rfl, rfl, rfl, rfl, rfl, rfl, trivial⟩, ?_⟩
  refine xa_seq ?_
  refine xa_region ?_
  refine x_buildSlice (es := List.map iV []) rfl rfl (by decide) rfl rfl (fun _ => slot_obj (noRef_map fun _ => rfl)) (fun _ => rfl) ?_
  intro g10
  (refine x_assign_own rfl rfl (by (simp; done)) rfl (fun _ => (slot_obj (by exact noRef_map fun _ => rfl))) (fun _ => rfl) ?_; intro g4)
  refine xr_nil ⟨nofun, [(.t 0, _), (.t 3, _), (.t 4, _), (.h 3, _), (.h 4, _)], ⟨rfl, rfl, rfl, rfl, rfl, rfl, rfl, rfl, rfl, rfl, trivial⟩, ?_⟩
  refine xa_seq ?_
  refine xa_seq ?_
  refine xa_region ?_
  refine x_assign rfl rfl rfl ?_
  refine xr_nil ⟨nofun, [(.t 0, _), (.t 3, _), (.t 4, _), (.t 5, _), (.h 3, _), (.h 4, _)], ⟨rfl, rfl, rfl, rfl, rfl, rfl, rfl, rfl, rfl, rfl, rfl, rfl, trivial⟩, ?_⟩
  refine xa_block ?_
  refine xa_loopK (β := Nat × List Int × Nat) [(.t 0, _), (.t 3, _), (.h 3, _)] (fun (z : Nat × List Int × Nat) => match z with | (i, xs, g) => [(.t 5, iV i), (.t 4, .sl 4 g none 0 xs.length), (.h 4, .obj g 0 1 (xs.map iV))]) (fun (z : Nat × List Int × Nat) => match z with | (i, xs, g) => i ≤ l.length ∧ xs = suU l i) (fun (z : Nat × List Int × Nat) => match z with | (i, xs, g) => l.length - i) (0, [], _) ⟨rfl, rfl, rfl, rfl, rfl, rfl, trivial⟩ ⟨Nat.zero_le _, rfl⟩ ?_
  intro z hb
  obtain ⟨i, xs, g⟩ := z
  try dsimp only at hb
  obtain ⟨hi1, hxs⟩ := hb
  have hxl : xs.length = i := by rw [hxs]; simp
  refine xa_seq ?_
  refine xa_seq ?_
  refine xa_region ?_
  refine x_move rfl rfl ?_
  refine x_move rfl rfl ?_
  refine x_len_map rfl rfl ?_
  refine x_lss rfl rfl ?_
  refine xr_nil ⟨nofun, [(.t 0, _), (.t 3, _), (.t 4, _), (.t 5, _), (.t 14, _), (.h 3, _), (.h 4, _)], ⟨rfl, rfl, rfl, rfl, rfl, rfl, rfl, rfl, rfl, rfl, rfl, rfl, rfl, rfl, trivial⟩, ?_⟩
  refine xa_cond rfl (fun hc => ?_) (fun hc => ?_)
  · try simp only [decide_eq_true_eq, decide_eq_false_iff_not, Bool.not_eq_true', Bool.not_eq_false', bne_iff_ne, beq_iff_eq, ne_eq, Bool.not_true, Bool.not_false, beq_eq_false_iff_ne, bne_eq_false_iff_eq, Decidable.not_not, Int.not_lt, Int.not_le, Bool.and_eq_true, Bool.and_eq_false_iff, Bool.or_eq_true, Bool.or_eq_false_iff, List.length_map] at hc
    refine xa_skip ?_
    refine xa_seq ?_
    refine xa_block ?_
    refine xa_seq ?_
    refine xa_region ?_
    refine x_assign rfl rfl rfl ?_
    refine xr_nil ⟨nofun, [(.t 0, _), (.t 3, _), (.t 4, _), (.t 5, _), (.t 6, _), (.h 3, _), (.h 4, _)], ⟨rfl, rfl, rfl, rfl, rfl, rfl, rfl, rfl, rfl, rfl, rfl, rfl, rfl, rfl, trivial⟩, ?_⟩
    refine xa_seq ?_
    refine xa_seq ?_
    refine xa_region ?_
    refine x_assign rfl rfl rfl ?_
    refine xr_nil ⟨nofun, [(.t 0, _), (.t 3, _), (.t 4, _), (.t 5, _), (.t 6, _), (.t 7, _), (.h 3, _), (.h 4, _)], ⟨rfl, rfl, rfl, rfl, rfl, rfl, rfl, rfl, rfl, rfl, rfl, rfl, rfl, rfl, rfl, rfl, trivial⟩, ?_⟩
    refine xa_block ?_
    refine xa_loopK (β := Nat) [(.t 0, _), (.t 3, _), (.t 4, _), (.t 5, _), (.h 3, _), (.h 4, _)] (fun (k : Nat) => [(.t 7, iV k), (.t 6, iV (mnU l i k))]) (fun (k : Nat) => k ≤ l.length) (fun (k : Nat) => l.length - k) 0 ⟨rfl, rfl, rfl, rfl, rfl, rfl, rfl, rfl, trivial⟩ (Nat.zero_le _) ?_
    intro k hb
    refine xa_seq ?_
    refine xa_seq ?_
    refine xa_region ?_
    refine x_move rfl rfl ?_
    refine x_move rfl rfl ?_
    refine x_len_map rfl rfl ?_
    refine x_lss rfl rfl ?_
    refine xr_nil ⟨nofun, [(.t 0, _), (.t 3, _), (.t 4, _), (.t 5, _), (.t 6, _), (.t 7, _), (.t 20, _), (.h 3, _), (.h 4, _)], ⟨rfl, rfl, rfl, rfl, rfl, rfl, rfl, rfl, rfl, rfl, rfl, rfl, rfl, rfl, rfl, rfl, rfl, rfl, trivial⟩, ?_⟩
    refine xa_cond rfl (fun hc => ?_) (fun hc => ?_)
    · try simp only [decide_eq_true_eq, decide_eq_false_iff_not, Bool.not_eq_true', Bool.not_eq_false', bne_iff_ne, beq_iff_eq, ne_eq, Bool.not_true, Bool.not_false, beq_eq_false_iff_ne, bne_eq_false_iff_eq, Decidable.not_not, Int.not_lt, Int.not_le, Bool.and_eq_true, Bool.and_eq_false_iff, Bool.or_eq_true, Bool.or_eq_false_iff, List.length_map] at hc
      refine xa_skip ?_
      refine xa_seq ?_
      refine xa_block ?_
      refine xa_seq ?_
      refine xa_region ?_
      refine x_move rfl rfl ?_
      refine x_move rfl rfl ?_
      refine x_index_slN rfl rfl rfl rfl (by omega) (by (simp; done)) rfl ?_
      refine x_load_mapV rfl rfl (by (simp; omega)) (fun _ => rfl) (fun _ => rfl) rfl ?_
      refine x_move rfl rfl ?_
      refine x_move rfl rfl ?_
      refine x_index_slN rfl rfl rfl rfl (by omega) (by (simp; done)) rfl ?_
      refine x_load_mapV rfl rfl (by (simp; omega)) (fun _ => rfl) (fun _ => rfl) rfl ?_
      have hak := plU_getD (l := l) (show k < l.length by omega)
      have hai := plU_getD (l := l) (show i < l.length by omega)
      rw [hak, hai]
      refine x_geq rfl rfl ?_
      refine xr_nil ⟨fun _ => ⟨by decide +kernel, by decide +kernel⟩, [(.t 0, _), (.t 3, _), (.t 4, _), (.t 5, _), (.t 6, _), (.t 7, _), (.t 31, _), (.h 3, _), (.h 4, _)], ⟨rfl, rfl, rfl, rfl, rfl, rfl, rfl, rfl, rfl, rfl, rfl, rfl, rfl, rfl, rfl, rfl, rfl, rfl, trivial⟩, ?_⟩
      refine xa_cond rfl (fun hc => ?_) (fun hc => ?_)
      · try simp only [decide_eq_true_eq, decide_eq_false_iff_not, Bool.not_eq_true', Bool.not_eq_false', bne_iff_ne, beq_iff_eq, ne_eq, Bool.not_true, Bool.not_false, beq_eq_false_iff_ne, bne_eq_false_iff_eq, Decidable.not_not, Int.not_lt, Int.not_le, Bool.and_eq_true, Bool.and_eq_false_iff, Bool.or_eq_true, Bool.or_eq_false_iff, List.length_map] at hc
        refine xa_region ?_
        refine x_move rfl rfl ?_
        refine x_move rfl rfl ?_
        refine x_move rfl rfl ?_
        refine x_index_listN rfl rfl rfl (fun _ => rfl) (by omega) ?_
        refine x_load_iptV rfl rfl rfl ?_
        refine x_move rfl rfl ?_
        refine x_len_map rfl rfl ?_
        refine x_move rfl rfl ?_
        refine x_move rfl rfl ?_
        refine x_index_slN rfl rfl rfl rfl (by omega) (by (simp; done)) rfl ?_
        refine x_load_mapV rfl rfl (by (simp; omega)) (fun _ => rfl) (fun _ => rfl) rfl ?_
        rw [hak]
        have hap : at' l k ≤ l.length := pl_le l k l.length
        refine x_sub rfl rfl (inI64 (by omega)) ?_
        have hb0 := hall _ (getD_mem (show k < l.length by omega))
        have hm := mul_bound hb0 (show (l.length : Int) - (at' l k : Int) ≤ 6 by omega) (by omega)
        refine x_mul rfl rfl (inI64 (by omega)) ?_
        refine x_min rfl rfl ?_
        refine x_assign rfl rfl rfl ?_
        refine xr_nil ⟨fun _ => ⟨by decide +kernel, by decide +kernel⟩, [(.t 0, _), (.t 3, _), (.t 4, _), (.t 5, _), (.t 6, _), (.t 7, _), (.h 3, _), (.h 4, _)], ⟨rfl, rfl, rfl, rfl, rfl, rfl, rfl, rfl, rfl, rfl, rfl, rfl, rfl, rfl, rfl, rfl, trivial⟩, ?_⟩
        refine xa_region ?_
        refine x_move rfl rfl ?_
        refine x_add rfl rfl (inI64 (by omega)) ?_
        refine x_assign rfl rfl rfl ?_
        refine xr_nil ⟨nofun, [(.t 0, _), (.t 3, _), (.t 4, _), (.t 5, _), (.t 6, _), (.t 7, _), (.h 3, _), (.h 4, _)], ⟨rfl, rfl, rfl, rfl, rfl, rfl, rfl, rfl, rfl, rfl, rfl, rfl, rfl, rfl, rfl, rfl, trivial⟩, ?_⟩
        first
          | (have hlt : at' l i ≤ at' l k := (by omega)
             refine ⟨k + 1, by omega, by omega, ?_⟩
             rw [mnU, if_pos hlt]
             exact ⟨rfl, rfl, rfl, rfl, rfl, rfl, rfl, rfl, trivial⟩)
          | (have hlt : ¬ at' l i ≤ at' l k := (by omega)
             refine ⟨k + 1, by omega, by omega, ?_⟩
             rw [mnU, if_neg hlt]
             exact ⟨rfl, rfl, rfl, rfl, rfl, rfl, rfl, rfl, trivial⟩)
      · try simp only [decide_eq_true_eq, decide_eq_false_iff_not, Bool.not_eq_true', Bool.not_eq_false', bne_iff_ne, beq_iff_eq, ne_eq, Bool.not_true, Bool.not_false, beq_eq_false_iff_ne, bne_eq_false_iff_eq, Decidable.not_not, Int.not_lt, Int.not_le, Bool.and_eq_true, Bool.and_eq_false_iff, Bool.or_eq_true, Bool.or_eq_false_iff, List.length_map] at hc
        refine xa_skip ?_
        refine xa_region ?_
        refine x_move rfl rfl ?_
        refine x_add rfl rfl (inI64 (by omega)) ?_
        refine x_assign rfl rfl rfl ?_
        refine xr_nil ⟨nofun, [(.t 0, _), (.t 3, _), (.t 4, _), (.t 5, _), (.t 6, _), (.t 7, _), (.h 3, _), (.h 4, _)], ⟨rfl, rfl, rfl, rfl, rfl, rfl, rfl, rfl, rfl, rfl, rfl, rfl, rfl, rfl, rfl, rfl, trivial⟩, ?_⟩
        first
          | (have hlt : at' l i ≤ at' l k := (by omega)
             refine ⟨k + 1, by omega, by omega, ?_⟩
             rw [mnU, if_pos hlt]
             exact ⟨rfl, rfl, rfl, rfl, rfl, rfl, rfl, rfl, trivial⟩)
          | (have hlt : ¬ at' l i ≤ at' l k := (by omega)
             refine ⟨k + 1, by omega, by omega, ?_⟩
             rw [mnU, if_neg hlt]
             exact ⟨rfl, rfl, rfl, rfl, rfl, rfl, rfl, rfl, trivial⟩)
    · try simp only [decide_eq_true_eq, decide_eq_false_iff_not, Bool.not_eq_true', Bool.not_eq_false', bne_iff_ne, beq_iff_eq, ne_eq, Bool.not_true, Bool.not_false, beq_eq_false_iff_ne, bne_eq_false_iff_eq, Decidable.not_not, Int.not_lt, Int.not_le, Bool.and_eq_true, Bool.and_eq_false_iff, Bool.or_eq_true, Bool.or_eq_false_iff, List.length_map] at hc
      refine xa_exit ?_
      refine xa_region ?_
      refine x_move rfl rfl ?_
      refine x_move rfl rfl ?_
      refine x_buildSlice (es := List.map iV [_]) rfl rfl (by decide) rfl rfl (fun _ => slot_obj (noRef_map fun _ => rfl)) (fun _ => rfl) ?_
      intro g48
      refine x_append_map rfl rfl rfl rfl (by (simp; done)) (by simp) (by decide) rfl rfl rfl rfl (by decide) (fun _ => ⟨rfl, rfl⟩) (by simp only [maxL]; (simp only [List.length_nil, List.length_cons, List.length_append, Nat.zero_add, List.length_map]; omega)) (fun _ => rfl) ?_
      intro g49
      (refine x_assign_own rfl rfl (by (simp; done)) rfl (fun _ => (slot_obj (by exact noRef_map fun _ => rfl))) (fun _ => rfl) ?_; intro g4)
      refine xr_nil ⟨nofun, [(.t 0, _), (.t 3, _), (.t 4, _), (.t 5, _), (.h 3, _), (.h 4, _)], ⟨rfl, rfl, rfl, rfl, rfl, rfl, rfl, rfl, rfl, rfl, rfl, rfl, trivial⟩, ?_⟩
      refine xa_region ?_
      refine x_move rfl rfl ?_
      refine x_add rfl rfl (inI64 (by omega)) ?_
      refine x_assign rfl rfl rfl ?_
      refine xr_nil ⟨nofun, [(.t 0, _), (.t 3, _), (.t 4, _), (.t 5, _), (.h 3, _), (.h 4, _)], ⟨rfl, rfl, rfl, rfl, rfl, rfl, rfl, rfl, rfl, rfl, rfl, rfl, trivial⟩, ?_⟩
      refine ⟨(i + 1, xs ++ [mnU l i k], _), ⟨by omega, ?_⟩, by simp only; omega, ⟨rfl, rfl, rfl, rfl, rfl, rfl, trivial⟩⟩
      rw [suU_succ, hxs, suv, show k = l.length by omega]
  · try simp only [decide_eq_true_eq, decide_eq_false_iff_not, Bool.not_eq_true', Bool.not_eq_false', bne_iff_ne, beq_iff_eq, ne_eq, Bool.not_true, Bool.not_false, beq_eq_false_iff_ne, bne_eq_false_iff_eq, Decidable.not_not, Int.not_lt, Int.not_le, Bool.and_eq_true, Bool.and_eq_false_iff, Bool.or_eq_true, Bool.or_eq_false_iff, List.length_map] at hc
    refine xa_exit ?_
    refine xa_seq ?_
    refine xa_region ?_
    refine x_move rfl rfl ?_
    (refine x_assign_own rfl rfl (by (simp; done)) rfl (fun _ => (slot_obj (by exact noRef_map fun _ => rfl))) (fun _ => rfl) ?_; intro g2)
    refine xr_nil ⟨nofun, [(.t 2, _), (.h 2, _)], ⟨rfl, rfl, rfl, rfl, trivial⟩, ?_⟩
    refine xa_ret ?_
    refine ret_own' rfl rfl (by simp) (by exact noRef_map fun _ => rfl) trivial ?_
    rw [hxs, show i = l.length by omega]

theorem keep_s_stepUpS : keepOf Try.f28 = [0, 2, 5] := by kernel_rfl
set_option maxHeartbeats 20000000 in
theorem s_stepUpS (l : List Int) (hl : l.length ≤ 1000) : CW cxT 28 [L l] = some (.own 1 ((suR l).map iV), []) := by
  refine fn_intro rfl Try.func28 rfl ⟨by kernel_rfl, rfl, of_decide_eq_true rfl, of_decide_eq_true rfl, by decide⟩ keep_s_stepUpS ?_
  refine xa_seq ?_
  refine xa_region ?_
  (refine x_assign_nil rfl rfl (fun _ => rfl) ?_; intro g2)
  refine xr_nil ⟨nofun, [(.t 0, _)], ⟨rfl, rfl, trivial⟩, ?_⟩
  refine xa_seq ?_
  refine xa_seq ?_
  refine xa_region ?_
  refine x_move rfl rfl ?_
  apply x_call rfl
  · apply pa_cons
    · exact pa_plain rfl
    exact pa_nil
  · exact s_voS l hl
  · exact ⟨rfl, rfl, rfl, of_decide_eq_true rfl, rfl⟩
  · exact .inl rfl
  · exact back_nil
  · exact inst_plain rfl
  · exact fun _ => rfl
  intro g4
  refine x_not rfl ?_
  refine xr_nil ⟨nofun, [(.t 0, _), (.t 5, _)], ⟨rfl, rfl, rfl, rfl, trivial⟩, ?_⟩
  refine xa_cond rfl (fun hc => ?_) (fun hc => ?_)
  · try simp only [decide_eq_true_eq, decide_eq_false_iff_not, Bool.not_eq_true', Bool.not_eq_false', bne_iff_ne, beq_iff_eq, ne_eq, Bool.not_true, Bool.not_false, beq_eq_false_iff_ne, bne_eq_false_iff_eq, Decidable.not_not, Int.not_lt, Int.not_le, Bool.and_eq_true, Bool.and_eq_false_iff, Bool.or_eq_true, Bool.or_eq_false_iff, List.length_map] at hc
    refine xa_seq ?_
    refine xa_region ?_
    (refine x_assign_nil rfl rfl (fun _ => rfl) ?_; intro g2)
    refine xr_nil ⟨nofun, [(.t 2, _), (.h 2, _)], ⟨rfl, rfl, rfl, rfl, trivial⟩, ?_⟩
    refine xa_ret ?_
    refine ret_own' rfl rfl (by simp) (by rfl) trivial ?_
    rw [suR, if_neg (by simpa using hc)]
    rfl
  · try simp only [decide_eq_true_eq, decide_eq_false_iff_not, Bool.not_eq_true', Bool.not_eq_false', bne_iff_ne, beq_iff_eq, ne_eq, Bool.not_true, Bool.not_false, beq_eq_false_iff_ne, bne_eq_false_iff_eq, Decidable.not_not, Int.not_lt, Int.not_le, Bool.and_eq_true, Bool.and_eq_false_iff, Bool.or_eq_true, Bool.or_eq_false_iff, List.length_map] at hc
    have hvo : vo l = true := by exact hc
    have hv := vo_iff.1 hvo
    have hn6 := hv.2.1
    have hn1 := hv.1
    have hall := fun x (hx : x ∈ l) => allB_mem hv.2.2 hx
    have hp6 := pow6 hn6
    refine xa_skip ?_
    refine xa_seq ?_
    refine xa_region ?_
    refine x_move rfl rfl ?_
    apply x_call rfl
    · apply pa_cons
      · exact pa_plain rfl
      exact pa_nil
    · exact s_stepUpC l hn6 hall
    · exact ⟨rfl, rfl, rfl, of_decide_eq_true rfl, rfl⟩
    · exact .inl rfl
    · exact back_nil
    · exact inst_own
    · exact fun _ => rfl
    intro g7
    (refine x_assign_own rfl rfl (by (simp; done)) rfl (fun _ => (slot_obj (by exact noRef_map fun _ => rfl))) (fun _ => rfl) ?_; intro g2)
    refine xr_nil ⟨nofun, [(.t 2, _), (.h 2, _)], ⟨rfl, rfl, rfl, rfl, trivial⟩, ?_⟩
    refine xa_ret ?_
    refine ret_own' rfl rfl (by simp) (by exact noRef_map fun _ => rfl) trivial ?_
    rw [suR, if_pos hvo]

theorem keep_s_FnStepUp : keepOf Try.f7 = [0, 2, 11, 3, 4, 25, 5, 31, 6, 8, 43, 7, 52] := by kernel_rfl
set_option maxHeartbeats 20000000 in
theorem s_FnStepUp (bs : List Int) (hbs : Bytes bs) : CW cxT 7 [.list (bs.map uV)] = some (bV true, []) := by
  refine fn_intro rfl Try.func7 rfl ⟨by kernel_rfl, rfl, of_decide_eq_true rfl, of_decide_eq_true rfl, by decide⟩ keep_s_FnStepUp ?_
  refine xa_seq ?_
  refine xa_region ?_
  refine x_assign rfl rfl rfl ?_
  refine xr_nil ⟨nofun, [(.t 0, _)], ⟨rfl, rfl, trivial⟩, ?_⟩
  refine xa_seq ?_
  refine xa_seq ?_
  refine xa_region ?_
  refine x_move rfl rfl ?_
  refine x_len_map rfl rfl ?_
  refine x_gtr rfl rfl ?_
  refine xr_nil ⟨nofun, [(.t 0, _), (.t 11, _)], ⟨rfl, rfl, rfl, rfl, trivial⟩, ?_⟩
  refine xa_cond rfl (fun hc => ?_) (fun hc => ?_)
  · try simp only [decide_eq_true_eq, decide_eq_false_iff_not, Bool.not_eq_true', Bool.not_eq_false', bne_iff_ne, beq_iff_eq, ne_eq, Bool.not_true, Bool.not_false, beq_eq_false_iff_ne, bne_eq_false_iff_eq, Decidable.not_not, Int.not_lt, Int.not_le, Bool.and_eq_true, Bool.and_eq_false_iff, Bool.or_eq_true, Bool.or_eq_false_iff, List.length_map] at hc
    refine xa_seq ?_
    refine xa_region ?_
    refine x_assign rfl rfl rfl ?_
    refine xr_nil ⟨nofun, [(.t 2, _)], ⟨rfl, rfl, trivial⟩, ?_⟩
    refine xa_ret ?_
    refine ret_val' rfl rfl trivial ?_
    rfl
  · try simp only [decide_eq_true_eq, decide_eq_false_iff_not, Bool.not_eq_true', Bool.not_eq_false', bne_iff_ne, beq_iff_eq, ne_eq, Bool.not_true, Bool.not_false, beq_eq_false_iff_ne, bne_eq_false_iff_eq, Decidable.not_not, Int.not_lt, Int.not_le, Bool.and_eq_true, Bool.and_eq_false_iff, Bool.or_eq_true, Bool.or_eq_false_iff, List.length_map] at hc
    refine xa_skip ?_
    refine xa_seq ?_
    refine xa_region ?_
    have hl2 : bs.length ≤ 1048576 := by omega
    refine x_move rfl rfl ?_
    obtain ⟨_, _, ⟨l, rfl, rfl, hl7⟩, hC1⟩ := s_drawStepUp bs hbs hl2
    have hl : l.length ≤ 1000 := by omega
    have hsl := suR_len l
    apply x_call rfl
    · apply pa_cons
      · exact pa_plain rfl
      exact pa_nil
    · exact hC1
    · exact ⟨rfl, rfl, rfl, of_decide_eq_true rfl, rfl⟩
    · exact .inl rfl
    · exact back_nil
    · exact inst_own
    · exact fun _ => rfl
    intro g13
    (refine x_assign_own rfl rfl (by (simp; done)) rfl (fun _ => (slot_obj (by exact noRef_map fun _ => rfl))) (fun _ => rfl) ?_; intro g3)
    refine xr_nil ⟨nofun, [(.t 3, _), (.h 3, _)], ⟨rfl, rfl, rfl, rfl, trivial⟩, ?_⟩
    refine xa_seq ?_
    refine xa_region ?_
    refine x_move rfl rfl ?_
    apply x_call rfl
    · apply pa_cons
      · exact pa_lend_map rfl rfl rfl (by (simp; done)) (fun _ => rfl)
      exact pa_nil
    · exact s_stepUpI l hl
    · exact ⟨rfl, rfl, rfl, of_decide_eq_true rfl, rfl⟩
    · exact .inr ⟨hasListL_mapF fun _ => rfl, rfl⟩
    · exact back_nil
    · exact inst_own
    · exact fun _ => rfl
    intro g15
    (refine x_assign_own rfl rfl (by (simp; done)) rfl (fun _ => (slot_obj (by exact noRef_map fun _ => rfl))) (fun _ => rfl) ?_; intro g4)
    refine xr_nil ⟨nofun, [(.t 3, _), (.t 4, _), (.h 3, _), (.h 4, _)], ⟨rfl, rfl, rfl, rfl, rfl, rfl, rfl, rfl, trivial⟩, ?_⟩
    refine xa_seq ?_
    refine xa_seq ?_
    refine xa_region ?_
    refine x_move rfl rfl ?_
    refine x_move rfl rfl ?_
    apply x_call rfl
    · apply pa_cons
      · exact pa_lend_map rfl rfl rfl (by (simp; done)) (fun _ => rfl)
      exact pa_nil
    · exact s_stepUpS l hl
    · exact ⟨rfl, rfl, rfl, of_decide_eq_true rfl, rfl⟩
    · exact .inr ⟨hasListL_mapF fun _ => rfl, rfl⟩
    · exact back_nil
    · exact inst_own
    · exact fun _ => rfl
    intro g18
    apply x_call rfl
    · apply pa_cons
      · exact pa_lend_map rfl rfl rfl (by (simp; done)) (fun _ => rfl)
      apply pa_cons
      · exact pa_lend_map rfl rfl rfl (by (simp; done)) (fun _ => rfl)
      exact pa_nil
    · exact s_equalInts (suR l) (suR l) (by omega) (by omega)
    · exact ⟨rfl, rfl, rfl, of_decide_eq_true rfl, rfl⟩
    · exact .inr ⟨rfl, rfl⟩
    · exact back_nil
    · exact inst_plain rfl
    · exact fun _ => rfl
    intro g19
    simp only [beq_self_eq_true]
    refine x_not rfl ?_
    refine x_move rfl rfl ?_
    refine x_guard_t rfl rfl (by rfl) ?_
    refine x_move rfl rfl ?_
    refine x_guard_t rfl rfl (by rfl) ?_
    refine x_len_sl rfl rfl ?_
    refine x_guard_t rfl rfl (by rfl) ?_
    refine x_eql rfl rfl ?_
    refine x_pick_f rfl (by rfl) rfl rfl ?_
    refine xr_nil ⟨nofun, [(.t 3, _), (.t 4, _), (.t 25, _), (.h 3, _), (.h 4, _)], ⟨rfl, rfl, rfl, rfl, rfl, rfl, rfl, rfl, rfl, rfl, trivial⟩, ?_⟩
    refine xa_cond rfl (fun hc => ?_) (fun hc => ?_)
    · try simp only [decide_eq_true_eq, decide_eq_false_iff_not, Bool.not_eq_true', Bool.not_eq_false', bne_iff_ne, beq_iff_eq, ne_eq, Bool.not_true, Bool.not_false, beq_eq_false_iff_ne, bne_eq_false_iff_eq, Decidable.not_not, Int.not_lt, Int.not_le, Bool.and_eq_true, Bool.and_eq_false_iff, Bool.or_eq_true, Bool.or_eq_false_iff, List.length_map] at hc
      refine xa_seq ?_
      refine xa_region ?_
      refine x_move rfl rfl ?_
      refine x_move rfl rfl ?_
      apply x_call rfl
      · apply pa_cons
        · exact pa_lend_map rfl rfl rfl (by (simp; done)) (fun _ => rfl)
        exact pa_nil
      · exact s_stepUpS l hl
      · exact ⟨rfl, rfl, rfl, of_decide_eq_true rfl, rfl⟩
      · exact .inr ⟨hasListL_mapF fun _ => rfl, rfl⟩
      · exact back_nil
      · exact inst_own
      · exact fun _ => rfl
      intro g28
      apply x_call rfl
      · apply pa_cons
        · exact pa_lend_map rfl rfl rfl (by (simp; done)) (fun _ => rfl)
        apply pa_cons
        · exact pa_lend_map rfl rfl rfl (by (simp; done)) (fun _ => rfl)
        exact pa_nil
      · exact s_equalInts (suR l) (suR l) (by omega) (by omega)
      · exact ⟨rfl, rfl, rfl, of_decide_eq_true rfl, rfl⟩
      · exact .inr ⟨rfl, rfl⟩
      · exact back_nil
      · exact inst_plain rfl
      · exact fun _ => rfl
      intro g29
      simp only [beq_self_eq_true]
      refine x_assign rfl rfl rfl ?_
      refine xr_nil ⟨nofun, [(.t 2, _)], ⟨rfl, rfl, trivial⟩, ?_⟩
      refine xa_ret ?_
      refine ret_val' rfl rfl trivial ?_
      rfl
    · try simp only [decide_eq_true_eq, decide_eq_false_iff_not, Bool.not_eq_true', Bool.not_eq_false', bne_iff_ne, beq_iff_eq, ne_eq, Bool.not_true, Bool.not_false, beq_eq_false_iff_ne, bne_eq_false_iff_eq, Decidable.not_not, Int.not_lt, Int.not_le, Bool.and_eq_true, Bool.and_eq_false_iff, Bool.or_eq_true, Bool.or_eq_false_iff, List.length_map] at hc
      have hvo := suR_valid hc
      have hv := vo_iff.1 hvo
      have hn6 := hv.2.1
      have hn1 := hv.1
      have hall := fun x (hx : x ∈ l) => allB_mem hv.2.2 hx
      have hp6 := pow6 hn6
      obtain ⟨_, _, ⟨d, -, -, ho⟩, -⟩ := s_bySize l hn6 hn1
      rw [show suR l = suU l l.length by rw [suR, if_pos hvo]]
      refine xa_skip ?_
      refine xa_seq ?_
      refine xa_seq ?_
      refine xa_region ?_
      refine x_assign rfl rfl rfl ?_
      refine xr_nil ⟨nofun, [(.t 3, _), (.t 4, _), (.t 5, _), (.h 3, _), (.h 4, _)], ⟨rfl, rfl, rfl, rfl, rfl, rfl, rfl, rfl, rfl, rfl, trivial⟩, ?_⟩
      refine xa_block ?_
      refine xa_loopK (β := Int) [(.t 3, _), (.t 4, _), (.h 3, _), (.h 4, _)] (fun (lev : Int) => [(.t 5, iV lev)]) (fun (lev : Int) => 0 ≤ lev ∧ lev ≤ 1036) (fun (lev : Int) => (1037 - lev).toNat) 0 ⟨rfl, rfl, rfl, rfl, rfl, trivial⟩ ⟨by decide, by decide⟩ ?_
      intro lev hb
      obtain ⟨hlv1, hlv2⟩ := hb
      refine xa_seq ?_
      refine xa_seq ?_
      refine xa_region ?_
      refine x_move rfl rfl ?_
      refine x_lss rfl rfl ?_
      refine xr_nil ⟨nofun, [(.t 3, _), (.t 4, _), (.t 5, _), (.t 31, _), (.h 3, _), (.h 4, _)], ⟨rfl, rfl, rfl, rfl, rfl, rfl, rfl, rfl, rfl, rfl, rfl, rfl, trivial⟩, ?_⟩
      refine xa_cond rfl (fun hc => ?_) (fun hc => ?_)
      · try simp only [decide_eq_true_eq, decide_eq_false_iff_not, Bool.not_eq_true', Bool.not_eq_false', bne_iff_ne, beq_iff_eq, ne_eq, Bool.not_true, Bool.not_false, beq_eq_false_iff_ne, bne_eq_false_iff_eq, Decidable.not_not, Int.not_lt, Int.not_le, Bool.and_eq_true, Bool.and_eq_false_iff, Bool.or_eq_true, Bool.or_eq_false_iff, List.length_map] at hc
        refine xa_skip ?_
        refine xa_seq ?_
        refine xa_block ?_
        refine xa_seq ?_
        refine xa_region ?_
        refine x_move rfl rfl ?_
        refine x_move rfl rfl ?_
        have hfl := foU_len (suU l l.length) lev l.length
        have hfo : foR (suU l l.length) lev = foU (suU l l.length) lev l.length := by rw [foR, if_pos ⟨vo_suU hvo, hlv1, by omega⟩, suU_length]
        apply x_call rfl
        · apply pa_cons
          · exact pa_lend_map rfl rfl rfl (by (simp; done)) (fun _ => rfl)
          apply pa_cons
          · exact pa_plain rfl
          exact pa_nil
        · exact s_foundAt (suU l l.length) (by simp; omega) lev
        · exact ⟨rfl, rfl, rfl, of_decide_eq_true rfl, rfl⟩
        · exact .inr ⟨hasListL_mapF fun _ => rfl, rfl⟩
        · exact back_nil
        · exact inst_own
        · exact fun _ => rfl
        intro g36
        rw [hfo]
        simp only [List.length_map]
        (refine x_assign_own rfl rfl (by (simp; done)) rfl (fun _ => (slot_obj (by exact noRef_map fun _ => rfl))) (fun _ => rfl) ?_; intro g6)
        refine xr_nil ⟨nofun, [(.t 3, _), (.t 4, _), (.t 5, _), (.t 6, _), (.h 3, _), (.h 4, _), (.h 6, _)], ⟨rfl, rfl, rfl, rfl, rfl, rfl, rfl, rfl, rfl, rfl, rfl, rfl, rfl, rfl, trivial⟩, ?_⟩
        refine xa_seq ?_
        refine xa_region ?_
        refine x_move rfl rfl ?_
        refine x_move rfl rfl ?_
        apply x_call rfl
        · apply pa_cons
          · exact pa_lend_map rfl rfl rfl (by (simp; done)) (fun _ => rfl)
          apply pa_cons
          · exact pa_plain rfl
          apply pa_cons
          · exact pa_plain rfl
          exact pa_nil
        · exact s_closedI l hl lev (some true)
        · exact ⟨rfl, rfl, rfl, of_decide_eq_true rfl, rfl⟩
        · exact .inr ⟨hasListL_mapF fun _ => rfl, rfl⟩
        · exact back_nil
        · exact inst_own
        · exact fun _ => rfl
        intro g39
        rw [cbR_ok hvo ⟨hlv1, by omega⟩]
        (refine x_assign_own rfl rfl (by (simp; done)) rfl (fun _ => (slot_obj (by exact noRef_map fun _ => rfl))) (fun _ => rfl) ?_; intro g7)
        refine xr_nil ⟨nofun, [(.t 3, _), (.t 4, _), (.t 5, _), (.t 6, _), (.t 7, _), (.h 3, _), (.h 4, _), (.h 6, _), (.h 7, _)], ⟨rfl, rfl, rfl, rfl, rfl, rfl, rfl, rfl, rfl, rfl, rfl, rfl, rfl, rfl, rfl, rfl, rfl, rfl, trivial⟩, ?_⟩
        refine xa_seq ?_
        refine xa_region ?_
        refine x_assign rfl rfl rfl ?_
        refine xr_nil ⟨nofun, [(.t 3, _), (.t 4, _), (.t 5, _), (.t 6, _), (.t 7, _), (.t 8, _), (.h 3, _), (.h 4, _), (.h 6, _), (.h 7, _)], ⟨rfl, rfl, rfl, rfl, rfl, rfl, rfl, rfl, rfl, rfl, rfl, rfl, rfl, rfl, rfl, rfl, rfl, rfl, rfl, rfl, trivial⟩, ?_⟩
        refine xa_block ?_
        refine xa_loopK (β := Nat) [(.t 3, _), (.t 4, _), (.t 5, _), (.t 6, _), (.t 7, _), (.h 3, _), (.h 4, _), (.h 6, _), (.h 7, _)] (fun (i : Nat) => [(.t 8, iV i)]) (fun (i : Nat) => True) (fun (i : Nat) => (foU (suU l l.length) lev l.length).length - i) 0 ⟨rfl, rfl, rfl, rfl, rfl, rfl, rfl, rfl, rfl, rfl, trivial⟩ trivial ?_
        intro i hb
        refine xa_seq ?_
        refine xa_seq ?_
        refine xa_region ?_
        refine x_move rfl rfl ?_
        refine x_move rfl rfl ?_
        refine x_len_sl rfl rfl ?_
        refine x_lss rfl rfl ?_
        refine xr_nil ⟨nofun, [(.t 3, _), (.t 4, _), (.t 5, _), (.t 6, _), (.t 7, _), (.t 8, _), (.t 43, _), (.h 3, _), (.h 4, _), (.h 6, _), (.h 7, _)], ⟨rfl, rfl, rfl, rfl, rfl, rfl, rfl, rfl, rfl, rfl, rfl, rfl, rfl, rfl, rfl, rfl, rfl, rfl, rfl, rfl, rfl, rfl, trivial⟩, ?_⟩
        refine xa_cond rfl (fun hc => ?_) (fun hc => ?_)
        · try simp only [decide_eq_true_eq, decide_eq_false_iff_not, Bool.not_eq_true', Bool.not_eq_false', bne_iff_ne, beq_iff_eq, ne_eq, Bool.not_true, Bool.not_false, beq_eq_false_iff_ne, bne_eq_false_iff_eq, Decidable.not_not, Int.not_lt, Int.not_le, Bool.and_eq_true, Bool.and_eq_false_iff, Bool.or_eq_true, Bool.or_eq_false_iff, List.length_map] at hc
          refine xa_skip ?_
          refine xa_seq ?_
          refine xa_block ?_
          refine xa_seq ?_
          refine xa_region ?_
          refine x_move rfl rfl ?_
          refine x_move rfl rfl ?_
          refine x_move rfl rfl ?_
          refine x_index_slN rfl rfl rfl rfl (by omega) (by (simp; done)) rfl ?_
          refine x_load_mapV rfl rfl (by omega) (fun _ => rfl) (fun _ => rfl) rfl ?_
          have hcl := cbR_len l lev (some true)
          rw [cbR_ok hvo ⟨hlv1, by omega⟩] at hcl
          have hin := suU_found ho (fun x hx => (hall x hx).1) hlv1 (show lev < 1000 by omega) (getD_mem (xs := foU (suU l l.length) lev l.length) (i := i) (by omega))
          apply x_call rfl
          · apply pa_cons
            · exact pa_lend_map rfl rfl rfl (by (simp; done)) (fun _ => rfl)
            apply pa_cons
            · exact pa_plain rfl
            exact pa_nil
          · exact s_isIn (clo l lev true) (by omega) ((foU (suU l l.length) lev l.length).getD i default)
          · exact ⟨rfl, rfl, rfl, of_decide_eq_true rfl, rfl⟩
          · exact .inr ⟨rfl, rfl⟩
          · exact back_nil
          · exact inst_plain rfl
          · exact fun _ => rfl
          intro g51
          rw [show decide ((foU (suU l l.length) lev l.length).getD i default ∈ clo l lev true) = true from decide_eq_true hin]
          refine x_not rfl ?_
          refine xr_nil ⟨nofun, [(.t 3, _), (.t 4, _), (.t 5, _), (.t 6, _), (.t 7, _), (.t 8, _), (.t 52, _), (.h 3, _), (.h 4, _), (.h 6, _), (.h 7, _)], ⟨rfl, rfl, rfl, rfl, rfl, rfl, rfl, rfl, rfl, rfl, rfl, rfl, rfl, rfl, rfl, rfl, rfl, rfl, rfl, rfl, rfl, rfl, trivial⟩, ?_⟩
          refine xa_cond rfl (fun hc => absurd hc (by decide)) (fun hc => ?_)
          refine xa_skip ?_
          refine xa_region ?_
          refine x_move rfl rfl ?_
          refine x_add rfl rfl (inI64 (by omega)) ?_
          refine x_assign rfl rfl rfl ?_
          refine xr_nil ⟨nofun, [(.t 3, _), (.t 4, _), (.t 5, _), (.t 6, _), (.t 7, _), (.t 8, _), (.h 3, _), (.h 4, _), (.h 6, _), (.h 7, _)], ⟨rfl, rfl, rfl, rfl, rfl, rfl, rfl, rfl, rfl, rfl, rfl, rfl, rfl, rfl, rfl, rfl, rfl, rfl, rfl, rfl, trivial⟩, ?_⟩
          refine ⟨i + 1, trivial, (by omega), ⟨rfl, rfl, rfl, rfl, rfl, rfl, rfl, rfl, rfl, rfl, trivial⟩⟩
        · try simp only [decide_eq_true_eq, decide_eq_false_iff_not, Bool.not_eq_true', Bool.not_eq_false', bne_iff_ne, beq_iff_eq, ne_eq, Bool.not_true, Bool.not_false, beq_eq_false_iff_ne, bne_eq_false_iff_eq, Decidable.not_not, Int.not_lt, Int.not_le, Bool.and_eq_true, Bool.and_eq_false_iff, Bool.or_eq_true, Bool.or_eq_false_iff, List.length_map] at hc
          refine xa_exit ?_
          refine xa_region ?_
          refine x_move rfl rfl ?_
          refine x_add rfl rfl (inI64 (by omega)) ?_
          refine x_assign rfl rfl rfl ?_
          refine xr_nil ⟨nofun, [(.t 3, _), (.t 4, _), (.t 5, _), (.h 3, _), (.h 4, _)], ⟨rfl, rfl, rfl, rfl, rfl, rfl, rfl, rfl, rfl, rfl, trivial⟩, ?_⟩
          refine ⟨lev + 37, ⟨by omega, by omega⟩, (by omega), ⟨rfl, rfl, rfl, rfl, rfl, trivial⟩⟩
      · try simp only [decide_eq_true_eq, decide_eq_false_iff_not, Bool.not_eq_true', Bool.not_eq_false', bne_iff_ne, beq_iff_eq, ne_eq, Bool.not_true, Bool.not_false, beq_eq_false_iff_ne, bne_eq_false_iff_eq, Decidable.not_not, Int.not_lt, Int.not_le, Bool.and_eq_true, Bool.and_eq_false_iff, Bool.or_eq_true, Bool.or_eq_false_iff, List.length_map] at hc
        refine xa_exit ?_
        refine xa_seq ?_
        refine xa_region ?_
        refine x_move rfl rfl ?_
        refine x_len_sl rfl rfl ?_
        refine x_move rfl rfl ?_
        refine x_len_sl rfl rfl ?_
        refine x_eql rfl rfl ?_
        refine x_assign rfl rfl rfl ?_
        refine xr_nil ⟨nofun, [(.t 2, _)], ⟨rfl, rfl, trivial⟩, ?_⟩
        refine xa_ret ?_
        refine ret_val' rfl rfl trivial ?_
        (simp; done)
end Go.Proofs.Ytnfhloidepjncaa

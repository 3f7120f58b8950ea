/- The functions of Go's library keep the contracts that the abstract machine asks of them. Conditions: none. -/
import Derived.Test.YtncmealoojjcpaaSa
import Derived.Shelf.SlicesE.Clone
import Derived.Shelf.SortM.Plain
import Derived.Shelf.SortM.SortNone
import Derived.Lib.QuietBelow
import Derived.Shelf.SlSortCmp.NoneTotal
import Derived.Shelf.SlLaysE0
import Derived.Ground.SlgnProg
import Derived.Shelf.SlLaysM
import Derived.Ground.SlgmProg
import Derived.Shelf.SlLaysF0
import Derived.Ground.SlsfProg

set_option linter.unusedVariables false
set_option linter.unusedSimpArgs false
section
/- Functions of the library: that they keep the contracts which the abstract machine asks of them. -/
open Go Go.Mv Go.Proofs Go.Shelf Go.RowKit Go.Lib
namespace Go.Mv
theorem mergeSort_sortI (xs : List Int) : (xs.mergeSort fun x y => decide (x ≤ y)) = sortI xs := by
  refine List.Perm.eq_of_pairwise (le := (· ≤ ·)) (fun a b _ _ h1 h2 => by omega) ?_ (sortI_sorted xs) ((List.mergeSort_perm _ _).trans (sortI_perm xs).symm)
  have := List.pairwise_mergeSort (le := fun x y : Int => decide (x ≤ y)) (fun a b c h1 h2 => by simp at *; omega) (fun a b => by simp; omega) xs
  simpa using this
end Go.Mv
namespace Go.Proofs
variable {P : Program} {ρ : Ren}
set_option maxHeartbeats 2000000 in
set_option maxRecDepth 100000 in
theorem clone_empty (L : SlLaysE0.n41 P ρ) (z23 : ∀ w, (Go.sizeOf (ρ.t 23)).run P w = .ok 1 w) (a : Addr) (c : Nat) (w : World) :
    Calls P (ρ.f 41) #[.slice (some a) 0 c] w fun e w' => e = .returned (.slice (some ⟨w.heap.size, 0, none⟩) 0 0) ∧ w' = w.alloc (.cells #[] (ρ.t 23)) := by
  have mixed := L.mixed; have t4 := L.t4; have a4 := L.a4; have z4 := L.z4; have v4 := L.v4; have t22 := L.t22; have a22 := L.a22; have z22 := L.z22; have v22 := L.v22
  have q22 : ∀ (w : World) (a : Option Addr) (n c n' c' : Nat), (binOp .eql (ρ.t 22) (.slice a n c) (.slice none n' c')).run P w = .ok (.bool a.isNone) w := fun w a n c n' c' => Lib.run_eql_slice_nil w _ _ a n c n' c' L.t22
  have u22 : ∀ w, Sem.run P (underlying (ρ.t 22)) w = .ok (TypeDesc.slice (ρ.t 23)) w := run_underlying t22
  obtain ⟨_, _, FG⟩ := L.f41
  go_enter FG, SlBodyN.n41_ntmps ρ
  go_wp2
  go_ret
  exact ⟨rfl, rfl⟩

theorem clone_any (L : SlLaysE0.n41 P ρ) (i0 : TypeInfo) (z : Value) (hi : P.info? (ρ.t 23) = some i0) (hz0 : i0.zero = some z) (hz1 : i0.size = 1) (hz2 : i0.bytes = 8) (hzs : z.cells.size = 1)
    (z23 : ∀ w, (Go.sizeOf (ρ.t 23)).run P w = .ok 1 w) (w : World) (a : Option Addr) (n c : Nat) (news : List Value) (hl : news.length = n) (hn : n ≤ maxL)
    (hc : n ≠ 0 → ∃ b o, a = some ⟨b, o, none⟩ ∧ ∀ (j : Nat) u, news[j]? = some u → w.cell? ⟨b, o + j, none⟩ = some u) (h1 : ∀ u ∈ news, ∃ x, u = Value.int .i64 x) :
    Calls P (ρ.f 41) #[.slice a n c] w fun e w' => ∃ v', e = .returned v' ∧ w'.ownsRow w.heap.size (ρ.t 23) 1 v' n news ∧ Below w.heap.size w w' := by
  simp only [maxL] at hn
  cases a with
  | none =>
    have h0 : n = 0 := Classical.byContradiction fun h => by obtain ⟨_, _, h2, _⟩ := hc h; cases h2
    subst h0
    refine (AnyE.slices_Clone_nil L 0 c w).mono ?_
    rintro e w' ⟨rfl, rfl⟩
    exact ⟨_, rfl, ⟨by simpa using hl, .inl ⟨rfl, rfl⟩⟩, .refl _ _⟩
  | some a =>
    by_cases h0 : n = 0
    · subst h0
      refine (clone_empty L z23 a c w).mono ?_
      rintro e w' ⟨rfl, rfl⟩
      refine ⟨_, rfl, ⟨by simpa using hl, .inr ⟨w.heap.size, 0, #[], rfl, Nat.le_refl _, heap_alloc_new w _, Nat.le_refl _, by simp [maxLen], rfl, ?_⟩⟩, (Below.refl _ _).alloc (Nat.le_refl _) _⟩
      have : news = [] := List.length_eq_zero_iff.1 hl
      subst this
      rfl
    · obtain ⟨b, o, he, hcl⟩ := hc h0
      cases he
      refine (AnyE.slices_Clone L i0 z 1 8 hi hz0 hz1 hz2 hzs (by decide) z23 b o n c news w (by omega) (by simp [maxLen]; omega) (by omega) hcl (fun u hu => by obtain ⟨x, rfl⟩ := h1 u hu; rfl)).mono ?_
      rintro e w' ⟨v', rfl, hown, _, hB⟩
      exact ⟨v', rfl, hown, hB⟩

theorem unI_eq : ∀ {es : List AV} {xs : List Int}, unI es = some xs → es = xs.map iV
  | [], xs, h => by cases h; rfl
  | .val (.int .i64 n) :: r, xs, h => by
    simp only [unI, Option.map_eq_some_iff] at h
    obtain ⟨ys, h1, rfl⟩ := h
    rw [unI_eq h1]
    rfl

theorem soundX_clone {Γ : Env} (hmo : ¬ Γ.mo) (f : Nat) (md : Nat → Nat) (L : SlLaysE0.n41 P ρ) (i0 : TypeInfo) (z : Value) (hi : P.info? (ρ.t 23) = some i0) (hz0 : i0.zero = some z) (hz1 : i0.size = 1) (hz2 : i0.bytes = 8) (hzs : z.cells.size = 1)
    (z23 : ∀ w, (Go.sizeOf (ρ.t 23)).run P w = .ok 1 w) (hf : ρ.f 41 = f) {args : List AV} {res : AV} {outs : List (List AV)} (h : extClone args = some (res, outs)) : Contract Γ P md f args res outs := by
  unfold extClone at h
  split at h
  · rename_i es
    split at h
    · rename_i hl
      simp only [Option.map_eq_some_iff, Prod.mk.injEq] at h
      obtain ⟨xs, h1, rfl, rfl⟩ := h
      have := unI_eq h1
      subst this
      subst hf
      exact contract_clone hmo xs (by simpa using hl) (fun w a n c news => clone_any L i0 z hi hz0 hz1 hz2 hzs z23 w a n c news)
    · cases h
  · cases h

theorem soundX_sort {Γ : Env} (f : Nat) (md : Nat → Nat) (L : SlLaysM.n5 P ρ) (hf : ρ.f 5 = f) (hmd : md 0 = 1) {args : List AV} {res : AV} {outs : List (List AV)} (h : extSort args = some (res, outs)) : Contract Γ P md f args res outs := by
  unfold extSort at h
  split at h
  · rename_i es
    split at h
    · rename_i hl
      simp only [Option.map_eq_some_iff, Prod.mk.injEq] at h
      obtain ⟨xs, h1, rfl, rfl⟩ := h
      have := unI_eq h1
      subst this
      subst hf
      refine contract_sort xs (sortI xs) (by simpa using hl) (by simp) hmd (fun w a c => AnyM.slices_Sort_int_none L a c w) (fun w b o c hH hb hx => ?_)
      have := AnyM.slices_Sort_int L b o c xs w hH hb (by simp only [maxL] at hx; omega)
      rwa [mergeSort_sortI] at this
    · cases h
  · cases h
end Go.Proofs
namespace Go.Proofs
theorem extOf_mem {tb : List (Nat × (List AV → Option (AV × List (List AV))))} {f : Nat} {F : List AV → Option (AV × List (List AV))} (h : extOf tb f = some F) : (f, F) ∈ tb := by
  unfold extOf at h
  split at h
  · rename_i x hx
    cases h
    have h1 := List.mem_of_find?_eq_some hx
    have h2 : (x.1 == f) = true := by simpa using List.find?_some hx
    rw [← eq_of_beq h2]
    exact h1
  · cases h
def infoI (i : TypeInfo) : Bool := i.size == 1 && i.bytes == 8 && (match i.zero with | some (.int .i64 0) => true | _ => false)
theorem infoI_of {P : Program} {T : Nat} (h : (match P.info? T with | some i => infoI i | none => false) = true) :
    ∃ i0 z, P.info? T = some i0 ∧ i0.zero = some z ∧ i0.size = 1 ∧ i0.bytes = 8 ∧ z.cells.size = 1 := by
  split at h
  · rename_i i hi
    simp only [infoI, Bool.and_eq_true, beq_iff_eq] at h
    obtain ⟨⟨h1, h2⟩, h3⟩ := h
    split at h3
    · rename_i hz
      exact ⟨i, _, hi, hz, h1, h2, rfl⟩
    · cases h3
  · cases h
theorem enters_ext {P : Program} {f : Nat} {fn : Func} (h : P.funcs[f]? = some fn) (h1 : (fn.name == "runtime.NumGoroutine") = false) (h2 : fn.body.isNone = false) : Mv.Enters P f := ⟨fn, h, h1, h2⟩
end Go.Proofs
end
section
/- slices.SortFunc at fractions: that it keeps its contract. -/
open Go Go.Mv Go.Proofs Go.Shelf Go.RowKit Go.Lib Go.Sort
namespace Go.Proofs
variable {P : Program} {ρ : Ren}
abbrev SQ := { q : Rat // Sm 1000000000 q }
instance : Inhabited SQ := ⟨0, by refine ⟨?_, ?_, ?_⟩ <;> decide +kernel⟩
def encQ (x : SQ) : List Value := [.int .i64 x.1.num, .int .i64 (x.1.den : Int)]
def cfQ (x y : SQ) : Int := max (-1) (min 1 (x.1 - y.1).num)
theorem ltQ (x y : SQ) : ltOf cfQ x y = decide (x.1 < y.1) := by
  unfold ltOf cfQ
  rw [decide_eq_decide, ← lt_num]
  omega
theorem swoQ : SWO (ltOf cfQ) where
  irrefl x := by rw [ltQ]; simp
  trans x y z h1 h2 := by rw [ltQ] at *; simp only [decide_eq_true_eq] at *; grind
  ntrans x y z h1 h2 := by rw [ltQ] at *; simp only [decide_eq_false_iff_not] at *; grind
theorem flat_cells (l : List SQ) : flatK encQ 2 l.toArray = cellsQ (l.map (·.1)) := by
  refine ext_get! (by simp) fun t ht => ?_
  have ht' : t < l.length * 2 := by simpa using ht
  rw [get_flatK _ _ _ t (by simpa using ht'), cellsQ_getE (by simpa using ht')]
  have hi : t / 2 < l.length := by omega
  have e1 : l.toArray[t / 2]! = l[t / 2] := by rw [getElem!_pos l.toArray (t / 2) (by simpa using hi)]; simp
  have e2 : (l.map (·.1)).getD (t / 2) default = l[t / 2].1 := by rw [List.getD_eq_getElem?_getD, List.getElem?_map, List.getElem?_eq_getElem hi]; rfl
  rw [e1]
  unfold cq encQ
  rw [e2]
  rcases (by omega : t % 2 = 0 ∨ t % 2 = 1) with e | e
  · rw [e]; simp
  · rw [e]; simp
theorem grown_of {W W' : World} (hB : Below W.heap.size W W') (hd : W.drawn ≤ W'.drawn) : ∃ q os, W' = grow (W.drewN q) os := by
  obtain ⟨p, hp⟩ := regrown_of_below hB
  refine ⟨p.d - W.drawn, p.os, ?_⟩
  have h1 : W'.drawn = p.d := by rw [hp]; rfl
  rw [hp]
  unfold redrawn World.drewN
  rw [show W.drawn + (p.d - W.drawn) = p.d by omega]
theorem soundX_sortF {Γ : Env} (L : SlLaysF0.n6 P ρ) (aE : ∀ w, (isAgg (ρ.t 24)).run P w = .ok true w) (zE : ∀ w, (Go.sizeOf (ρ.t 24)).run P w = .ok 2 w) (f g : Nat) (hf : ρ.f 6 = f) (md : Nat → Nat) (hmd : md 0 = 1)
    (eg : ∀ args w, (callFunc g args).run P w = .ok (.enter g args) w)
    (hcmp : ∀ (x y : Rat), Sm 1000000000 x → Sm 1000000000 y → ∀ W, Calls P g #[.agg #[.int .i64 x.num, .int .i64 (x.den : Int)], .agg #[.int .i64 y.num, .int .i64 (y.den : Int)]] W fun e w' =>
      e = .returned (.int .i64 (max (-1) (min 1 (x - y).num))) ∧ Below W.heap.size W w' ∧ W.drawn ≤ w'.drawn)
    {args : List AV} {res : AV} {outs : List (List AV)} (h : extSortF g args = some (res, outs)) : Contract Γ P md f args res outs := by
  obtain ⟨xs, rfl, hl, hx, he⟩ := extSortF_inv h
  cases he
  subst hf
  refine contract_sortQ xs (sortQ xs) hl (by simp) hmd (fun w a c => AnyF.slices_SortFunc_none L a c _ w) (fun w b o c _ _ hH hb => ?_)
  have hsz : (xs.attachWith _ hx).toArray.size = xs.length := by simp
  have hcells : flatK encQ 2 (xs.attachWith _ hx).toArray = cellsQ xs := by rw [flat_cells]; simp
  have := AnyQ.slices_SortFunc_total L 2 aE zE encQ (fun _ => rfl) (fun x v hv => by simp [encQ] at hv; rcases hv with rfl | rfl <;> rfl) cfQ swoQ g #[] b o c (xs.attachWith _ hx).toArray w eg
    (fun m os dk _ x y => ((hcmp x.1 y.1 x.2 y.2 _).mono fun e w' ⟨h1, h2, h3⟩ => ⟨h1, grown_of h2 h3⟩)) (by unfold HoldsK; rw [hcells]; exact hH) hb (by rw [hsz]; simp only [maxL] at hl; omega)
    (fun x y h1 h2 => by rw [ltQ] at h1 h2; simp only [decide_eq_false_iff_not] at h1 h2; exact Subtype.ext (by grind))
  rw [hsz] at this
  refine this.mono ?_
  rintro e w' ⟨rfl, n, os, rfl⟩
  refine ⟨rfl, n, os, ?_⟩
  unfold sortWorldK putRowK
  rw [flat_cells]
  congr 3
  refine sortQ_of ?_ ?_
  · have := (List.mergeSort_perm (xs.attachWith _ hx) fun x y => !(ltOf cfQ) y x).map (fun x : SQ => x.1)
    simpa using this
  · rw [List.pairwise_map]
    have h1 := List.pairwise_mergeSort (le := fun x y : SQ => !(ltOf cfQ) y x) (fun a b c h1 h2 => by simp only [ltQ, Bool.not_eq_true', decide_eq_false_iff_not] at *; grind) (fun a b => by simp only [ltQ, Bool.or_eq_true, Bool.not_eq_true', decide_eq_false_iff_not]; grind) (xs.attachWith _ hx)
    have e : ∀ a b : SQ, (!(ltOf cfQ) b a) = true ↔ a.1 ≤ b.1 := fun a b => by simp only [ltQ, Bool.not_eq_true', decide_eq_false_iff_not]; grind
    exact h1.imp fun h => (e _ _).1 h
end Go.Proofs
end
open Go Go.Mv Go.Proofs Go.Proofs.Ytncmealoojjcpaa Go.Shelf Go.RowKit Go.Lib
namespace Go.Proofs
def Try.lClone_ren : Go.Shelf.Ren := ⟨fun | 41 => 119 | n => n, fun | 22 => 22 | 23 => 3 | 4 => 4 | n => n, fun | n => n⟩
theorem Try.lClone : Go.Proofs.SlLaysE0.n41 Try.prog Try.lClone_ren := {
  mixed := by kernel_rfl
  f41 := ⟨Try.f119.name, by decide, Try.func119.trans (congrArg some (by kernel_rfl))⟩
  t4 := Try.underlying4
  a4 := Try.isAgg4
  z4 := Try.sizeOf4
  v4 := Try.zeroValue4
  t22 := Try.underlying22
  a22 := Try.isAgg22
  z22 := Try.sizeOf22
  v22 := Try.zeroValue22 }
def Try.lSort_ren : Go.Shelf.Ren := ⟨fun | 5 => 120 | 8 => 117 | 7 => 133 | 19 => 131 | 20 => 132 | 10 => 140 | 11 => 141 | 12 => 142 | 13 => 143 | 14 => 144 | 15 => 145 | 16 => 146 | 17 => 147 | 18 => 148 | 30 => 150 | 31 => 136 | 32 => 137 | 33 => 151 | 34 => 152 | 35 => 153 | 40 => 154 | n => n, fun | 23 => 22 | 25 => 3 | 3 => 3 | 32 => 89 | 22 => 22 | 0 => 0 | 44 => 103 | 46 => 105 | 4 => 4 | 36 => 96 | 35 => 95 | 41 => 100 | 5 => 5 | 9 => 9 | 53 => 108 | 57 => 112 | 63 => 119 | 64 => 42 | n => n, fun | n => n⟩
theorem Try.lSort : Go.Proofs.SlLaysM.n5 Try.prog Try.lSort_ren := {
  mixed := by kernel_rfl
  f5 := ⟨Try.f120.name, by decide, Try.func120.trans (congrArg some (by kernel_rfl))⟩
  f7 := ⟨Try.f133.name, by decide, Try.func133.trans (congrArg some (by kernel_rfl))⟩
  f8 := Try.func117.trans (congrArg some (by kernel_rfl))
  f10 := ⟨Try.f140.name, by decide, Try.func140.trans (congrArg some (by kernel_rfl))⟩
  f11 := ⟨Try.f141.name, by decide, Try.func141.trans (congrArg some (by kernel_rfl))⟩
  f12 := ⟨Try.f142.name, by decide, Try.func142.trans (congrArg some (by kernel_rfl))⟩
  f13 := ⟨Try.f143.name, by decide, Try.func143.trans (congrArg some (by kernel_rfl))⟩
  f14 := ⟨Try.f144.name, by decide, Try.func144.trans (congrArg some (by kernel_rfl))⟩
  f15 := ⟨Try.f145.name, by decide, Try.func145.trans (congrArg some (by kernel_rfl))⟩
  f16 := ⟨Try.f146.name, by decide, Try.func146.trans (congrArg some (by kernel_rfl))⟩
  f17 := ⟨Try.f147.name, by decide, Try.func147.trans (congrArg some (by kernel_rfl))⟩
  f18 := ⟨Try.f148.name, by decide, Try.func148.trans (congrArg some (by kernel_rfl))⟩
  f19 := Try.func131.trans (congrArg some (by kernel_rfl))
  f20 := Try.func132.trans (congrArg some (by kernel_rfl))
  f30 := ⟨Try.f150.name, by decide, Try.func150.trans (congrArg some (by kernel_rfl))⟩
  f31 := Try.func136.trans (congrArg some (by kernel_rfl))
  f32 := Try.func137.trans (congrArg some (by kernel_rfl))
  f33 := ⟨Try.f151.name, by decide, Try.func151.trans (congrArg some (by kernel_rfl))⟩
  f34 := ⟨Try.f152.name, by decide, Try.func152.trans (congrArg some (by kernel_rfl))⟩
  f35 := ⟨Try.f153.name, by decide, Try.func153.trans (congrArg some (by kernel_rfl))⟩
  f40 := ⟨Try.f154.name, by decide, Try.func154.trans (congrArg some (by kernel_rfl))⟩
  t0 := Try.underlying0
  a0 := Try.isAgg0
  z0 := Try.sizeOf0
  v0 := Try.zeroValue0
  t3 := Try.underlying3
  a3 := Try.isAgg3
  z3 := Try.sizeOf3
  v3 := Try.zeroValue3
  t4 := Try.underlying4
  a4 := Try.isAgg4
  z4 := Try.sizeOf4
  v4 := Try.zeroValue4
  t5 := Try.underlying5
  a5 := Try.isAgg5
  z5 := Try.sizeOf5
  v5 := Try.zeroValue5
  t9 := Try.underlying9
  a9 := Try.isAgg9
  z9 := Try.sizeOf9
  v9 := Try.zeroValue9
  t22 := Try.underlying22
  a22 := Try.isAgg22
  z22 := Try.sizeOf22
  v22 := Try.zeroValue22
  t23 := Try.underlying22
  a23 := Try.isAgg22
  z23 := Try.sizeOf22
  v23 := Try.zeroValue22
  t25 := Try.underlying3
  a25 := Try.isAgg3
  z25 := Try.sizeOf3
  v25 := Try.zeroValue3
  t32 := Try.underlying89
  a32 := Try.isAgg89
  z32 := Try.sizeOf89
  v32 := Try.zeroValue89
  t35 := Try.underlying95
  a35 := Try.isAgg95
  z35 := Try.sizeOf95
  v35 := Try.zeroValue95
  t36 := Try.underlying96
  a36 := Try.isAgg96
  z36 := Try.sizeOf96
  v36 := Try.zeroValue96
  t41 := Try.underlying100
  a41 := Try.isAgg100
  z41 := Try.sizeOf100
  v41 := Try.zeroValue100
  t44 := Try.underlying103
  a44 := Try.isAgg103
  z44 := Try.sizeOf103
  v44 := Try.zeroValue103
  t46 := Try.underlying105
  a46 := Try.isAgg105
  z46 := Try.sizeOf105
  v46 := Try.zeroValue105
  t53 := Try.underlying108
  a53 := Try.isAgg108
  z53 := Try.sizeOf108
  v53 := Try.zeroValue108
  t57 := Try.underlying112
  a57 := Try.isAgg112
  z57 := Try.sizeOf112
  v57 := Try.zeroValue112
  t63 := Try.underlying119
  a63 := Try.isAgg119
  z63 := Try.sizeOf119
  v63 := Try.zeroValue119
  t64 := Try.underlying42
  a64 := Try.isAgg42
  z64 := Try.sizeOf42
  v64 := Try.zeroValue42 }
def Try.lSortF_ren : Go.Shelf.Ren := ⟨fun | 6 => 97 | 15 => 117 | 14 => 116 | 28 => 131 | 29 => 132 | 20 => 123 | 21 => 124 | 22 => 125 | 23 => 126 | 24 => 127 | 25 => 128 | 26 => 129 | 27 => 130 | 46 => 135 | 47 => 136 | 48 => 137 | 49 => 138 | 50 => 139 | 57 => 149 | n => n, fun | 22 => 35 | 24 => 24 | 25 => 72 | 3 => 3 | 39 => 89 | 0 => 0 | 53 => 103 | 55 => 105 | 4 => 4 | 46 => 96 | 45 => 95 | 50 => 100 | 5 => 5 | 9 => 9 | 66 => 108 | 70 => 112 | 76 => 119 | 77 => 42 | n => n, fun | n => n⟩
theorem Try.lSortF : Go.Proofs.SlLaysF0.n6 Try.prog Try.lSortF_ren := {
  mixed := by kernel_rfl
  f6 := ⟨Try.f97.name, by decide, Try.func97.trans (congrArg some (by kernel_rfl))⟩
  f14 := ⟨Try.f116.name, by decide, Try.func116.trans (congrArg some (by kernel_rfl))⟩
  f15 := Try.func117.trans (congrArg some (by kernel_rfl))
  f20 := ⟨Try.f123.name, by decide, Try.func123.trans (congrArg some (by kernel_rfl))⟩
  f21 := ⟨Try.f124.name, by decide, Try.func124.trans (congrArg some (by kernel_rfl))⟩
  f22 := ⟨Try.f125.name, by decide, Try.func125.trans (congrArg some (by kernel_rfl))⟩
  f23 := ⟨Try.f126.name, by decide, Try.func126.trans (congrArg some (by kernel_rfl))⟩
  f24 := ⟨Try.f127.name, by decide, Try.func127.trans (congrArg some (by kernel_rfl))⟩
  f25 := ⟨Try.f128.name, by decide, Try.func128.trans (congrArg some (by kernel_rfl))⟩
  f26 := ⟨Try.f129.name, by decide, Try.func129.trans (congrArg some (by kernel_rfl))⟩
  f27 := ⟨Try.f130.name, by decide, Try.func130.trans (congrArg some (by kernel_rfl))⟩
  f28 := Try.func131.trans (congrArg some (by kernel_rfl))
  f29 := Try.func132.trans (congrArg some (by kernel_rfl))
  f46 := ⟨Try.f135.name, by decide, Try.func135.trans (congrArg some (by kernel_rfl))⟩
  f47 := Try.func136.trans (congrArg some (by kernel_rfl))
  f48 := Try.func137.trans (congrArg some (by kernel_rfl))
  f49 := ⟨Try.f138.name, by decide, Try.func138.trans (congrArg some (by kernel_rfl))⟩
  f50 := ⟨Try.f139.name, by decide, Try.func139.trans (congrArg some (by kernel_rfl))⟩
  f57 := ⟨Try.f149.name, by decide, Try.func149.trans (congrArg some (by kernel_rfl))⟩
  t0 := Try.underlying0
  a0 := Try.isAgg0
  z0 := Try.sizeOf0
  v0 := Try.zeroValue0
  t3 := Try.underlying3
  a3 := Try.isAgg3
  z3 := Try.sizeOf3
  v3 := Try.zeroValue3
  t4 := Try.underlying4
  a4 := Try.isAgg4
  z4 := Try.sizeOf4
  v4 := Try.zeroValue4
  t5 := Try.underlying5
  a5 := Try.isAgg5
  z5 := Try.sizeOf5
  v5 := Try.zeroValue5
  t9 := Try.underlying9
  a9 := Try.isAgg9
  z9 := Try.sizeOf9
  v9 := Try.zeroValue9
  t22 := Try.underlying35
  a22 := Try.isAgg35
  z22 := Try.sizeOf35
  v22 := Try.zeroValue35
  t25 := Try.underlying72
  a25 := Try.isAgg72
  z25 := Try.sizeOf72
  v25 := Try.zeroValue72
  t39 := Try.underlying89
  a39 := Try.isAgg89
  z39 := Try.sizeOf89
  v39 := Try.zeroValue89
  t45 := Try.underlying95
  a45 := Try.isAgg95
  z45 := Try.sizeOf95
  v45 := Try.zeroValue95
  t46 := Try.underlying96
  a46 := Try.isAgg96
  z46 := Try.sizeOf96
  v46 := Try.zeroValue96
  t50 := Try.underlying100
  a50 := Try.isAgg100
  z50 := Try.sizeOf100
  v50 := Try.zeroValue100
  t53 := Try.underlying103
  a53 := Try.isAgg103
  z53 := Try.sizeOf103
  v53 := Try.zeroValue103
  t55 := Try.underlying105
  a55 := Try.isAgg105
  z55 := Try.sizeOf105
  v55 := Try.zeroValue105
  t66 := Try.underlying108
  a66 := Try.isAgg108
  z66 := Try.sizeOf108
  v66 := Try.zeroValue108
  t70 := Try.underlying112
  a70 := Try.isAgg112
  z70 := Try.sizeOf112
  v70 := Try.zeroValue112
  t76 := Try.underlying119
  a76 := Try.isAgg119
  z76 := Try.sizeOf119
  v76 := Try.zeroValue119
  t77 := Try.underlying42
  a77 := Try.isAgg42
  z77 := Try.sizeOf42
  v77 := Try.zeroValue42 }
theorem Try.soundE : SoundC (Env.none True) cxE (CW cxE) := CW_sound cxE (fun f F av res outs h => by cases h) (by kernel_rfl)
theorem Try.cmpE (x y : Rat) (hx : Sm 1000000000 x) (hy : Sm 1000000000 y) (W : World) : Calls Try.prog 83 #[.agg #[.int .i64 x.num, .int .i64 (x.den : Int)], .agg #[.int .i64 y.num, .int .i64 (y.den : Int)]] W fun e w' =>
      e = .returned (.int .i64 (max (-1) (min 1 (x - y).num))) ∧ Below W.heap.size W w' ∧ W.drawn ≤ w'.drawn := by
  refine (law_callsD cxE Try.soundE (av := [qV x, qV y]) rfl (fun i a hi => ?_) (fun a ha => ?_) (E.s_compare x y hx hy) (fun _ h => h.elim) trivial).mono fun e w' h => ⟨h.1, h.2.1, h.2.2 trivial⟩
  · match i, hi with
    | 0, hi => cases hi; exact rv_q x
    | 1, hi => cases hi; exact rv_q y
  · simp at ha; rcases ha with rfl | rfl <;> rfl
theorem Try.soundX : SoundX (Env.none False) cxT := by
  intro f F args res outs hF h
  have hm := extOf_mem (show extOf extT f = some F from hF)
  simp only [extT, List.mem_cons, Prod.mk.injEq, List.not_mem_nil, or_false] at hm
  rcases hm with ⟨rfl, rfl⟩ | ⟨rfl, rfl⟩ | ⟨rfl, rfl⟩
  · exact ⟨soundX_sortF Try.lSortF Try.isAgg24 Try.sizeOf24 _ 83 rfl _ rfl (enters_of Try.func83 (by kernel_rfl) rfl) Try.cmpE h, enters_ext Try.func97 (by kernel_rfl) (by kernel_rfl)⟩
  · obtain ⟨i0, z, hi, hz0, hz1, hz2, hzs⟩ := infoI_of (P := Try.prog) (T := 3) (by kernel_rfl)
    exact ⟨soundX_clone (fun h => h) _ _ Try.lClone i0 z hi hz0 hz1 hz2 hzs Try.sizeOf3 rfl h, enters_ext Try.func119 (by kernel_rfl) (by kernel_rfl)⟩
  · exact ⟨soundX_sort _ _ Try.lSort rfl rfl h, enters_ext Try.func120 (by kernel_rfl) (by kernel_rfl)⟩
theorem Try.sound : SoundC (Env.none False) cxT (CW cxT) := CW_sound cxT Try.soundX (by kernel_rfl)
end Go.Proofs

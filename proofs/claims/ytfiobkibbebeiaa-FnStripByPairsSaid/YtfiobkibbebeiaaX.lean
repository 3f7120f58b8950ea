/- The functions of Go's library keep the contracts that the abstract machine asks of them. Conditions: none. -/
import Derived.Test.YtfiobkibbebeiaaSa
import Derived.Shelf.SlicesE.Clone
import Derived.Shelf.SortM.Plain
import Derived.Shelf.SortM.SortNone
import Derived.Lib.QuietBelow
import Derived.Shelf.SlSortCmp.NoneTotal
import Derived.Shelf.SlLaysF0
import Derived.Ground.SlsfProg

set_option linter.unusedVariables false
set_option linter.unusedSimpArgs false
section
/- Functions of the library: that they keep the contracts which the abstract machine asks of them. -/
open Go Go.Mv Go.Proofs Go.Shelf Go.RowKit Go.Lib
namespace Go.Mv
theorem a7c (xs : List Int) : (xs.mergeSort fun x y => decide (x ≤ y)) = V9 xs := by
  refine List.Perm.eq_of_pairwise (le := (· ≤ ·)) (fun a b _ _ h1 h2 => by omega) ?_ (a3w xs) ((List.mergeSort_perm _ _).trans (a9r xs).symm)
  have := List.pairwise_mergeSort (le := fun x y : Int => decide (x ≤ y)) (fun a b c h1 h2 => by simp at *; omega) (fun a b => by simp; omega) xs
  simpa using this
end Go.Mv
namespace Go.Proofs
variable {P : Program} {ρ : Ren}
set_option maxHeartbeats 2000000 in
set_option maxRecDepth 100000 in
theorem b5q (L : SlLaysE0.n41 P ρ) (z23 : ∀ w, (Go.sizeOf (ρ.t 23)).run P w = .ok 1 w) (a : Addr) (c : Nat) (w : World) :
    Calls P (ρ.f 41) #[.slice (some a) 0 c] w fun e w' => e = .returned (.slice (some ⟨w.heap.size, 0, none⟩) 0 0) ∧ w' = w.alloc (.cells #[] (ρ.t 23)) := by
  have mixed := L.mixed; have t4 := L.t4; have a4 := L.a4; have z4 := L.z4; have v4 := L.v4; have t22 := L.t22; have a22 := L.a22; have z22 := L.z22; have v22 := L.v22
  have q22 : ∀ (w : World) (a : Option Addr) (n c n' c' : Nat), (binOp .eql (ρ.t 22) (.slice a n c) (.slice none n' c')).run P w = .ok (.bool a.isNone) w := fun w a n c n' c' => Lib.run_eql_slice_nil w _ _ a n c n' c' L.t22
  have u22 : ∀ w, Sem.run P (underlying (ρ.t 22)) w = .ok (TypeDesc.slice (ρ.t 23)) w := run_underlying t22
  obtain ⟨_, _, FG⟩ := L.f41
  go_enter FG, SlBodyN.n41_ntmps ρ
  go_wp2
  go_ret
  exact ⟨rfl, rfl⟩

theorem c2k (L : SlLaysE0.n41 P ρ) (i0 : TypeInfo) (z : Value) (hi : P.info? (ρ.t 23) = some i0) (hz0 : i0.zero = some z) (hz1 : i0.size = 1) (hz2 : i0.bytes = 8) (hzs : z.cells.size = 1)
    (z23 : ∀ w, (Go.sizeOf (ρ.t 23)).run P w = .ok 1 w) (w : World) (a : Option Addr) (n c : Nat) (news : List Value) (hl : news.length = n) (hn : n ≤ O8)
    (hc : n ≠ 0 → ∃ b o, a = some ⟨b, o, none⟩ ∧ ∀ (j : Nat) u, news[j]? = some u → w.cell? ⟨b, o + j, none⟩ = some u) (h1 : ∀ u ∈ news, ∃ x, u = Value.int .i64 x) :
    Calls P (ρ.f 41) #[.slice a n c] w fun e w' => ∃ v', e = .returned v' ∧ w'.ownsRow w.heap.size (ρ.t 23) 1 v' n news ∧ Below w.heap.size w w' := by
  simp only [O8] at hn
  cases a with
  | none =>
    have h0 : n = 0 := Classical.byContradiction fun h => by obtain ⟨_, _, h2, _⟩ := hc h; cases h2
    subst h0
    refine (AnyE.slices_Clone_nil L 0 c w).mono ?_
    rintro e w' ⟨rfl, rfl⟩
    exact ⟨_, rfl, ⟨by simpa using hl, .inl ⟨rfl, rfl⟩⟩, .refl _ _⟩
  | some a =>
    by_cases h0 : n = 0
    · subst h0
      refine (b5q L z23 a c w).mono ?_
      rintro e w' ⟨rfl, rfl⟩
      refine ⟨_, rfl, ⟨by simpa using hl, .inr ⟨w.heap.size, 0, #[], rfl, Nat.le_refl _, heap_alloc_new w _, Nat.le_refl _, by simp [maxLen], rfl, ?_⟩⟩, (Below.refl _ _).alloc (Nat.le_refl _) _⟩
      have : news = [] := List.length_eq_zero_iff.1 hl
      subst this
      rfl
    · obtain ⟨b, o, he, hcl⟩ := hc h0
      cases he
      refine (AnyE.slices_Clone L i0 z 1 8 hi hz0 hz1 hz2 hzs (by decide) z23 b o n c news w (by omega) (by simp [maxLen]; omega) (by omega) hcl (fun u hu => by obtain ⟨x, rfl⟩ := h1 u hu; rfl)).mono ?_
      rintro e w' ⟨v', rfl, hown, _, hB⟩
      exact ⟨v', rfl, hown, hB⟩

theorem b7s : ∀ {es : List AV} {xs : List Int}, unI es = some xs → es = xs.map iV
  | [], xs, h => by cases h; rfl
  | .val (.int .i64 n) :: r, xs, h => by
    simp only [unI, Option.map_eq_some_iff] at h
    obtain ⟨ys, h1, rfl⟩ := h
    rw [b7s h1]
    rfl

theorem soundX_clone {Γ : Env} (hmo : ¬ Γ.mo) (f : Nat) (md : Nat → Nat) (L : SlLaysE0.n41 P ρ) (i0 : TypeInfo) (z : Value) (hi : P.info? (ρ.t 23) = some i0) (hz0 : i0.zero = some z) (hz1 : i0.size = 1) (hz2 : i0.bytes = 8) (hzs : z.cells.size = 1)
    (z23 : ∀ w, (Go.sizeOf (ρ.t 23)).run P w = .ok 1 w) (hf : ρ.f 41 = f) {args : List AV} {res : AV} {outs : List (List AV)} (h : b7h args = some (res, outs)) : T4 Γ P md f args res outs := by
  unfold b7h at h
  split at h
  · rename_i es
    split at h
    · rename_i hl
      simp only [Option.map_eq_some_iff, Prod.mk.injEq] at h
      obtain ⟨xs, h1, rfl, rfl⟩ := h
      have := b7s h1
      subst this
      subst hf
      exact a8l hmo xs (by simpa using hl) (fun w a n c news => c2k L i0 z hi hz0 hz1 hz2 hzs z23 w a n c news)
    · cases h
  · cases h

theorem soundX_sort {Γ : Env} (f : Nat) (md : Nat → Nat) (L : SlLaysM.n5 P ρ) (hf : ρ.f 5 = f) (hmd : md 0 = 1) {args : List AV} {res : AV} {outs : List (List AV)} (h : c0i args = some (res, outs)) : T4 Γ P md f args res outs := by
  unfold c0i at h
  split at h
  · rename_i es
    split at h
    · rename_i hl
      simp only [Option.map_eq_some_iff, Prod.mk.injEq] at h
      obtain ⟨xs, h1, rfl, rfl⟩ := h
      have := b7s h1
      subst this
      subst hf
      refine b0l xs (V9 xs) (by simpa using hl) (by simp) hmd (fun w a c => AnyM.slices_Sort_int_none L a c w) (fun w b o c hH hb hx => ?_)
      have := AnyM.slices_Sort_int L b o c xs w hH hb (by simp only [O8] at hx; omega)
      rwa [a7c] at this
    · cases h
  · cases h
end Go.Proofs
namespace Go.Proofs
theorem c2i {tb : List (Nat × (List AV → Option (AV × List (List AV))))} {f : Nat} {F : List AV → Option (AV × List (List AV))} (h : c1i tb f = some F) : (f, F) ∈ tb := by
  unfold c1i at h
  split at h
  · rename_i x hx
    cases h
    have h1 := List.mem_of_find?_eq_some hx
    have h2 : (x.1 == f) = true := by simpa using List.find?_some hx
    rw [← eq_of_beq h2]
    exact h1
  · cases h
def c7m (i : TypeInfo) : Bool := i.size == 1 && i.bytes == 8 && (match i.zero with | some (.int .i64 0) => true | _ => false)
theorem infoI_of {P : Program} {T : Nat} (h : (match P.info? T with | some i => c7m i | none => false) = true) :
    ∃ i0 z, P.info? T = some i0 ∧ i0.zero = some z ∧ i0.size = 1 ∧ i0.bytes = 8 ∧ z.cells.size = 1 := by
  split at h
  · rename_i i hi
    simp only [c7m, Bool.and_eq_true, beq_iff_eq] at h
    obtain ⟨⟨h1, h2⟩, h3⟩ := h
    split at h3
    · rename_i hz
      exact ⟨i, _, hi, hz, h1, h2, rfl⟩
    · cases h3
  · cases h
theorem b8g {P : Program} {f : Nat} {fn : Func} (h : P.funcs[f]? = some fn) (h1 : (fn.name == "runtime.NumGoroutine") = false) (h2 : fn.body.isNone = false) : Mv.Enters P f := ⟨fn, h, h1, h2⟩
end Go.Proofs
end
section
/- slices.SortFunc at fractions: that it keeps its contract. -/
open Go Go.Mv Go.Proofs Go.Shelf Go.RowKit Go.Lib Go.Sort
namespace Go.Proofs
variable {P : Program} {ρ : Ren}
abbrev SQ := { q : Rat // Sm 1000000000 q }
instance : Inhabited SQ := ⟨0, by refine ⟨?_, ?_, ?_⟩ <;> decide +kernel⟩
def c4q (x : SQ) : List Value := [.int .i64 x.1.num, .int .i64 (x.1.den : Int)]
def cfQ (x y : SQ) : Int := max (-1) (min 1 (x.1 - y.1).num)
theorem ltQ (x y : SQ) : ltOf cfQ x y = decide (x.1 < y.1) := by
  unfold ltOf cfQ
  rw [decide_eq_decide, ← a8q]
  omega
theorem swoQ : SWO (ltOf cfQ) where
  irrefl x := by rw [ltQ]; simp
  trans x y z h1 h2 := by rw [ltQ] at *; simp only [decide_eq_true_eq] at *; grind
  ntrans x y z h1 h2 := by rw [ltQ] at *; simp only [decide_eq_false_iff_not] at *; grind
theorem a9l (l : List SQ) : flatK c4q 2 l.toArray = cellsQ (l.map (·.1)) := by
  refine ext_get! (by simp) fun t ht => ?_
  have ht' : t < l.length * 2 := by simpa using ht
  rw [get_flatK _ _ _ t (by simpa using ht'), a1t (by simpa using ht')]
  have hi : t / 2 < l.length := by omega
  have e1 : l.toArray[t / 2]! = l[t / 2] := by rw [getElem!_pos l.toArray (t / 2) (by simpa using hi)]; simp
  have e2 : (l.map (·.1)).getD (t / 2) default = l[t / 2].1 := by rw [List.getD_eq_getElem?_getD, List.getElem?_map, List.getElem?_eq_getElem hi]; rfl
  rw [e1]
  unfold cq c4q
  rw [e2]
  rcases (by omega : t % 2 = 0 ∨ t % 2 = 1) with e | e
  · rw [e]; simp
  · rw [e]; simp
theorem c5l {W W' : World} (hB : Below W.heap.size W W') (hd : W.drawn ≤ W'.drawn) : ∃ q os, W' = grow (W.drewN q) os := by
  obtain ⟨p, hp⟩ := regrown_of_below hB
  refine ⟨p.d - W.drawn, p.os, ?_⟩
  have h1 : W'.drawn = p.d := by rw [hp]; rfl
  rw [hp]
  unfold redrawn World.drewN
  rw [show W.drawn + (p.d - W.drawn) = p.d by omega]
theorem b2u {Γ : Env} (L : SlLaysF0.n6 P ρ) (aE : ∀ w, (isAgg (ρ.t 24)).run P w = .ok true w) (zE : ∀ w, (Go.sizeOf (ρ.t 24)).run P w = .ok 2 w) (f g : Nat) (hf : ρ.f 6 = f) (md : Nat → Nat) (hmd : md 0 = 1)
    (eg : ∀ args w, (callFunc g args).run P w = .ok (.enter g args) w)
    (hcmp : ∀ (x y : Rat), Sm 1000000000 x → Sm 1000000000 y → ∀ W, Calls P g #[.agg #[.int .i64 x.num, .int .i64 (x.den : Int)], .agg #[.int .i64 y.num, .int .i64 (y.den : Int)]] W fun e w' =>
      e = .returned (.int .i64 (max (-1) (min 1 (x - y).num))) ∧ Below W.heap.size W w' ∧ W.drawn ≤ w'.drawn)
    {args : List AV} {res : AV} {outs : List (List AV)} (h : Z6 g args = some (res, outs)) : T4 Γ P md f args res outs := by
  obtain ⟨xs, rfl, hl, hx, he⟩ := b3c h
  cases he
  subst hf
  refine a9i xs (sortQ xs) hl (by simp) hmd (fun w a c => AnyF.slices_SortFunc_none L a c _ w) (fun w b o c _ _ hH hb => ?_)
  have hsz : (xs.attachWith _ hx).toArray.size = xs.length := by simp
  have hcells : flatK c4q 2 (xs.attachWith _ hx).toArray = cellsQ xs := by rw [a9l]; simp
  have := AnyQ.slices_SortFunc_total L 2 aE zE c4q (fun _ => rfl) (fun x v hv => by simp [c4q] at hv; rcases hv with rfl | rfl <;> rfl) cfQ swoQ g #[] b o c (xs.attachWith _ hx).toArray w eg
    (fun m os dk _ x y => ((hcmp x.1 y.1 x.2 y.2 _).mono fun e w' ⟨h1, h2, h3⟩ => ⟨h1, c5l h2 h3⟩)) (by unfold HoldsK; rw [hcells]; exact hH) hb (by rw [hsz]; simp only [O8] at hl; omega)
    (fun x y h1 h2 => by rw [ltQ] at h1 h2; simp only [decide_eq_false_iff_not] at h1 h2; exact Subtype.ext (by grind))
  rw [hsz] at this
  refine this.mono ?_
  rintro e w' ⟨rfl, n, os, rfl⟩
  refine ⟨rfl, n, os, ?_⟩
  unfold sortWorldK putRowK
  rw [a9l]
  congr 3
  refine c5r ?_ ?_
  · have := (List.mergeSort_perm (xs.attachWith _ hx) fun x y => !(ltOf cfQ) y x).map (fun x : SQ => x.1)
    simpa using this
  · rw [List.pairwise_map]
    have h1 := List.pairwise_mergeSort (le := fun x y : SQ => !(ltOf cfQ) y x) (fun a b c h1 h2 => by simp only [ltQ, Bool.not_eq_true', decide_eq_false_iff_not] at *; grind) (fun a b => by simp only [ltQ, Bool.or_eq_true, Bool.not_eq_true', decide_eq_false_iff_not]; grind) (xs.attachWith _ hx)
    have e : ∀ a b : SQ, (!(ltOf cfQ) b a) = true ↔ a.1 ≤ b.1 := fun a b => by simp only [ltQ, Bool.not_eq_true', decide_eq_false_iff_not]; grind
    exact h1.imp fun h => (e _ _).1 h
end Go.Proofs
end
open Go Go.Mv Go.Proofs Go.Proofs.Ytfiobkibbebeiaa Go.Shelf Go.RowKit Go.Lib
namespace Go.Proofs
def Try.lSortF_ren : Go.Shelf.Ren := ⟨fun | 6 => 45 | 15 => 57 | 14 => 56 | 28 => 68 | 29 => 69 | 20 => 60 | 21 => 61 | 22 => 62 | 23 => 63 | 24 => 64 | 25 => 65 | 26 => 66 | 27 => 67 | 46 => 71 | 47 => 72 | 48 => 73 | 49 => 74 | 50 => 75 | 57 => 76 | n => n, fun | 22 => 36 | 24 => 24 | 25 => 42 | 3 => 3 | 39 => 62 | 0 => 0 | 53 => 74 | 55 => 76 | 4 => 4 | 46 => 67 | 45 => 66 | 50 => 71 | 5 => 5 | 9 => 9 | 66 => 78 | 70 => 82 | 76 => 84 | 77 => 85 | n => n, fun | n => n⟩
theorem Try.lSortF : Go.Proofs.SlLaysF0.n6 Try.prog Try.lSortF_ren := {
  mixed := by kernel_rfl
  f6 := ⟨Try.f45.name, by decide, Try.func45.trans (congrArg some (by kernel_rfl))⟩
  f14 := ⟨Try.f56.name, by decide, Try.func56.trans (congrArg some (by kernel_rfl))⟩
  f15 := Try.func57.trans (congrArg some (by kernel_rfl))
  f20 := ⟨Try.f60.name, by decide, Try.func60.trans (congrArg some (by kernel_rfl))⟩
  f21 := ⟨Try.f61.name, by decide, Try.func61.trans (congrArg some (by kernel_rfl))⟩
  f22 := ⟨Try.f62.name, by decide, Try.func62.trans (congrArg some (by kernel_rfl))⟩
  f23 := ⟨Try.f63.name, by decide, Try.func63.trans (congrArg some (by kernel_rfl))⟩
  f24 := ⟨Try.f64.name, by decide, Try.func64.trans (congrArg some (by kernel_rfl))⟩
  f25 := ⟨Try.f65.name, by decide, Try.func65.trans (congrArg some (by kernel_rfl))⟩
  f26 := ⟨Try.f66.name, by decide, Try.func66.trans (congrArg some (by kernel_rfl))⟩
  f27 := ⟨Try.f67.name, by decide, Try.func67.trans (congrArg some (by kernel_rfl))⟩
  f28 := Try.func68.trans (congrArg some (by kernel_rfl))
  f29 := Try.func69.trans (congrArg some (by kernel_rfl))
  f46 := ⟨Try.f71.name, by decide, Try.func71.trans (congrArg some (by kernel_rfl))⟩
  f47 := Try.func72.trans (congrArg some (by kernel_rfl))
  f48 := Try.func73.trans (congrArg some (by kernel_rfl))
  f49 := ⟨Try.f74.name, by decide, Try.func74.trans (congrArg some (by kernel_rfl))⟩
  f50 := ⟨Try.f75.name, by decide, Try.func75.trans (congrArg some (by kernel_rfl))⟩
  f57 := ⟨Try.f76.name, by decide, Try.func76.trans (congrArg some (by kernel_rfl))⟩
  t0 := Try.underlying0
  a0 := Try.isAgg0
  z0 := Try.sizeOf0
  v0 := Try.zeroValue0
  t3 := Try.underlying3
  a3 := Try.isAgg3
  z3 := Try.sizeOf3
  v3 := Try.zeroValue3
  t4 := Try.underlying4
  a4 := Try.isAgg4
  z4 := Try.sizeOf4
  v4 := Try.zeroValue4
  t5 := Try.underlying5
  a5 := Try.isAgg5
  z5 := Try.sizeOf5
  v5 := Try.zeroValue5
  t9 := Try.underlying9
  a9 := Try.isAgg9
  z9 := Try.sizeOf9
  v9 := Try.zeroValue9
  t22 := Try.underlying36
  a22 := Try.isAgg36
  z22 := Try.sizeOf36
  v22 := Try.zeroValue36
  t25 := Try.underlying42
  a25 := Try.isAgg42
  z25 := Try.sizeOf42
  v25 := Try.zeroValue42
  t39 := Try.underlying62
  a39 := Try.isAgg62
  z39 := Try.sizeOf62
  v39 := Try.zeroValue62
  t45 := Try.underlying66
  a45 := Try.isAgg66
  z45 := Try.sizeOf66
  v45 := Try.zeroValue66
  t46 := Try.underlying67
  a46 := Try.isAgg67
  z46 := Try.sizeOf67
  v46 := Try.zeroValue67
  t50 := Try.underlying71
  a50 := Try.isAgg71
  z50 := Try.sizeOf71
  v50 := Try.zeroValue71
  t53 := Try.underlying74
  a53 := Try.isAgg74
  z53 := Try.sizeOf74
  v53 := Try.zeroValue74
  t55 := Try.underlying76
  a55 := Try.isAgg76
  z55 := Try.sizeOf76
  v55 := Try.zeroValue76
  t66 := Try.underlying78
  a66 := Try.isAgg78
  z66 := Try.sizeOf78
  v66 := Try.zeroValue78
  t70 := Try.underlying82
  a70 := Try.isAgg82
  z70 := Try.sizeOf82
  v70 := Try.zeroValue82
  t76 := Try.underlying84
  a76 := Try.isAgg84
  z76 := Try.sizeOf84
  v76 := Try.zeroValue84
  t77 := Try.underlying85
  a77 := Try.isAgg85
  z77 := Try.sizeOf85
  v77 := Try.zeroValue85 }
theorem Try.soundE : SoundC (Env.none True) cxE (CW cxE) := b5b cxE (GlOk.none rfl rfl) (fun f F av res outs h => by cases h) (Z8.none rfl) (by kernel_rfl)
theorem Try.cmpE (x y : Rat) (hx : Sm 1000000000 x) (hy : Sm 1000000000 y) (W : World) : Calls Try.prog 26 #[.agg #[.int .i64 x.num, .int .i64 (x.den : Int)], .agg #[.int .i64 y.num, .int .i64 (y.den : Int)]] W fun e w' =>
      e = .returned (.int .i64 (max (-1) (min 1 (x - y).num))) ∧ Below W.heap.size W w' ∧ W.drawn ≤ w'.drawn := by
  refine (a9o cxE Try.soundE (av := [qV x, qV y]) rfl (fun i a hi => ?_) (fun a ha => ?_) (E.s_compare x y hx hy) (fun _ h => h.elim) trivial).mono fun e w' h => ⟨h.1, h.2.1, h.2.2 trivial⟩
  · match i, hi with
    | 0, hi => cases hi; exact c8y x
    | 1, hi => cases hi; exact c8y y
  · simp at ha; rcases ha with rfl | rfl <;> rfl
theorem Try.soundX : b7q (Env.none False) cxT := by
  intro f F args res outs hF h
  have hm := c2i (show c1i c8g f = some F from hF)
  simp only [c8g, List.mem_cons, Prod.mk.injEq, List.not_mem_nil, or_false] at hm
  rcases hm with ⟨rfl, rfl⟩
  · exact ⟨b2u Try.lSortF Try.isAgg24 Try.sizeOf24 _ 26 rfl _ rfl (enters_of Try.func26 (by kernel_rfl) rfl) Try.cmpE h, b8g Try.func45 (by kernel_rfl) (by kernel_rfl)⟩
theorem Try.soundI : Z8 (Env.none False) cxT := Z8.none rfl
theorem Try.sound : SoundC (Env.none False) cxT (CW cxT) := b5b cxT (GlOk.none rfl rfl) Try.soundX Try.soundI (by kernel_rfl)
end Go.Proofs

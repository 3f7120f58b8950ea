/- The functions of Go's library keep the contracts that the abstract machine asks of them. Conditions: none. -/
import Derived.Test.YtldpjnaakmhafaaSa
import Derived.Shelf.SlicesE.Clone
import Derived.Shelf.SortM.Plain
import Derived.Shelf.SortM.SortNone
import Derived.Shelf.Spec.SlicesGrow
import Derived.Shelf.SlLaysE0
import Derived.Ground.SlgnProg
import Derived.Shelf.SlLaysM
import Derived.Ground.SlgmProg
import Derived.Shelf.Lays8
import Derived.Ground.Names8Prog

set_option linter.unusedVariables false
set_option linter.unusedSimpArgs false
section
/- Functions of the library: that they keep the contracts which the abstract machine asks of them. -/
open Go Go.Mv Go.Proofs Go.Shelf Go.RowKit Go.Lib
namespace Go.Mv
theorem a5b (xs : List Int) : (xs.mergeSort fun x y => decide (x ≤ y)) = sortI xs := by
  refine List.Perm.eq_of_pairwise (le := (· ≤ ·)) (fun a b _ _ h1 h2 => by omega) ?_ (S9 xs) ((List.mergeSort_perm _ _).trans (a1w xs).symm)
  have := List.pairwise_mergeSort (le := fun x y : Int => decide (x ≤ y)) (fun a b c h1 h2 => by simp at *; omega) (fun a b => by simp; omega) xs
  simpa using this
end Go.Mv
namespace Go.Proofs
variable {P : Program} {ρ : Ren}
set_option maxHeartbeats 2000000 in
set_option maxRecDepth 100000 in
theorem b2q (L : SlLaysE0.n41 P ρ) (z23 : ∀ w, (Go.sizeOf (ρ.t 23)).run P w = .ok 1 w) (a : Addr) (c : Nat) (w : World) :
    Calls P (ρ.f 41) #[.slice (some a) 0 c] w fun e w' => e = .returned (.slice (some ⟨w.heap.size, 0, none⟩) 0 0) ∧ w' = w.alloc (.cells #[] (ρ.t 23)) := by
  have mixed := L.mixed; have t4 := L.t4; have a4 := L.a4; have z4 := L.z4; have v4 := L.v4; have t22 := L.t22; have a22 := L.a22; have z22 := L.z22; have v22 := L.v22
  have q22 : ∀ (w : World) (a : Option Addr) (n c n' c' : Nat), (binOp .eql (ρ.t 22) (.slice a n c) (.slice none n' c')).run P w = .ok (.bool a.isNone) w := fun w a n c n' c' => Lib.run_eql_slice_nil w _ _ a n c n' c' L.t22
  have u22 : ∀ w, Sem.run P (underlying (ρ.t 22)) w = .ok (TypeDesc.slice (ρ.t 23)) w := run_underlying t22
  obtain ⟨_, _, FG⟩ := L.f41
  go_enter FG, SlBodyN.n41_ntmps ρ
  go_wp2
  go_ret
  exact ⟨rfl, rfl⟩

theorem b8l (L : SlLaysE0.n41 P ρ) (i0 : TypeInfo) (z : Value) (hi : P.info? (ρ.t 23) = some i0) (hz0 : i0.zero = some z) (hz1 : i0.size = 1) (hz2 : i0.bytes = 8) (hzs : z.cells.size = 1)
    (z23 : ∀ w, (Go.sizeOf (ρ.t 23)).run P w = .ok 1 w) (w : World) (a : Option Addr) (n c : Nat) (news : List Value) (hl : news.length = n) (hn : n ≤ K5)
    (hc : n ≠ 0 → ∃ b o, a = some ⟨b, o, none⟩ ∧ ∀ (j : Nat) u, news[j]? = some u → w.cell? ⟨b, o + j, none⟩ = some u) (h1 : ∀ u ∈ news, ∃ x, u = Value.int .i64 x) :
    Calls P (ρ.f 41) #[.slice a n c] w fun e w' => ∃ v', e = .returned v' ∧ w'.ownsRow w.heap.size (ρ.t 23) 1 v' n news ∧ Below w.heap.size w w' := by
  simp only [K5] at hn
  cases a with
  | none =>
    have h0 : n = 0 := Classical.byContradiction fun h => by obtain ⟨_, _, h2, _⟩ := hc h; cases h2
    subst h0
    refine (AnyE.slices_Clone_nil L 0 c w).mono ?_
    rintro e w' ⟨rfl, rfl⟩
    exact ⟨_, rfl, ⟨by simpa using hl, .inl ⟨rfl, rfl⟩⟩, .refl _ _⟩
  | some a =>
    by_cases h0 : n = 0
    · subst h0
      refine (b2q L z23 a c w).mono ?_
      rintro e w' ⟨rfl, rfl⟩
      refine ⟨_, rfl, ⟨by simpa using hl, .inr ⟨w.heap.size, 0, #[], rfl, Nat.le_refl _, heap_alloc_new w _, Nat.le_refl _, by simp [maxLen], rfl, ?_⟩⟩, (Below.refl _ _).alloc (Nat.le_refl _) _⟩
      have : news = [] := List.length_eq_zero_iff.1 hl
      subst this
      rfl
    · obtain ⟨b, o, he, hcl⟩ := hc h0
      cases he
      refine (AnyE.slices_Clone L i0 z 1 8 hi hz0 hz1 hz2 hzs (by decide) z23 b o n c news w (by omega) (by simp [maxLen]; omega) (by omega) hcl (fun u hu => by obtain ⟨x, rfl⟩ := h1 u hu; rfl)).mono ?_
      rintro e w' ⟨v', rfl, hown, _, hB⟩
      exact ⟨v', rfl, hown, hB⟩

theorem b4z : ∀ {es : List AV} {xs : List Int}, unI es = some xs → es = xs.map iV
  | [], xs, h => by cases h; rfl
  | .val (.int .i64 n) :: r, xs, h => by
    simp only [unI, Option.map_eq_some_iff] at h
    obtain ⟨ys, h1, rfl⟩ := h
    rw [b4z h1]
    rfl

theorem b0l {Γ : Env} (hmo : ¬ Γ.mo) (f : Nat) (md : Nat → Nat) (L : SlLaysE0.n41 P ρ) (i0 : TypeInfo) (z : Value) (hi : P.info? (ρ.t 23) = some i0) (hz0 : i0.zero = some z) (hz1 : i0.size = 1) (hz2 : i0.bytes = 8) (hzs : z.cells.size = 1)
    (z23 : ∀ w, (Go.sizeOf (ρ.t 23)).run P w = .ok 1 w) (hf : ρ.f 41 = f) {args : List AV} {res : AV} {outs : List (List AV)} (h : a2v args = some (res, outs)) : Q7 Γ P md f args res outs := by
  unfold a2v at h
  split at h
  · rename_i es
    split at h
    · rename_i hl
      simp only [Option.map_eq_some_iff, Prod.mk.injEq] at h
      obtain ⟨xs, h1, rfl, rfl⟩ := h
      have := b4z h1
      subst this
      subst hf
      exact a7b hmo xs (by simpa using hl) (fun w a n c news => b8l L i0 z hi hz0 hz1 hz2 hzs z23 w a n c news)
    · cases h
  · cases h

theorem b2y {Γ : Env} (f : Nat) (md : Nat → Nat) (L : SlLaysM.n5 P ρ) (hf : ρ.f 5 = f) (hmd : md 0 = 1) {args : List AV} {res : AV} {outs : List (List AV)} (h : a5o args = some (res, outs)) : Q7 Γ P md f args res outs := by
  unfold a5o at h
  split at h
  · rename_i es
    split at h
    · rename_i hl
      simp only [Option.map_eq_some_iff, Prod.mk.injEq] at h
      obtain ⟨xs, h1, rfl, rfl⟩ := h
      have := b4z h1
      subst this
      subst hf
      refine a8n xs (sortI xs) (by simpa using hl) (by simp) hmd (fun w a c => AnyM.slices_Sort_int_none L a c w) (fun w b o c hH hb hx => ?_)
      have := AnyM.slices_Sort_int L b o c xs w hH hb (by simp only [K5] at hx; omega)
      rwa [a5b] at this
    · cases h
  · cases h
end Go.Proofs
namespace Go.Proofs
theorem b9i {tb : List (Nat × (List AV → Option (AV × List (List AV))))} {f : Nat} {F : List AV → Option (AV × List (List AV))} (h : b7g tb f = some F) : (f, F) ∈ tb := by
  unfold b7g at h
  split at h
  · rename_i x hx
    cases h
    have h1 := List.mem_of_find?_eq_some hx
    have h2 : (x.1 == f) = true := by simpa using List.find?_some hx
    rw [← eq_of_beq h2]
    exact h1
  · cases h
def c4e (i : TypeInfo) : Bool := i.size == 1 && i.bytes == 8 && (match i.zero with | some (.int .i64 0) => true | _ => false)
theorem b2v {P : Program} {T : Nat} (h : (match P.info? T with | some i => c4e i | none => false) = true) :
    ∃ i0 z, P.info? T = some i0 ∧ i0.zero = some z ∧ i0.size = 1 ∧ i0.bytes = 8 ∧ z.cells.size = 1 := by
  split at h
  · rename_i i hi
    simp only [c4e, Bool.and_eq_true, beq_iff_eq] at h
    obtain ⟨⟨h1, h2⟩, h3⟩ := h
    split at h3
    · rename_i hz
      exact ⟨i, _, hi, hz, h1, h2, rfl⟩
    · cases h3
  · cases h
theorem a1z {P : Program} {f : Nat} {fn : Func} (h : P.funcs[f]? = some fn) (h1 : (fn.name == "runtime.NumGoroutine") = false) (h2 : fn.body.isNone = false) : Mv.Enters P f := ⟨fn, h, h1, h2⟩
end Go.Proofs
end
section
/- slices.Grow of an empty slice: that it keeps the contract which the abstract machine asks of it. -/
open Go Go.Mv Go.Proofs Go.Shelf Go.RowKit Go.Lib
namespace Go.Mv
variable {Γ : Env} {P : Program}
theorem a8f (hmo : ¬ Γ.mo) {f : Nat} {md : Nat → Nat} {E : TypeId} (n : Int)
    (hg : ∀ (w : World) (a : Option Addr), Calls P f #[.slice a 0 0, .int .i64 n] w fun e w' => ∃ (cap : Nat) (cur : Array Value), e = .returned (.slice (some ⟨w.heap.size, 0, none⟩) 0 cap) ∧
      w'.heap[w.heap.size]? = some (.cells cur E (0, 0)) ∧ cap = cur.size ∧ Below w.heap.size w w') :
    Q7 Γ P md f [.nil, iV n] (.own 1 []) [] := by
  intro w A O0 ν0 D vals hOA R hA
  have h0 := R.slots 0 (by simp)
  have h1 := R.slots 1 (by simp)
  have hsz : vals.size = 2 := by simpa using R.size
  obtain ⟨v, u, rfl⟩ : ∃ v u, vals = #[v, u] := by
    match vals, hsz with
    | ⟨[v, u]⟩, _ => exact ⟨v, u, rfl⟩
  obtain ⟨a, hv⟩ := RS.nil_inv h0
  have hu := RS.val_inv h1
  have hv : v = .slice a 0 0 := hv
  have hu : u = .int .i64 n := hu
  subst hv hu
  have R0 := R.noSlots
  refine (hg w a).mono ?_
  rintro e w' ⟨cap, cur, rfl, hcell, hcap, hB⟩
  refine ⟨_, rfl, _, D, _, ν0, R0.ownNew (xs := []) (a0s (fun h => (hmo h).elim) hB) (Nat.le_refl _) hcell (Nat.zero_le _) (fun i x h => by simp at h) (5, 0, 0), rfl, .inr (.inr (.inr (.inl ⟨1, [], _, rfl, Fl.set_eq _ _ _, rfl, ?_⟩))), a3y rfl rfl⟩
  refine ⟨_, cap, rfl, Nat.zero_le _, .inr ⟨w.heap.size, 0, rfl, by simp, ?_⟩⟩
  have : csize w' w.heap.size = cur.size := by unfold csize; rw [hcell]
  rw [this, hcap]
  simp
end Go.Mv
namespace Go.Proofs
variable {P : Program} {ρ : Ren}
theorem c0n (L : Lays8.n4 P ρ) (i0 : TypeInfo) (z : Value) (hi : P.info? (ρ.t 25) = some i0) (hz0 : i0.zero = some z) (hz1 : i0.size = 1) (hz2 : i0.bytes = 8) (hzs : z.cells.size = 1) (n : Nat) (hn : 1 ≤ n ∧ n ≤ 1000) (w : World) (a : Option Addr) :
    Calls P (ρ.f 4) #[.slice a 0 0, .int .i64 n] w fun e w' => ∃ (cap : Nat) (cur : Array Value), e = .returned (.slice (some ⟨w.heap.size, 0, none⟩) 0 cap) ∧
      w'.heap[w.heap.size]? = some (.cells cur (ρ.t 25) (0, 0)) ∧ cap = cur.size ∧ Below w.heap.size w w' := by
  have hge := grownCap_ge w (0 + n) 0 (ρ.t 25)
  refine (Any8.slices_Grow_grow L i0 z hi hz0 (by omega) a 0 0 n [] w (Nat.le_refl _) (by omega) (by rw [hz2]; omega) (by omega) (by simp) (fun _ => rfl) (fun b _ j v h => by simp at h)).mono ?_
  rintro e w' ⟨rfl, rfl⟩
  refine ⟨_, _, rfl, heap_alloc_new w.drew _, ?_, (Below.drew (Below.refl _ w)).alloc (Nat.le_refl _) _⟩
  simp [Builtin.zeroCells, hzs] at hge ⊢
  omega
theorem b4h {Γ : Env} (hmo : ¬ Γ.mo) (f : Nat) (md : Nat → Nat) (L : Lays8.n4 P ρ) (i0 : TypeInfo) (z : Value) (hi : P.info? (ρ.t 25) = some i0) (hz0 : i0.zero = some z) (hz1 : i0.size = 1) (hz2 : i0.bytes = 8) (hzs : z.cells.size = 1) (hf : ρ.f 4 = f)
    {args : List AV} {res : AV} {outs : List (List AV)} (h : a5s args = some (res, outs)) : Q7 Γ P md f args res outs := by
  unfold a5s at h
  split at h
  · rename_i n
    split at h
    · rename_i hn
      cases h
      subst hf
      obtain ⟨k, rfl⟩ : ∃ k : Nat, n = (k : Int) := ⟨n.toNat, by omega⟩
      exact a8f hmo _ fun w a => c0n L i0 z hi hz0 hz1 hz2 hzs k (by omega) w a
    · cases h
  · cases h
end Go.Proofs
end
open Go Go.Mv Go.Proofs Go.Proofs.Ytldpjnaakmhafaa Go.Shelf Go.RowKit Go.Lib
namespace Go.Proofs
def Try.lClone_ren : Go.Shelf.Ren := ⟨fun | 41 => 40 | n => n, fun | 22 => 22 | 23 => 3 | 4 => 4 | n => n, fun | n => n⟩
theorem Try.lClone : Go.Proofs.SlLaysE0.n41 Try.prog Try.lClone_ren := {
  mixed := by kernel_rfl
  f41 := ⟨Try.f40.name, by decide, Try.func40.trans (congrArg some (by kernel_rfl))⟩
  t4 := Try.underlying4
  a4 := Try.isAgg4
  z4 := Try.sizeOf4
  v4 := Try.zeroValue4
  t22 := Try.underlying22
  a22 := Try.isAgg22
  z22 := Try.sizeOf22
  v22 := Try.zeroValue22 }
def Try.lSort_ren : Go.Shelf.Ren := ⟨fun | 5 => 41 | 8 => 45 | 7 => 44 | 19 => 56 | 20 => 57 | 10 => 47 | 11 => 48 | 12 => 49 | 13 => 50 | 14 => 51 | 15 => 52 | 16 => 53 | 17 => 54 | 18 => 55 | 30 => 58 | 31 => 59 | 32 => 60 | 33 => 61 | 34 => 62 | 35 => 63 | 40 => 64 | n => n, fun | 23 => 22 | 25 => 3 | 3 => 3 | 32 => 61 | 22 => 22 | 0 => 0 | 44 => 72 | 46 => 74 | 4 => 4 | 36 => 65 | 35 => 64 | 41 => 69 | 5 => 5 | 9 => 9 | 53 => 75 | 57 => 79 | 63 => 81 | 64 => 23 | n => n, fun | n => n⟩
theorem Try.lSort : Go.Proofs.SlLaysM.n5 Try.prog Try.lSort_ren := {
  mixed := by kernel_rfl
  f5 := ⟨Try.f41.name, by decide, Try.func41.trans (congrArg some (by kernel_rfl))⟩
  f7 := ⟨Try.f44.name, by decide, Try.func44.trans (congrArg some (by kernel_rfl))⟩
  f8 := Try.func45.trans (congrArg some (by kernel_rfl))
  f10 := ⟨Try.f47.name, by decide, Try.func47.trans (congrArg some (by kernel_rfl))⟩
  f11 := ⟨Try.f48.name, by decide, Try.func48.trans (congrArg some (by kernel_rfl))⟩
  f12 := ⟨Try.f49.name, by decide, Try.func49.trans (congrArg some (by kernel_rfl))⟩
  f13 := ⟨Try.f50.name, by decide, Try.func50.trans (congrArg some (by kernel_rfl))⟩
  f14 := ⟨Try.f51.name, by decide, Try.func51.trans (congrArg some (by kernel_rfl))⟩
  f15 := ⟨Try.f52.name, by decide, Try.func52.trans (congrArg some (by kernel_rfl))⟩
  f16 := ⟨Try.f53.name, by decide, Try.func53.trans (congrArg some (by kernel_rfl))⟩
  f17 := ⟨Try.f54.name, by decide, Try.func54.trans (congrArg some (by kernel_rfl))⟩
  f18 := ⟨Try.f55.name, by decide, Try.func55.trans (congrArg some (by kernel_rfl))⟩
  f19 := Try.func56.trans (congrArg some (by kernel_rfl))
  f20 := Try.func57.trans (congrArg some (by kernel_rfl))
  f30 := ⟨Try.f58.name, by decide, Try.func58.trans (congrArg some (by kernel_rfl))⟩
  f31 := Try.func59.trans (congrArg some (by kernel_rfl))
  f32 := Try.func60.trans (congrArg some (by kernel_rfl))
  f33 := ⟨Try.f61.name, by decide, Try.func61.trans (congrArg some (by kernel_rfl))⟩
  f34 := ⟨Try.f62.name, by decide, Try.func62.trans (congrArg some (by kernel_rfl))⟩
  f35 := ⟨Try.f63.name, by decide, Try.func63.trans (congrArg some (by kernel_rfl))⟩
  f40 := ⟨Try.f64.name, by decide, Try.func64.trans (congrArg some (by kernel_rfl))⟩
  t0 := Try.underlying0
  a0 := Try.isAgg0
  z0 := Try.sizeOf0
  v0 := Try.zeroValue0
  t3 := Try.underlying3
  a3 := Try.isAgg3
  z3 := Try.sizeOf3
  v3 := Try.zeroValue3
  t4 := Try.underlying4
  a4 := Try.isAgg4
  z4 := Try.sizeOf4
  v4 := Try.zeroValue4
  t5 := Try.underlying5
  a5 := Try.isAgg5
  z5 := Try.sizeOf5
  v5 := Try.zeroValue5
  t9 := Try.underlying9
  a9 := Try.isAgg9
  z9 := Try.sizeOf9
  v9 := Try.zeroValue9
  t22 := Try.underlying22
  a22 := Try.isAgg22
  z22 := Try.sizeOf22
  v22 := Try.zeroValue22
  t23 := Try.underlying22
  a23 := Try.isAgg22
  z23 := Try.sizeOf22
  v23 := Try.zeroValue22
  t25 := Try.underlying3
  a25 := Try.isAgg3
  z25 := Try.sizeOf3
  v25 := Try.zeroValue3
  t32 := Try.underlying61
  a32 := Try.isAgg61
  z32 := Try.sizeOf61
  v32 := Try.zeroValue61
  t35 := Try.underlying64
  a35 := Try.isAgg64
  z35 := Try.sizeOf64
  v35 := Try.zeroValue64
  t36 := Try.underlying65
  a36 := Try.isAgg65
  z36 := Try.sizeOf65
  v36 := Try.zeroValue65
  t41 := Try.underlying69
  a41 := Try.isAgg69
  z41 := Try.sizeOf69
  v41 := Try.zeroValue69
  t44 := Try.underlying72
  a44 := Try.isAgg72
  z44 := Try.sizeOf72
  v44 := Try.zeroValue72
  t46 := Try.underlying74
  a46 := Try.isAgg74
  z46 := Try.sizeOf74
  v46 := Try.zeroValue74
  t53 := Try.underlying75
  a53 := Try.isAgg75
  z53 := Try.sizeOf75
  v53 := Try.zeroValue75
  t57 := Try.underlying79
  a57 := Try.isAgg79
  z57 := Try.sizeOf79
  v57 := Try.zeroValue79
  t63 := Try.underlying81
  a63 := Try.isAgg81
  z63 := Try.sizeOf81
  v63 := Try.zeroValue81
  t64 := Try.underlying23
  a64 := Try.isAgg23
  z64 := Try.sizeOf23
  v64 := Try.zeroValue23 }
def Try.lGrow_ren : Go.Shelf.Ren := ⟨fun | 4 => 35 | n => n, fun | 22 => 22 | 25 => 3 | 3 => 3 | 4 => 4 | 9 => 9 | 20 => 20 | 0 => 0 | n => n, fun | n => n⟩
theorem Try.lGrow : Go.Proofs.Lays8.n4 Try.prog Try.lGrow_ren := {
  mixed := by kernel_rfl
  f4 := ⟨Try.f35.name, by decide, Try.func35.trans (congrArg some (by kernel_rfl))⟩
  t0 := Try.underlying0
  a0 := Try.isAgg0
  z0 := Try.sizeOf0
  v0 := Try.zeroValue0
  t3 := Try.underlying3
  a3 := Try.isAgg3
  z3 := Try.sizeOf3
  v3 := Try.zeroValue3
  t4 := Try.underlying4
  a4 := Try.isAgg4
  z4 := Try.sizeOf4
  v4 := Try.zeroValue4
  t9 := Try.underlying9
  a9 := Try.isAgg9
  z9 := Try.sizeOf9
  v9 := Try.zeroValue9
  t20 := Try.underlying20
  a20 := Try.isAgg20
  z20 := Try.sizeOf20
  v20 := Try.zeroValue20
  t22 := Try.underlying22
  a22 := Try.isAgg22
  z22 := Try.sizeOf22
  v22 := Try.zeroValue22 }
theorem Try.soundX : b5w (Env.none False) cxT := by
  intro f F args res outs hF h
  have hm := b9i (show b7g c5m f = some F from hF)
  simp only [c5m, List.mem_cons, Prod.mk.injEq, List.not_mem_nil, or_false] at hm
  rcases hm with ⟨rfl, rfl⟩ | ⟨rfl, rfl⟩ | ⟨rfl, rfl⟩
  · obtain ⟨i0, z, hi, hz0, hz1, hz2, hzs⟩ := b2v (P := Try.prog) (T := 3) (by kernel_rfl)
    exact ⟨b4h (fun h => h) _ _ Try.lGrow i0 z hi hz0 hz1 hz2 hzs rfl h, a1z Try.func35 (by kernel_rfl) (by kernel_rfl)⟩
  · obtain ⟨i0, z, hi, hz0, hz1, hz2, hzs⟩ := b2v (P := Try.prog) (T := 3) (by kernel_rfl)
    exact ⟨b0l (fun h => h) _ _ Try.lClone i0 z hi hz0 hz1 hz2 hzs Try.sizeOf3 rfl h, a1z Try.func40 (by kernel_rfl) (by kernel_rfl)⟩
  · exact ⟨b2y _ _ Try.lSort rfl rfl h, a1z Try.func41 (by kernel_rfl) (by kernel_rfl)⟩
theorem Try.soundI : a0m (Env.none False) cxT := a0m.none rfl
theorem Try.sound : SoundC (Env.none False) cxT (CW cxT) := c0j cxT (GlOk.none rfl rfl) Try.soundX Try.soundI (by kernel_rfl)
end Go.Proofs

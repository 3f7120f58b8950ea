/- The functions of Go's library keep the contracts that the abstract machine asks of them. Conditions: none. -/
import Derived.Test.YtpjgdgnaeohmeaaSb
import Derived.Shelf.SlicesE.Clone
import Derived.Shelf.SortM.Plain
import Derived.Shelf.SortM.SortNone
import Derived.Shelf.SlLaysE0
import Derived.Ground.SlgnProg
import Derived.Shelf.SlLaysM
import Derived.Ground.SlgmProg

set_option linter.unusedVariables false
set_option linter.unusedSimpArgs false
section
/- Functions of the library: that they keep the contracts which the abstract machine asks of them. -/
open Go Go.Mv Go.Proofs Go.Shelf Go.RowKit Go.Lib
namespace Go.Mv
theorem b0o (xs : List Int) : (xs.mergeSort fun x y => decide (x ≤ y)) = U7 xs := by
  refine List.Perm.eq_of_pairwise (le := (· ≤ ·)) (fun a b _ _ h1 h2 => by omega) ?_ (X7 xs) ((List.mergeSort_perm _ _).trans (a7b xs).symm)
  have := List.pairwise_mergeSort (le := fun x y : Int => decide (x ≤ y)) (fun a b c h1 h2 => by simp at *; omega) (fun a b => by simp; omega) xs
  simpa using this
end Go.Mv
namespace Go.Proofs
variable {P : Program} {ρ : Ren}
set_option maxHeartbeats 2000000 in
set_option maxRecDepth 100000 in
theorem b9f (L : SlLaysE0.n41 P ρ) (z23 : ∀ w, (Go.sizeOf (ρ.t 23)).run P w = .ok 1 w) (a : Addr) (c : Nat) (w : World) :
    Calls P (ρ.f 41) #[.slice (some a) 0 c] w fun e w' => e = .returned (.slice (some ⟨w.heap.size, 0, none⟩) 0 0) ∧ w' = w.alloc (.cells #[] (ρ.t 23)) := by
  have mixed := L.mixed; have t4 := L.t4; have a4 := L.a4; have z4 := L.z4; have v4 := L.v4; have t22 := L.t22; have a22 := L.a22; have z22 := L.z22; have v22 := L.v22
  have q22 : ∀ (w : World) (a : Option Addr) (n c n' c' : Nat), (binOp .eql (ρ.t 22) (.slice a n c) (.slice none n' c')).run P w = .ok (.bool a.isNone) w := fun w a n c n' c' => Lib.run_eql_slice_nil w _ _ a n c n' c' L.t22
  have u22 : ∀ w, Sem.run P (underlying (ρ.t 22)) w = .ok (TypeDesc.slice (ρ.t 23)) w := run_underlying t22
  obtain ⟨_, _, FG⟩ := L.f41
  go_enter FG, SlBodyN.n41_ntmps ρ
  go_wp2
  go_ret
  exact ⟨rfl, rfl⟩

theorem c5h (L : SlLaysE0.n41 P ρ) (i0 : TypeInfo) (z : Value) (hi : P.info? (ρ.t 23) = some i0) (hz0 : i0.zero = some z) (hz1 : i0.size = 1) (hz2 : i0.bytes = 8) (hzs : z.cells.size = 1)
    (z23 : ∀ w, (Go.sizeOf (ρ.t 23)).run P w = .ok 1 w) (w : World) (a : Option Addr) (n c : Nat) (news : List Value) (hl : news.length = n) (hn : n ≤ H6)
    (hc : n ≠ 0 → ∃ b o, a = some ⟨b, o, none⟩ ∧ ∀ (j : Nat) u, news[j]? = some u → w.cell? ⟨b, o + j, none⟩ = some u) (h1 : ∀ u ∈ news, ∃ x, u = Value.int .i64 x) :
    Calls P (ρ.f 41) #[.slice a n c] w fun e w' => ∃ v', e = .returned v' ∧ w'.ownsRow w.heap.size (ρ.t 23) 1 v' n news ∧ Below w.heap.size w w' := by
  simp only [H6] at hn
  cases a with
  | none =>
    have h0 : n = 0 := Classical.byContradiction fun h => by obtain ⟨_, _, h2, _⟩ := hc h; cases h2
    subst h0
    refine (AnyE.slices_Clone_nil L 0 c w).mono ?_
    rintro e w' ⟨rfl, rfl⟩
    exact ⟨_, rfl, ⟨by simpa using hl, .inl ⟨rfl, rfl⟩⟩, .refl _ _⟩
  | some a =>
    by_cases h0 : n = 0
    · subst h0
      refine (b9f L z23 a c w).mono ?_
      rintro e w' ⟨rfl, rfl⟩
      refine ⟨_, rfl, ⟨by simpa using hl, .inr ⟨w.heap.size, 0, #[], rfl, Nat.le_refl _, heap_alloc_new w _, Nat.le_refl _, by simp [maxLen], rfl, ?_⟩⟩, (Below.refl _ _).alloc (Nat.le_refl _) _⟩
      have : news = [] := List.length_eq_zero_iff.1 hl
      subst this
      rfl
    · obtain ⟨b, o, he, hcl⟩ := hc h0
      cases he
      refine (AnyE.slices_Clone L i0 z 1 8 hi hz0 hz1 hz2 hzs (by decide) z23 b o n c news w (by omega) (by simp [maxLen]; omega) (by omega) hcl (fun u hu => by obtain ⟨x, rfl⟩ := h1 u hu; rfl)).mono ?_
      rintro e w' ⟨v', rfl, hown, _, hB⟩
      exact ⟨v', rfl, hown, hB⟩

theorem c1r : ∀ {es : List AV} {xs : List Int}, unI es = some xs → es = xs.map iV
  | [], xs, h => by cases h; rfl
  | .val (.int .i64 n) :: r, xs, h => by
    simp only [unI, Option.map_eq_some_iff] at h
    obtain ⟨ys, h1, rfl⟩ := h
    rw [c1r h1]
    rfl

theorem b7o {Γ : Env} (hmo : ¬ Γ.mo) (f : Nat) (md : Nat → Nat) (L : SlLaysE0.n41 P ρ) (i0 : TypeInfo) (z : Value) (hi : P.info? (ρ.t 23) = some i0) (hz0 : i0.zero = some z) (hz1 : i0.size = 1) (hz2 : i0.bytes = 8) (hzs : z.cells.size = 1)
    (z23 : ∀ w, (Go.sizeOf (ρ.t 23)).run P w = .ok 1 w) (hf : ρ.f 41 = f) {args : List AV} {res : AV} {outs : List (List AV)} (h : a7h args = some (res, outs)) : a2e Γ P md f args res outs := by
  unfold a7h at h
  split at h
  · rename_i es
    split at h
    · rename_i hl
      simp only [Option.map_eq_some_iff, Prod.mk.injEq] at h
      obtain ⟨xs, h1, rfl, rfl⟩ := h
      have := c1r h1
      subst this
      subst hf
      exact b2h hmo xs (by simpa using hl) (fun w a n c news => c5h L i0 z hi hz0 hz1 hz2 hzs z23 w a n c news)
    · cases h
  · cases h

theorem b9g {Γ : Env} (f : Nat) (md : Nat → Nat) (L : SlLaysM.n5 P ρ) (hf : ρ.f 5 = f) (hmd : md 0 = 1) {args : List AV} {res : AV} {outs : List (List AV)} (h : b1d args = some (res, outs)) : a2e Γ P md f args res outs := by
  unfold b1d at h
  split at h
  · rename_i es
    split at h
    · rename_i hl
      simp only [Option.map_eq_some_iff, Prod.mk.injEq] at h
      obtain ⟨xs, h1, rfl, rfl⟩ := h
      have := c1r h1
      subst this
      subst hf
      refine b4w xs (U7 xs) (by simpa using hl) (by simp) hmd (fun w a c => AnyM.slices_Sort_int_none L a c w) (fun w b o c hH hb hx => ?_)
      have := AnyM.slices_Sort_int L b o c xs w hH hb (by simp only [H6] at hx; omega)
      rwa [b0o] at this
    · cases h
  · cases h
end Go.Proofs
namespace Go.Proofs
theorem c4s {tb : List (Nat × (List AV → Option (AV × List (List AV))))} {f : Nat} {F : List AV → Option (AV × List (List AV))} (h : c3o tb f = some F) : (f, F) ∈ tb := by
  unfold c3o at h
  split at h
  · rename_i x hx
    cases h
    have h1 := List.mem_of_find?_eq_some hx
    have h2 : (x.1 == f) = true := by simpa using List.find?_some hx
    rw [← eq_of_beq h2]
    exact h1
  · cases h
def d1g (i : TypeInfo) : Bool := i.size == 1 && i.bytes == 8 && (match i.zero with | some (.int .i64 0) => true | _ => false)
theorem c8s {P : Program} {T : Nat} (h : (match P.info? T with | some i => d1g i | none => false) = true) :
    ∃ i0 z, P.info? T = some i0 ∧ i0.zero = some z ∧ i0.size = 1 ∧ i0.bytes = 8 ∧ z.cells.size = 1 := by
  split at h
  · rename_i i hi
    simp only [d1g, Bool.and_eq_true, beq_iff_eq] at h
    obtain ⟨⟨h1, h2⟩, h3⟩ := h
    split at h3
    · rename_i hz
      exact ⟨i, _, hi, hz, h1, h2, rfl⟩
    · cases h3
  · cases h
theorem b1y {P : Program} {f : Nat} {fn : Func} (h : P.funcs[f]? = some fn) (h1 : (fn.name == "runtime.NumGoroutine") = false) (h2 : fn.body.isNone = false) : Mv.Enters P f := ⟨fn, h, h1, h2⟩
end Go.Proofs
end
open Go Go.Mv Go.Proofs Go.Proofs.Ytpjgdgnaeohmeaa Go.Shelf Go.RowKit Go.Lib
namespace Go.Proofs
def Try.lClone_ren : Go.Shelf.Ren := ⟨fun | 41 => 55 | n => n, fun | 22 => 26 | 23 => 3 | 4 => 4 | n => n, fun | n => n⟩
theorem Try.lClone : Go.Proofs.SlLaysE0.n41 Try.prog Try.lClone_ren := {
  mixed := by kernel_rfl
  f41 := ⟨Try.f55.name, by decide, Try.func55.trans (congrArg some (by kernel_rfl))⟩
  t4 := Try.underlying4
  a4 := Try.isAgg4
  z4 := Try.sizeOf4
  v4 := Try.zeroValue4
  t22 := Try.underlying26
  a22 := Try.isAgg26
  z22 := Try.sizeOf26
  v22 := Try.zeroValue26 }
def Try.lSort_ren : Go.Shelf.Ren := ⟨fun | 5 => 56 | 8 => 69 | 7 => 68 | 19 => 85 | 20 => 86 | 10 => 76 | 11 => 77 | 12 => 78 | 13 => 79 | 14 => 80 | 15 => 81 | 16 => 82 | 17 => 83 | 18 => 84 | 30 => 90 | 31 => 91 | 32 => 92 | 33 => 93 | 34 => 94 | 35 => 95 | 40 => 97 | n => n, fun | 23 => 26 | 25 => 3 | 3 => 3 | 32 => 86 | 22 => 26 | 0 => 0 | 44 => 102 | 46 => 104 | 4 => 4 | 36 => 95 | 35 => 94 | 41 => 99 | 5 => 5 | 9 => 9 | 53 => 107 | 57 => 111 | 63 => 113 | 64 => 114 | n => n, fun | n => n⟩
theorem Try.lSort : Go.Proofs.SlLaysM.n5 Try.prog Try.lSort_ren := {
  mixed := by kernel_rfl
  f5 := ⟨Try.f56.name, by decide, Try.func56.trans (congrArg some (by kernel_rfl))⟩
  f7 := ⟨Try.f68.name, by decide, Try.func68.trans (congrArg some (by kernel_rfl))⟩
  f8 := Try.func69.trans (congrArg some (by kernel_rfl))
  f10 := ⟨Try.f76.name, by decide, Try.func76.trans (congrArg some (by kernel_rfl))⟩
  f11 := ⟨Try.f77.name, by decide, Try.func77.trans (congrArg some (by kernel_rfl))⟩
  f12 := ⟨Try.f78.name, by decide, Try.func78.trans (congrArg some (by kernel_rfl))⟩
  f13 := ⟨Try.f79.name, by decide, Try.func79.trans (congrArg some (by kernel_rfl))⟩
  f14 := ⟨Try.f80.name, by decide, Try.func80.trans (congrArg some (by kernel_rfl))⟩
  f15 := ⟨Try.f81.name, by decide, Try.func81.trans (congrArg some (by kernel_rfl))⟩
  f16 := ⟨Try.f82.name, by decide, Try.func82.trans (congrArg some (by kernel_rfl))⟩
  f17 := ⟨Try.f83.name, by decide, Try.func83.trans (congrArg some (by kernel_rfl))⟩
  f18 := ⟨Try.f84.name, by decide, Try.func84.trans (congrArg some (by kernel_rfl))⟩
  f19 := Try.func85.trans (congrArg some (by kernel_rfl))
  f20 := Try.func86.trans (congrArg some (by kernel_rfl))
  f30 := ⟨Try.f90.name, by decide, Try.func90.trans (congrArg some (by kernel_rfl))⟩
  f31 := Try.func91.trans (congrArg some (by kernel_rfl))
  f32 := Try.func92.trans (congrArg some (by kernel_rfl))
  f33 := ⟨Try.f93.name, by decide, Try.func93.trans (congrArg some (by kernel_rfl))⟩
  f34 := ⟨Try.f94.name, by decide, Try.func94.trans (congrArg some (by kernel_rfl))⟩
  f35 := ⟨Try.f95.name, by decide, Try.func95.trans (congrArg some (by kernel_rfl))⟩
  f40 := ⟨Try.f97.name, by decide, Try.func97.trans (congrArg some (by kernel_rfl))⟩
  t0 := Try.underlying0
  a0 := Try.isAgg0
  z0 := Try.sizeOf0
  v0 := Try.zeroValue0
  t3 := Try.underlying3
  a3 := Try.isAgg3
  z3 := Try.sizeOf3
  v3 := Try.zeroValue3
  t4 := Try.underlying4
  a4 := Try.isAgg4
  z4 := Try.sizeOf4
  v4 := Try.zeroValue4
  t5 := Try.underlying5
  a5 := Try.isAgg5
  z5 := Try.sizeOf5
  v5 := Try.zeroValue5
  t9 := Try.underlying9
  a9 := Try.isAgg9
  z9 := Try.sizeOf9
  v9 := Try.zeroValue9
  t22 := Try.underlying26
  a22 := Try.isAgg26
  z22 := Try.sizeOf26
  v22 := Try.zeroValue26
  t23 := Try.underlying26
  a23 := Try.isAgg26
  z23 := Try.sizeOf26
  v23 := Try.zeroValue26
  t25 := Try.underlying3
  a25 := Try.isAgg3
  z25 := Try.sizeOf3
  v25 := Try.zeroValue3
  t32 := Try.underlying86
  a32 := Try.isAgg86
  z32 := Try.sizeOf86
  v32 := Try.zeroValue86
  t35 := Try.underlying94
  a35 := Try.isAgg94
  z35 := Try.sizeOf94
  v35 := Try.zeroValue94
  t36 := Try.underlying95
  a36 := Try.isAgg95
  z36 := Try.sizeOf95
  v36 := Try.zeroValue95
  t41 := Try.underlying99
  a41 := Try.isAgg99
  z41 := Try.sizeOf99
  v41 := Try.zeroValue99
  t44 := Try.underlying102
  a44 := Try.isAgg102
  z44 := Try.sizeOf102
  v44 := Try.zeroValue102
  t46 := Try.underlying104
  a46 := Try.isAgg104
  z46 := Try.sizeOf104
  v46 := Try.zeroValue104
  t53 := Try.underlying107
  a53 := Try.isAgg107
  z53 := Try.sizeOf107
  v53 := Try.zeroValue107
  t57 := Try.underlying111
  a57 := Try.isAgg111
  z57 := Try.sizeOf111
  v57 := Try.zeroValue111
  t63 := Try.underlying113
  a63 := Try.isAgg113
  z63 := Try.sizeOf113
  v63 := Try.zeroValue113
  t64 := Try.underlying114
  a64 := Try.isAgg114
  z64 := Try.sizeOf114
  v64 := Try.zeroValue114 }
theorem Try.soundX : c0q (Env.none False) cxT := by
  intro f F args res outs hF h
  have hm := c4s (show c3o d2c f = some F from hF)
  simp only [d2c, List.mem_cons, Prod.mk.injEq, List.not_mem_nil, or_false] at hm
  rcases hm with ⟨rfl, rfl⟩ | ⟨rfl, rfl⟩
  · obtain ⟨i0, z, hi, hz0, hz1, hz2, hzs⟩ := c8s (P := Try.prog) (T := 3) (by kernel_rfl)
    exact ⟨b7o (fun h => h) _ _ Try.lClone i0 z hi hz0 hz1 hz2 hzs Try.sizeOf3 rfl h, b1y Try.func55 (by kernel_rfl) (by kernel_rfl)⟩
  · exact ⟨b9g _ _ Try.lSort rfl rfl h, b1y Try.func56 (by kernel_rfl) (by kernel_rfl)⟩
theorem Try.soundI : a4x (Env.none False) cxT := a4x.none rfl
theorem Try.sound : SoundC (Env.none False) cxT (CW cxT) := c7n cxT (GlOk.none rfl rfl) Try.soundX Try.soundI (by kernel_rfl)
end Go.Proofs

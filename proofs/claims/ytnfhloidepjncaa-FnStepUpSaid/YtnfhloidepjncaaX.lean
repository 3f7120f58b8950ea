/- The functions of Go's library keep the contracts that the abstract machine asks of them. Conditions: none. -/
import Derived.Test.YtnfhloidepjncaaSa
import Derived.Shelf.SlicesE.Clone
import Derived.Shelf.SortM.Plain
import Derived.Shelf.SortM.SortNone
import Derived.Shelf.Slices.CompactI
import Derived.RangeFuncBox
import Derived.RangeFuncLeaves
import Derived.Shelf.Abstract
import Derived.WalkKit
import Derived.OwnWalkIn
import Derived.TacticsInMore
import Derived.LoopNIn
import Derived.LoopIn
import Derived.Shelf.SlLaysE0
import Derived.Ground.SlgnProg
import Derived.Shelf.SlLaysM
import Derived.Ground.SlgmProg

set_option linter.unusedVariables false
set_option linter.unusedSimpArgs false
section
/- Functions of the library: that they keep the contracts which the abstract machine asks of them. -/
open Go Go.Mv Go.Proofs Go.Shelf Go.RowKit Go.Lib
namespace Go.Mv
theorem mergeSort_sortI (xs : List Int) : (xs.mergeSort fun x y => decide (x ≤ y)) = sortI xs := by
  refine List.Perm.eq_of_pairwise (le := (· ≤ ·)) (fun a b _ _ h1 h2 => by omega) ?_ (sortI_sorted xs) ((List.mergeSort_perm _ _).trans (sortI_perm xs).symm)
  have := List.pairwise_mergeSort (le := fun x y : Int => decide (x ≤ y)) (fun a b c h1 h2 => by simp at *; omega) (fun a b => by simp; omega) xs
  simpa using this
end Go.Mv
namespace Go.Proofs
variable {P : Program} {ρ : Ren}
set_option maxHeartbeats 2000000 in
set_option maxRecDepth 100000 in
theorem clone_empty (L : SlLaysE0.n41 P ρ) (z23 : ∀ w, (Go.sizeOf (ρ.t 23)).run P w = .ok 1 w) (a : Addr) (c : Nat) (w : World) :
    Calls P (ρ.f 41) #[.slice (some a) 0 c] w fun e w' => e = .returned (.slice (some ⟨w.heap.size, 0, none⟩) 0 0) ∧ w' = w.alloc (.cells #[] (ρ.t 23)) := by
  have mixed := L.mixed; have t4 := L.t4; have a4 := L.a4; have z4 := L.z4; have v4 := L.v4; have t22 := L.t22; have a22 := L.a22; have z22 := L.z22; have v22 := L.v22
  have q22 : ∀ (w : World) (a : Option Addr) (n c n' c' : Nat), (binOp .eql (ρ.t 22) (.slice a n c) (.slice none n' c')).run P w = .ok (.bool a.isNone) w := fun w a n c n' c' => Lib.run_eql_slice_nil w _ _ a n c n' c' L.t22
  have u22 : ∀ w, Sem.run P (underlying (ρ.t 22)) w = .ok (TypeDesc.slice (ρ.t 23)) w := run_underlying t22
  obtain ⟨_, _, FG⟩ := L.f41
  go_enter FG, SlBodyN.n41_ntmps ρ
  go_wp2
  go_ret
  exact ⟨rfl, rfl⟩

theorem clone_any (L : SlLaysE0.n41 P ρ) (i0 : TypeInfo) (z : Value) (hi : P.info? (ρ.t 23) = some i0) (hz0 : i0.zero = some z) (hz1 : i0.size = 1) (hz2 : i0.bytes = 8) (hzs : z.cells.size = 1)
    (z23 : ∀ w, (Go.sizeOf (ρ.t 23)).run P w = .ok 1 w) (w : World) (a : Option Addr) (n c : Nat) (news : List Value) (hl : news.length = n) (hn : n ≤ maxL)
    (hc : n ≠ 0 → ∃ b o, a = some ⟨b, o, none⟩ ∧ ∀ (j : Nat) u, news[j]? = some u → w.cell? ⟨b, o + j, none⟩ = some u) (h1 : ∀ u ∈ news, ∃ x, u = Value.int .i64 x) :
    Calls P (ρ.f 41) #[.slice a n c] w fun e w' => ∃ v', e = .returned v' ∧ w'.ownsRow w.heap.size (ρ.t 23) 1 v' n news ∧ Below w.heap.size w w' := by
  simp only [maxL] at hn
  cases a with
  | none =>
    have h0 : n = 0 := Classical.byContradiction fun h => by obtain ⟨_, _, h2, _⟩ := hc h; cases h2
    subst h0
    refine (AnyE.slices_Clone_nil L 0 c w).mono ?_
    rintro e w' ⟨rfl, rfl⟩
    exact ⟨_, rfl, ⟨by simpa using hl, .inl ⟨rfl, rfl⟩⟩, .refl _ _⟩
  | some a =>
    by_cases h0 : n = 0
    · subst h0
      refine (clone_empty L z23 a c w).mono ?_
      rintro e w' ⟨rfl, rfl⟩
      refine ⟨_, rfl, ⟨by simpa using hl, .inr ⟨w.heap.size, 0, #[], rfl, Nat.le_refl _, heap_alloc_new w _, Nat.le_refl _, by simp [maxLen], rfl, ?_⟩⟩, (Below.refl _ _).alloc (Nat.le_refl _) _⟩
      have : news = [] := List.length_eq_zero_iff.1 hl
      subst this
      rfl
    · obtain ⟨b, o, he, hcl⟩ := hc h0
      cases he
      refine (AnyE.slices_Clone L i0 z 1 8 hi hz0 hz1 hz2 hzs (by decide) z23 b o n c news w (by omega) (by simp [maxLen]; omega) (by omega) hcl (fun u hu => by obtain ⟨x, rfl⟩ := h1 u hu; rfl)).mono ?_
      rintro e w' ⟨v', rfl, hown, _, hB⟩
      exact ⟨v', rfl, hown, hB⟩

theorem unI_eq : ∀ {es : List AV} {xs : List Int}, unI es = some xs → es = xs.map iV
  | [], xs, h => by cases h; rfl
  | .val (.int .i64 n) :: r, xs, h => by
    simp only [unI, Option.map_eq_some_iff] at h
    obtain ⟨ys, h1, rfl⟩ := h
    rw [unI_eq h1]
    rfl

theorem soundX_clone {Γ : Env} (hmo : ¬ Γ.mo) (f : Nat) (md : Nat → Nat) (L : SlLaysE0.n41 P ρ) (i0 : TypeInfo) (z : Value) (hi : P.info? (ρ.t 23) = some i0) (hz0 : i0.zero = some z) (hz1 : i0.size = 1) (hz2 : i0.bytes = 8) (hzs : z.cells.size = 1)
    (z23 : ∀ w, (Go.sizeOf (ρ.t 23)).run P w = .ok 1 w) (hf : ρ.f 41 = f) {args : List AV} {res : AV} {outs : List (List AV)} (h : extClone args = some (res, outs)) : Contract Γ P md f args res outs := by
  unfold extClone at h
  split at h
  · rename_i es
    split at h
    · rename_i hl
      simp only [Option.map_eq_some_iff, Prod.mk.injEq] at h
      obtain ⟨xs, h1, rfl, rfl⟩ := h
      have := unI_eq h1
      subst this
      subst hf
      exact contract_clone hmo xs (by simpa using hl) (fun w a n c news => clone_any L i0 z hi hz0 hz1 hz2 hzs z23 w a n c news)
    · cases h
  · cases h

theorem soundX_sort {Γ : Env} (f : Nat) (md : Nat → Nat) (L : SlLaysM.n5 P ρ) (hf : ρ.f 5 = f) (hmd : md 0 = 1) {args : List AV} {res : AV} {outs : List (List AV)} (h : extSort args = some (res, outs)) : Contract Γ P md f args res outs := by
  unfold extSort at h
  split at h
  · rename_i es
    split at h
    · rename_i hl
      simp only [Option.map_eq_some_iff, Prod.mk.injEq] at h
      obtain ⟨xs, h1, rfl, rfl⟩ := h
      have := unI_eq h1
      subst this
      subst hf
      refine contract_sort xs (sortI xs) (by simpa using hl) (by simp) hmd (fun w a c => AnyM.slices_Sort_int_none L a c w) (fun w b o c hH hb hx => ?_)
      have := AnyM.slices_Sort_int L b o c xs w hH hb (by simp only [maxL] at hx; omega)
      rwa [mergeSort_sortI] at this
    · cases h
  · cases h
end Go.Proofs
namespace Go.Proofs
theorem extOf_mem {tb : List (Nat × (List AV → Option (AV × List (List AV))))} {f : Nat} {F : List AV → Option (AV × List (List AV))} (h : extOf tb f = some F) : (f, F) ∈ tb := by
  unfold extOf at h
  split at h
  · rename_i x hx
    cases h
    have h1 := List.mem_of_find?_eq_some hx
    have h2 : (x.1 == f) = true := by simpa using List.find?_some hx
    rw [← eq_of_beq h2]
    exact h1
  · cases h
def infoI (i : TypeInfo) : Bool := i.size == 1 && i.bytes == 8 && (match i.zero with | some (.int .i64 0) => true | _ => false)
theorem infoI_of {P : Program} {T : Nat} (h : (match P.info? T with | some i => infoI i | none => false) = true) :
    ∃ i0 z, P.info? T = some i0 ∧ i0.zero = some z ∧ i0.size = 1 ∧ i0.bytes = 8 ∧ z.cells.size = 1 := by
  split at h
  · rename_i i hi
    simp only [infoI, Bool.and_eq_true, beq_iff_eq] at h
    obtain ⟨⟨h1, h2⟩, h3⟩ := h
    split at h3
    · rename_i hz
      exact ⟨i, _, hi, hz, h1, h2, rfl⟩
    · cases h3
  · cases h
theorem enters_ext {P : Program} {f : Nat} {fn : Func} (h : P.funcs[f]? = some fn) (h1 : (fn.name == "runtime.NumGoroutine") = false) (h2 : fn.body.isNone = false) : Mv.Enters P f := ⟨fn, h, h1, h2⟩
end Go.Proofs
end
section
/- slices.Compact and slices.Backward, as functions of the library. -/
open Go
namespace Go.Mv
open Go Go.RowKit

section
variable {P : Program} {Γ : Env}
/-- slices.Compact at numbers -/
theorem contract_compact {f : Nat} {md : Nat → Nat} (xs zs : List Int) (hx : xs.length ≤ maxL) (hz : zs.length ≤ xs.length) (hmd : md 0 = 2)
    (hnil : ∀ (w : World) (a : Option Addr) (c : Nat), Calls P f #[.slice a 0 c] w fun e w' => e = .returned (.slice a 0 c) ∧ w' = w)
    (hrow : ∀ (w : World) (b o c : Nat), Sort.Holds (Value.int .i64) w b o xs.toArray → xs.length ≤ c →
      Calls P f #[.slice (some ⟨b, o, none⟩) xs.length c] w fun e w' => e = .returned (.slice (some ⟨b, o, none⟩) zs.length c) ∧
        ∃ n, w' = Sort.putRow (Value.int .i64) (Sort.ahead w n) b o (zs ++ List.replicate (xs.length - zs.length) 0).toArray) :
    Contract Γ P md f [.own 1 (xs.map iV)] (.own 1 (zs.map iV)) [] := by
  intro w A O0 ν0 D vals hOA R hA
  have h0 := R.slots 0 (by simp)
  have hsz : vals.size = 1 := by simpa using R.size
  obtain ⟨v, rfl⟩ : ∃ v, vals = #[v] := by
    match vals, hsz with
    | ⟨[v]⟩, _ => exact ⟨v, rfl⟩
  have h0' : RS (initLoc md [.own 1 (xs.map iV)]) ν0 w D (.sl 0 1 none 0 (xs.map iV).length) v := h0
  have hob : initLoc md [.own 1 (xs.map iV)] (.h 0) = .obj 1 0 1 (xs.map iV) := by simp [initLoc, hmd]
  have hob2 : noSlots (initLoc md [.own 1 (xs.map iV)]) (.h 0) = .obj 1 0 1 (xs.map iV) := hob
  have hcid : cidAll md 0 [.own 1 (xs.map iV)] = [] := by simp [cidAll, cidArg, hmd]
  have hn1 : noRefL (zs.map iV) = true := noRef_map fun _ => rfl
  obtain ⟨⟨a, cap, rfl, hcap⟩, _, _, hS⟩ := h0'.sl_inv
  have hS := hS 0 1 (xs.map iV) (by unfold nodeAt; rw [hob]; simp)
  have R0 := R.noSlots
  rw [List.length_map] at hcap hS ⊢
  by_cases hn : xs = []
  · subst hn
    have hz0 : zs = [] := List.length_eq_zero_iff.1 (by simpa using hz)
    subst hz0
    refine (hnil w a cap).mono ?_
    rintro e w' ⟨rfl, rfl⟩
    obtain ⟨R1, _⟩ := R0.takeObj hob2 (κ := (5, 0, 0)) rfl 0
    refine ⟨_, rfl, _, D, _, _, R1, by rw [hcid]; rfl, .inr (.inr (.inr (.inl ⟨1, [], _, rfl, Fl.set_eq _ _ _, rfl, hS⟩))), floOk_one rfl rfl⟩
  · obtain ⟨a', cap', he, hle, hb⟩ := hS
    cases he
    have hpos : 0 < xs.length := List.length_pos_iff.2 hn
    rcases hb with hb | ⟨b, o, hν, ha, hbd⟩
    · omega
    · rw [Nat.zero_mul, Nat.add_zero] at ha
      subst ha
      have hRO := R0.objs 0 1 0 1 (xs.map iV) hob2
      have hT := hRO.top
      rw [hν] at hT
      obtain ⟨c, ety, hc1, hc2, hc3⟩ := RN.ints hT (fun x v h => by cases h with | data _ _ h => cases h; rfl)
      have hblt : b < w.heap.size := (Array.getElem?_eq_some_iff.1 hc1).1
      refine (hrow w b o cap (fun j hj => ?_) hcap).mono ?_
      · have hj' : j < xs.length := by simpa using hj
        have hget := hc3 j (xs[j]'hj') (List.getElem?_eq_getElem hj')
        refine ⟨?_, ?_⟩
        · unfold World.cell?
          simp only [hc1]
          simp [hget, hj']
        · unfold World.frozen?
          simp only [hc1]
          simp
      · rintro e w' ⟨rfl, n, rfl⟩
        obtain ⟨ys, hys⟩ : ∃ ys, ys = zs ++ List.replicate (xs.length - zs.length) 0 := ⟨_, rfl⟩
        rw [← hys]
        have hy : ys.length = xs.length := by rw [hys, List.length_append, List.length_replicate]; omega
        have hheap : ∀ k, k < w.heap.size → (Sort.putRow (Value.int .i64) (Sort.ahead w n) b o ys.toArray).heap[k]? =
            if k = b then some (.cells (Sort.putCells (Value.int .i64) o ys.toArray c) ety (0, 0)) else w.heap[k]? := by
          intro k hk
          simp only [Sort.putRow, Sort.mapBlock, Sort.ahead, Array.getElem?_modify]
          by_cases e : b = k
          · subst e
            simp [hc1, Sort.onCells]
          · rw [if_neg e, if_neg (fun h => e h.symm)]
        have W : WStep Γ w (Sort.putRow (Value.int .i64) (Sort.ahead w n) b o ys.toArray) b := by
          refine ⟨by simp [Sort.ahead], rfl, rfl, rfl, fun _ => by simp [Sort.putRow, Sort.mapBlock, Sort.ahead], fun k hk hne => ?_, fun k hk => ?_⟩
          · rw [hheap k hk, if_neg hne]
          · unfold csize
            rw [hheap k hk]
            by_cases e : k = b
            · subst e
              rw [if_pos rfl, hc1]
              exact putCells_size _ _ _ _
            · rw [if_neg e]
        have hRN : RN (Sort.putRow (Value.int .i64) (Sort.ahead w n) b o ys.toArray) (RS (noSlots (initLoc md [.own 1 (xs.map iV)])) ν0 w D) (ν0 0) (ν0 0 none) (0 = 3 ∨ 0 = 4) 1 (ys.map iV) := by
          rw [hν]
          refine ⟨_, ety, by rw [hheap b hblt, if_pos rfl], ?_, fun _ e he => ?_, fun h => by simp at h, fun i j l hl => ?_⟩
          · rw [putCells_size, List.length_map, hy]; omega
          · obtain ⟨x, _, rfl⟩ := List.mem_map.1 he
            rfl
          · obtain ⟨x, hx', rfl, rfl⟩ := leafAt_iV hl
            have hi : i < ys.length := (List.getElem?_eq_some_iff.1 hx').1
            refine ⟨.int .i64 x, ?_, RS.data _ _ (.val _)⟩
            have hxi : ys[i] = x := by rw [List.getElem?_eq_getElem hi] at hx'; exact Option.some.inj hx'
            have hlt : o + i < c.size := by omega
            simp only [Sort.putCells, Nat.mul_one, Nat.add_zero, Array.getElem?_mapIdx]
            rw [Array.getElem?_eq_getElem hlt]
            simp [hi, hxi]
        obtain ⟨R1, _⟩ := R0.storeTop W hob2 (by decide) ⟨o, hν⟩ (ν0 0) rfl hRN (fun i j h => by obtain ⟨x, _, _, h⟩ := leafAt_iV h; cases h) (fun _ _ => False) (fun _ _ => (0, 0, 0)) (fun _ => False)
          (fun i j s' es2 h => by obtain ⟨x, _, _, h⟩ := leafAt_iV h; cases h) (fun i j i' j' s1 e1 s2 e2 _ _ h => h.elim) (fun _ => rfl) (F' := Fl.emp) (fun k h => h.elim) (fun k _ => rfl)
        obtain ⟨R2, _⟩ := R1.takeObj (κ := (5, 0, 0)) (St.upd_eq _ _ _) rfl zs.length
        have htk : (ys.map iV).take zs.length = zs.map iV := by
          rw [← List.map_take, hys, List.take_left']; rfl
        rw [htk] at R2
        refine ⟨_, rfl, _, D, _, _, R2, by rw [hcid]; rfl, .inr (.inr (.inr (.inl ⟨1, zs.map iV, _, rfl, Fl.set_eq _ _ _, hn1, ?_⟩))), floOk_one hn1 (hasListL_map_iV zs)⟩
        refine ⟨_, cap, by rw [List.length_map], by rw [List.length_map]; omega, .inr ⟨b, o, by rw [Nu.set_eq]; exact hν, by simp, ?_⟩⟩
        rw [W.cs b hblt]
        simpa using hbd

/-- a fresh block is taken to be data -/
theorem Rel.addD {w0 : World} {A O0 : Nat → Prop} {ν0 : Nu} {N : Nat} {F : Fl} {D : Nat → Prop} {st : St} {ν : Nu} {tm : Array Value} {w : World} (R : Rel Γ w0 A O0 ν0 N F D st ν tm w) {B : Nat} (hB : B < w.heap.size) (h0 : w0.heap.size ≤ B) (ht : ¬ TB st ν F B)
    (hc : ∃ c ety, w.heap[B]? = some (.cells c ety (0, 0))) : Rel Γ w0 A O0 ν0 N F (fun b => D b ∨ b = B) st ν tm w := by
  have hL : ∀ a v, RS st ν w D a v → RS st ν w (fun b => D b ∨ b = B) a v := fun a v h => h.same (Ext.refl _ _ _) fun b h => .inl h
  refine R.ghost (fun _ => rfl) (Ext.refl _ _ _) (fun b h => .inl h) (fun id g m s es h => ?_) (fun id g s es h => ⟨fun b o hb => .inl ((R.frozen id g s es h).1 b o hb), (R.frozen id g s es h).2⟩)
    (fun k f h => ?_) id (fun k b o hl hb => ⟨o, hl, hb⟩) (fun _ _ _ _ h => h) (fun b hb hd => ?_) R.io
  · exact (R.objs id g m s es h).mono rfl (fun _ _ _ _ _ => rfl) (fun _ _ _ => rfl) (fun _ _ _ _ _ _ _ _ => rfl) hL
  · exact (R.flos k f h).mono rfl (fun _ _ _ _ _ => rfl) (fun _ _ _ => rfl) (fun _ _ _ _ _ _ _ _ => rfl) hL
  · rcases hb with hb | rfl
    · exact (hd hb).elim
    · exact ⟨ht, .inr h0, hB, fun _ => hc⟩

/-- slices.Backward -/
theorem contract_backward (hmo : ¬ Γ.mo) {f k : Nat} {md : Nat → Nat} {ty : TypeId} (es : List AV)
    (hcl : ∀ (w : World) (a : Option Addr) (n c : Nat), Calls P f #[.slice a n c] w fun e w' => e = .returned (.func (.func k) #[] #[.pointer (some ⟨w.heap.size, 0, none⟩)]) ∧ w' = w.alloc (.cells #[.slice a n c] ty)) :
    Contract Γ P md f [.list es] (.clo k [.ipt (.list es) 0]) [] := by
  intro w A O0 ν0 D vals hOA R hA
  have h0 := R.slots 0 (by simp)
  have hsz : vals.size = 1 := by simpa using R.size
  obtain ⟨v, rfl⟩ : ∃ v, vals = #[v] := by
    match vals, hsz with
    | ⟨[v]⟩, _ => exact ⟨v, rfl⟩
  have hv : RV w D (.list es) v := RS.list_inv h0
  have R0 := R.noSlots
  obtain ⟨a, n, c, rfl⟩ : ∃ a n c, v = .slice a n c := by cases hv; exact ⟨_, _, _, rfl⟩
  refine (hcl w a n c).mono ?_
  rintro e w' ⟨rfl, rfl⟩
  have hbel : Below w.heap.size w (w.alloc (.cells #[.slice a n c] ty)) := (Below.refl _ _).alloc (Nat.le_refl _) _
  have R1 := R0.stay (wstep_below (fun h => (hmo h).elim) hbel (bt := w.heap.size)) (Nat.le_refl _)
  have hnew := heap_alloc_new w (.cells #[.slice a n c] ty)
  have hnt : ¬ TB (noSlots (initLoc md [.list es])) ν0 Fl.emp w.heap.size := by
    rintro ⟨q, o, hl, hb⟩
    have := R0.live_lt hl hb
    omega
  have hszn : w.heap.size < (w.alloc (.cells #[.slice a n c] ty)).heap.size := (Array.getElem?_eq_some_iff.1 hnew).1
  have R2 := Rel.addD R1 hszn (Nat.le_refl _) hnt ⟨_, _, hnew⟩
  have hv' : RV (w.alloc (.cells #[.slice a n c] ty)) (fun b => D b ∨ b = w.heap.size) (.list es) (.slice a n c) := by
    have h1 : RS (noSlots (initLoc md [.list es])) ν0 w D (.list es) (.slice a n c) := .data _ _ hv
    have E := R0.extW (wstep_below (fun h => (hmo h).elim) hbel (bt := w.heap.size))
    have h2 := h1.mono E (R0.keepD (wstep_below (fun h => (hmo h).elim) hbel (bt := w.heap.size)) (.inr (Nat.le_refl _))) hbel.size
    exact (RS.list_inv h2).wider fun b h => .inl h
  refine ⟨_, rfl, Fl.emp, _, _, ν0, R2, rfl, .inr (.inr (.inr (.inr ⟨rfl, ?_⟩))), fun _ _ h => by cases h⟩
  refine .clo k _ _ rfl fun i l hl => ?_
  match i, hl with
  | 0, hl =>
    cases hl
    have hcell : (w.alloc (.cells #[.slice a n c] ty)).cell? ⟨w.heap.size, 0, none⟩ = some (.slice a n c) := by
      unfold World.cell?
      rw [hnew]
      rfl
    have := RV.ipt (w := w.alloc (.cells #[.slice a n c] ty)) (D := fun b => D b ∨ b = w.heap.size) (.list es) 0 w.heap.size 0 (fun _ => .slice a n c) ⟨.inr rfl, hszn⟩
      (fun k l hk => by
        match k, hk with
        | 0, hk => exact hcell) (fun k l hk => by
        match k, hk with
        | 0, hk => cases hk; exact hv')
    exact this

theorem compactI_eq (xs : List Int) : Lib.compact xs = compactI xs := by
  have key : ∀ m, m ≤ xs.length → Lib.compactUpTo xs.toArray m = compactI (xs.take m) := by
    intro m
    induction m with
    | zero => intro _; rfl
    | succ m ih =>
      intro hm
      have hget : ∀ j, (h : j < xs.length) → xs.toArray[j]! = xs[j] := fun j h => by simp [getElem!_pos, h]
      rw [Lib.compactUpTo_succ, ih (by omega), List.take_add_one, List.getElem?_eq_getElem (by omega), Option.toList_some, compactI_snoc, compactI_last, hget m (by omega)]
      cases m with
      | zero => simp [Lib.keeps]
      | succ k =>
        have hl : (xs.take (k + 1)).getLast? = some xs[k] := by
          rw [List.getLast?_eq_getElem?, List.length_take, Nat.min_eq_left (by omega), Nat.add_sub_cancel, List.getElem?_take, if_pos (by omega), List.getElem?_eq_getElem (by omega)]
        rw [hl]
        have hk : Lib.keeps xs.toArray (k + 1) = decide (xs[k + 1] ≠ xs[k]) := by
          unfold Lib.keeps
          rw [hget (k + 1) (by omega), Nat.add_sub_cancel, hget k (by omega)]
          simp
        rw [hk]
        by_cases e : xs[k + 1] = xs[k]
        · simp [e]
        · have e2 : ¬ xs[k] = xs[k + 1] := fun h => e h.symm
          simp [e, e2]
  have := key xs.length (Nat.le_refl _)
  rw [List.take_length] at this
  exact this
end
end Go.Mv
namespace Go.Proofs
open Go Go.Mv Go.Proofs Go.Shelf Go.RowKit Go.Lib
variable {P : Program} {ρ : Ren}
theorem soundX_compact {Γ : Env} (f : Nat) (md : Nat → Nat) (L : Lays2.n20 P ρ) (hf : ρ.f 20 = f) (hmd : md 0 = 2) {args : List AV} {res : AV} {outs : List (List AV)} (h : extCompact args = some (res, outs)) : Contract Γ P md f args res outs := by
  unfold extCompact at h
  split at h
  · rename_i es
    split at h
    · rename_i hl
      simp only [Option.map_eq_some_iff, Prod.mk.injEq] at h
      obtain ⟨xs, h1, rfl, rfl⟩ := h
      have := unI_eq h1
      subst this
      subst hf
      refine contract_compact xs (compactI xs) (by simpa using hl) (compactI_length_le xs) hmd (fun w a c => Any.slices_Compact_int_empty L a c w) (fun w b o c hH hc => ?_)
      have := Any.slices_Compact_int L b o c xs w hH (by simp only [maxL, List.length_map] at hl; omega) hc
      rwa [compactI_eq] at this
    · cases h
  · cases h
end Go.Proofs
end
open Go Go.Mv Go.Proofs Go.Proofs.Ytnfhloidepjncaa Go.Shelf Go.RowKit Go.Lib
namespace Go.Proofs
def Try.lClone_ren : Go.Shelf.Ren := ⟨fun | 41 => 61 | n => n, fun | 22 => 23 | 23 => 3 | 4 => 4 | n => n, fun | n => n⟩
theorem Try.lClone : Go.Proofs.SlLaysE0.n41 Try.prog Try.lClone_ren := {
  mixed := by kernel_rfl
  f41 := ⟨Try.f61.name, by decide, Try.func61.trans (congrArg some (by kernel_rfl))⟩
  t4 := Try.underlying4
  a4 := Try.isAgg4
  z4 := Try.sizeOf4
  v4 := Try.zeroValue4
  t22 := Try.underlying23
  a22 := Try.isAgg23
  z22 := Try.sizeOf23
  v22 := Try.zeroValue23 }
def Try.lSort_ren : Go.Shelf.Ren := ⟨fun | 5 => 62 | 8 => 74 | 7 => 73 | 19 => 88 | 20 => 89 | 10 => 79 | 11 => 80 | 12 => 81 | 13 => 82 | 14 => 83 | 15 => 84 | 16 => 85 | 17 => 86 | 18 => 87 | 30 => 92 | 31 => 93 | 32 => 94 | 33 => 95 | 34 => 96 | 35 => 76 | 40 => 98 | n => n, fun | 23 => 23 | 25 => 3 | 3 => 3 | 32 => 76 | 22 => 23 | 0 => 0 | 44 => 86 | 46 => 88 | 4 => 4 | 36 => 81 | 35 => 80 | 41 => 72 | 5 => 5 | 9 => 9 | 53 => 91 | 57 => 95 | 63 => 97 | 64 => 98 | n => n, fun | n => n⟩
theorem Try.lSort : Go.Proofs.SlLaysM.n5 Try.prog Try.lSort_ren := {
  mixed := by kernel_rfl
  f5 := ⟨Try.f62.name, by decide, Try.func62.trans (congrArg some (by kernel_rfl))⟩
  f7 := ⟨Try.f73.name, by decide, Try.func73.trans (congrArg some (by kernel_rfl))⟩
  f8 := Try.func74.trans (congrArg some (by kernel_rfl))
  f10 := ⟨Try.f79.name, by decide, Try.func79.trans (congrArg some (by kernel_rfl))⟩
  f11 := ⟨Try.f80.name, by decide, Try.func80.trans (congrArg some (by kernel_rfl))⟩
  f12 := ⟨Try.f81.name, by decide, Try.func81.trans (congrArg some (by kernel_rfl))⟩
  f13 := ⟨Try.f82.name, by decide, Try.func82.trans (congrArg some (by kernel_rfl))⟩
  f14 := ⟨Try.f83.name, by decide, Try.func83.trans (congrArg some (by kernel_rfl))⟩
  f15 := ⟨Try.f84.name, by decide, Try.func84.trans (congrArg some (by kernel_rfl))⟩
  f16 := ⟨Try.f85.name, by decide, Try.func85.trans (congrArg some (by kernel_rfl))⟩
  f17 := ⟨Try.f86.name, by decide, Try.func86.trans (congrArg some (by kernel_rfl))⟩
  f18 := ⟨Try.f87.name, by decide, Try.func87.trans (congrArg some (by kernel_rfl))⟩
  f19 := Try.func88.trans (congrArg some (by kernel_rfl))
  f20 := Try.func89.trans (congrArg some (by kernel_rfl))
  f30 := ⟨Try.f92.name, by decide, Try.func92.trans (congrArg some (by kernel_rfl))⟩
  f31 := Try.func93.trans (congrArg some (by kernel_rfl))
  f32 := Try.func94.trans (congrArg some (by kernel_rfl))
  f33 := ⟨Try.f95.name, by decide, Try.func95.trans (congrArg some (by kernel_rfl))⟩
  f34 := ⟨Try.f96.name, by decide, Try.func96.trans (congrArg some (by kernel_rfl))⟩
  f35 := ⟨Try.f76.name, by decide, Try.func76.trans (congrArg some (by kernel_rfl))⟩
  f40 := ⟨Try.f98.name, by decide, Try.func98.trans (congrArg some (by kernel_rfl))⟩
  t0 := Try.underlying0
  a0 := Try.isAgg0
  z0 := Try.sizeOf0
  v0 := Try.zeroValue0
  t3 := Try.underlying3
  a3 := Try.isAgg3
  z3 := Try.sizeOf3
  v3 := Try.zeroValue3
  t4 := Try.underlying4
  a4 := Try.isAgg4
  z4 := Try.sizeOf4
  v4 := Try.zeroValue4
  t5 := Try.underlying5
  a5 := Try.isAgg5
  z5 := Try.sizeOf5
  v5 := Try.zeroValue5
  t9 := Try.underlying9
  a9 := Try.isAgg9
  z9 := Try.sizeOf9
  v9 := Try.zeroValue9
  t22 := Try.underlying23
  a22 := Try.isAgg23
  z22 := Try.sizeOf23
  v22 := Try.zeroValue23
  t23 := Try.underlying23
  a23 := Try.isAgg23
  z23 := Try.sizeOf23
  v23 := Try.zeroValue23
  t25 := Try.underlying3
  a25 := Try.isAgg3
  z25 := Try.sizeOf3
  v25 := Try.zeroValue3
  t32 := Try.underlying76
  a32 := Try.isAgg76
  z32 := Try.sizeOf76
  v32 := Try.zeroValue76
  t35 := Try.underlying80
  a35 := Try.isAgg80
  z35 := Try.sizeOf80
  v35 := Try.zeroValue80
  t36 := Try.underlying81
  a36 := Try.isAgg81
  z36 := Try.sizeOf81
  v36 := Try.zeroValue81
  t41 := Try.underlying72
  a41 := Try.isAgg72
  z41 := Try.sizeOf72
  v41 := Try.zeroValue72
  t44 := Try.underlying86
  a44 := Try.isAgg86
  z44 := Try.sizeOf86
  v44 := Try.zeroValue86
  t46 := Try.underlying88
  a46 := Try.isAgg88
  z46 := Try.sizeOf88
  v46 := Try.zeroValue88
  t53 := Try.underlying91
  a53 := Try.isAgg91
  z53 := Try.sizeOf91
  v53 := Try.zeroValue91
  t57 := Try.underlying95
  a57 := Try.isAgg95
  z57 := Try.sizeOf95
  v57 := Try.zeroValue95
  t63 := Try.underlying97
  a63 := Try.isAgg97
  z63 := Try.sizeOf97
  v63 := Try.zeroValue97
  t64 := Try.underlying98
  a64 := Try.isAgg98
  z64 := Try.sizeOf98
  v64 := Try.zeroValue98 }
attribute [local go_sem] Oper.semAt_some

def bwdItem (f : Nat → Int) (len j : Nat) : List Value := [.int .i64 ((len - 1 - j : Nat) : Int), .int .i64 (f (len - 1 - j))]
theorem rangeMap_succ {α : Type} (f : Nat → α) (k : Nat) : (List.range (k + 1)).map f = (List.range k).map f ++ [f k] := by simp [List.range_succ]
def bwdInt : Value → Int
  | .int _ n => n
  | _ => 0
set_option maxRecDepth 100000 in
set_option maxHeartbeats 4000000 in
/-- slices.Backward's closure -/
theorem Try.bwd1_in (F : Fence) (n : Nat) (h8 : F.fn 77) (hro : F.round = none) (hn : 1 ≤ n) (l Bs bo b off len cap : Nat) (f : Nat → Int) (hreach : len * 8 ≤ 140737488351232) (Kp : World → World → Prop) (hKt : ∀ {A B C}, Kp A B → Kp B C → Kp A C) (hKr : ∀ A, Kp A A)
    (J Jx : List (List Value) → World → Prop)
    (hY : ∀ m W, m < len → J ((List.range (len - 1 - m)).map (bwdItem f len)) W → YieldAt F (n - 1) Try.prog l #[.int .i64 (m : Int), .int .i64 (f m)] W fun e W' =>
      (e = .returned (.bool true) ∧ J ((List.range (len - m)).map (bwdItem f len)) W' ∧ Kp W W') ∨ (e = .returned (.bool false) ∧ Jx ((List.range (len - m)).map (bwdItem f len)) W'))
    (W : World) (hBs : ∀ W', Kp W W' → W'.cell? ⟨Bs, bo, none⟩ = some (.slice (some ⟨b, off, none⟩) len cap)) (hc : ∀ W', Kp W W' → ∀ j, j < len → W'.cell? ⟨b, off + j, none⟩ = some (.int .i64 (f j))) (h0 : J [] W) :
    CallsIn F n Try.prog 77 #[.func (.yield l) #[] #[], .pointer (some ⟨Bs, bo, none⟩)] W fun e W' => (∃ v, e = .returned v) ∧
      (J ((List.range len).map (bwdItem f len)) W' ∨ (∃ m, m < len ∧ Jx ((List.range (len - m)).map (bwdItem f len)) W')) := by
  refine callsIn_of_wp Try.func77 rfl h8 ?_ hro
  simp only [Try.ntmps77, List.size_toArray, List.length_cons, List.length_nil, Nat.reduceAdd, Nat.reduceSub, Array.replicate_succ, Array.replicate_zero, List.push_toArray, List.append_toArray, List.nil_append, List.cons_append]
  have hB0 := hBs W (hKr W)
  gi_wp2
  gi_loopw [3] (fun i wr => ∃ k : Nat, k ≤ len ∧ i = .int .i64 ((k : Int) - 1) ∧ J ((List.range (len - k)).map (bwdItem f len)) wr ∧ Kp W wr)
    (fun i _ => (bwdInt i + 1).toNat)
  case atStart => exact ⟨len, Nat.le_refl _, by first | rfl | (congr 1; simp [wrap64]; omega), by rw [Nat.sub_self]; exact h0, hKr W⟩
  case round =>
    obtain ⟨k, hk, rfl, hJs, hnx⟩ := hrel
    have hB1 := hBs wr hnx
    cases k with
    | succ m =>
      have e1 : ((m + 1 : Nat) : Int) - 1 = (m : Int) := by omega
      rw [e1]
      obtain ⟨fn, tmps, assign, body, hy, hR⟩ := hY m wr (by omega) (by rw [show len - 1 - m = len - (m + 1) by omega]; exact hJs)
      have hcx' := hc wr hnx m (by omega)
      have hml : m < len := by omega
      gi_wp2
      refine hR.mono ?_
      rintro e W3 (⟨rfl, hJ3, hk3⟩ | ⟨rfl, hJx3⟩)
      · gi_wp2
        go_roundw
        case rel => exact ⟨m, by omega, by simp, hJ3, hKt hnx hk3⟩
        case measure => simp [bwdInt]
      · gi_wp2
        refine bodyPost_ret (results_none rfl _ _ _) rfl ?_
        exact ⟨⟨_, rfl⟩, .inr ⟨m, hml, hJx3⟩⟩
    | zero =>
      gi_wp2
      go_end0
      exact ⟨⟨_, rfl⟩, .inl hJs⟩

set_option maxRecDepth 100000 in
set_option maxHeartbeats 4000000 in
theorem Try.bwd1_nil (F : Fence) (n : Nat) (h8 : F.fn 77) (hro : F.round = none) (l Bs bo cap : Nat) (a : Option Addr) (J : World → Prop)
    (W : World) (hBs : W.cell? ⟨Bs, bo, none⟩ = some (.slice a 0 cap)) (h0 : J W) :
    CallsIn F n Try.prog 77 #[.func (.yield l) #[] #[], .pointer (some ⟨Bs, bo, none⟩)] W fun e W' => (∃ v, e = .returned v) ∧ J W' := by
  refine callsIn_of_wp Try.func77 rfl h8 ?_ hro
  simp only [Try.ntmps77, List.size_toArray, List.length_cons, List.length_nil, Nat.reduceAdd, Nat.reduceSub, Array.replicate_succ, Array.replicate_zero, List.push_toArray, List.append_toArray, List.nil_append, List.cons_append]
  gi_wp2
  gi_loopw [3] (fun i wr => i = .int .i64 (-1) ∧ J wr)
    (fun i _ => (bwdInt i + 1).toNat)
  case atStart => exact ⟨by first | rfl | simp, h0⟩
  case round =>
    obtain ⟨rfl, hJs⟩ := hrel
    gi_wp2
    go_end0
    exact ⟨⟨_, rfl⟩, hJs⟩

theorem Try.bwd_iter (Γ : Env) (hmo : ¬ Γ.mo) (zs : List Int) (hz : zs.length ≤ maxL) (len : Nat) (hlen : zs.length = len) (f : Nat → Int) (hf : ∀ j x, zs[j]? = some x → f j = x) :
    IterOk Γ Try.prog 77 [.ipt (.list (zs.map iV)) 0] ((List.range len).map (bwdItem f len)) := by
  refine ⟨hmo, enters_ext Try.func77 (by kernel_rfl) (by kernel_rfl), fun w D lb hDw hls hlb n hn => ?_⟩
  have h0 := hlb 0 _ rfl
  obtain ⟨v, rfl⟩ : ∃ v, lb = #[v] := by
    match lb, hls with
    | ⟨[v]⟩, _ => exact ⟨v, rfl⟩
  have h0 : RV w D (.ipt (.list (zs.map iV)) 0) v := h0
  cases h0 with
  | ipt e j B bo c ha hc hl =>
    have hcB := hc 0 (.list (zs.map iV)) rfl
    have hlB := hl 0 (.list (zs.map iV)) rfl
    generalize hcv : c 0 = cv at hcB hlB
    cases hlB with
    | list _ a cap b o s c2 hcap haa hs hc2 hl2 =>
      rw [List.length_map] at hcap hcB
      intro l J Jx W hW _ _ hY h0
      rw [hlen] at hz hcap hcB
      simp only [maxL] at hz
      have hBW : ∀ W', KeepD D W W' → W'.cell? ⟨B, bo, none⟩ = some (.slice a len cap) := fun W' hk => by
        rw [cell?_congr (w := W) (hk B ha.1), hW.cell (p := ⟨B, bo, none⟩) ha.2]
        simpa using hcB
      by_cases hne : len = 0
      · subst hne
        refine (Try.bwd1_nil Fence.wide n trivial rfl l B bo cap a (J []) W (hBW W fun _ _ => rfl) h0).mono ?_
        rintro e W' ⟨h1, h2⟩
        exact ⟨h1, .inl ⟨[], rfl, h2⟩⟩
      · have hes : zs.map iV ≠ [] := by
          intro h
          exact hne (by rw [← hlen]; simpa using congrArg List.length h)
        obtain ⟨rfl, hDb, hbw⟩ := haa hes
        have hs1 : s = 1 := by
          obtain ⟨e, he⟩ := List.exists_mem_of_ne_nil _ hes
          have := hs e he
          obtain ⟨x, _, rfl⟩ := List.mem_map.1 he
          exact this.symm
        subst hs1
        have hcW : ∀ W', KeepD D W W' → ∀ j, j < len → W'.cell? ⟨b, o + j, none⟩ = some (.int .i64 (f j)) := fun W' hk j hj => by
          rw [cell?_congr (w := W) (hk b hDb), hW.cell (p := ⟨b, o + j, none⟩) hbw]
          have hj' : j < zs.length := by omega
          have hlf : leafAt (zs.map iV) j 0 = some (iV zs[j]) := by
            unfold leafAt
            rw [List.getElem?_map, List.getElem?_eq_getElem hj']
            rfl
          have h1 := hc2 j 0 _ hlf
          have h2 := hl2 j 0 _ hlf
          have h3 : c2 j 0 = Value.int .i64 zs[j] := by
            generalize c2 j 0 = u at h2
            cases h2
            rfl
          rw [h3] at h1
          rw [hf j _ (List.getElem?_eq_getElem hj')]
          simpa using h1
        have hmem : ∀ m, m < len → bwdItem f len (len - 1 - m) ∈ (List.range len).map (bwdItem f len) := fun m hm => List.mem_map.2 ⟨_, List.mem_range.2 (by omega), rfl⟩
        have hsn : ∀ m, m < len → (List.range (len - m)).map (bwdItem f len) = (List.range (len - 1 - m)).map (bwdItem f len) ++ [bwdItem f len (len - 1 - m)] := fun m hm => by
          rw [show len - m = (len - 1 - m) + 1 by omega, rangeMap_succ]
        refine (Try.bwd1_in Fence.wide n trivial rfl hn l B bo b o len cap f (by omega) (KeepD D) (fun h1 h2 b hb => (h2 b hb).trans (h1 b hb)) (fun _ _ _ => rfl)
          (fun pre W => ∃ p : List { y // y ∈ (List.range len).map (bwdItem f len) }, p.map (·.1) = pre ∧ J p W) (fun pre W => ∃ p : List { y // y ∈ (List.range len).map (bwdItem f len) }, p.map (·.1) = pre ∧ Jx p W)
          (fun m W1 hm ⟨p, hp, hJ⟩ => ?_) W hBW hcW ⟨[], rfl, h0⟩).mono ?_
        · have hpl : p.length = len - 1 - m := by simpa using congrArg List.length hp
          have hy := hY p ⟨_, hmem m hm⟩ W1 hJ (by rw [List.length_map, List.length_range]; omega)
          have he : (bwdItem f len (len - 1 - m)).toArray = #[.int .i64 (m : Int), .int .i64 (f m)] := by
            have : len - 1 - (len - 1 - m) = m := by omega
            simp [bwdItem, this]
          rw [show (fun x : { y // y ∈ (List.range len).map (bwdItem f len) } => x.1.toArray) ⟨_, hmem m hm⟩ = (bwdItem f len (len - 1 - m)).toArray from rfl, he] at hy
          obtain ⟨fn, tmps, assign, body, k1, k2⟩ := hy
          refine ⟨fn, tmps, assign, body, k1, k2.mono fun e W' h => ?_⟩
          rcases h with ⟨h1, h2, h3⟩ | ⟨h1, h2⟩
          · exact .inl ⟨h1, ⟨_, by rw [List.map_append, hp, hsn m hm]; rfl, h2⟩, h3⟩
          · exact .inr ⟨h1, ⟨_, by rw [List.map_append, hp, hsn m hm]; rfl, h2⟩⟩
        · rintro e W' ⟨h1, ⟨p, hp, hJ⟩ | ⟨m, _, p, hp, hJ⟩⟩
          · exact ⟨h1, .inl ⟨p, hp, hJ⟩⟩
          · exact ⟨h1, .inr ⟨p, trivial, hJ⟩⟩
set_option maxHeartbeats 1000000 in
theorem Try.bwd_calls (w : World) (a : Option Addr) (n c : Nat) : Calls Try.prog 67 #[.slice a n c] w fun e w' => e = .returned (.func (.func 77) #[] #[.pointer (some ⟨w.heap.size, 0, none⟩)]) ∧ w' = w.alloc (.cells #[.slice a n c] 23) := by
  go_enter Try.func67, Try.ntmps67
  go_wp2
  go_ret
  exact ⟨rfl, rfl⟩
theorem Try.soundX_bwd {Γ : Env} (hmo : ¬ Γ.mo) {md : Nat → Nat} {args : List AV} {res : AV} {outs : List (List AV)} (h : extBwd 77 args = some (res, outs)) : Contract Γ Try.prog md 67 args res outs := by
  unfold extBwd at h
  split at h
  · cases h
    exact contract_backward hmo _ Try.bwd_calls
  · cases h
theorem Try.soundI_bwd {Γ : Env} (hmo : ¬ Γ.mo) {caps : List AV} {xs : List (List Value)} (h : itBwd caps = some xs) : IterOk Γ Try.prog 77 caps xs := by
  unfold itBwd at h
  split at h
  · rename_i es
    split at h
    · rename_i hl
      simp only [Option.map_eq_some_iff] at h
      obtain ⟨zs, h1, rfl⟩ := h
      have := unI_eq h1
      subst this
      have := Try.bwd_iter Γ hmo zs (by simpa using hl) zs.length rfl (fun j => zs.getD j 0) (fun j x hj => by simp [List.getD_eq_getElem?_getD, hj])
      have e : (bItems zs).map bEnc = (List.range zs.length).map (bwdItem (fun j => zs.getD j 0) zs.length) := by rw [bItems, List.map_map]; rfl
      rw [e]
      exact this
    · cases h
  · cases h

theorem Try.soundX : SoundX (Env.none False) cxT := by
  intro f F args res outs hF h
  have hm := extOf_mem (show extOf extT f = some F from hF)
  simp only [extT, List.mem_cons, Prod.mk.injEq, List.not_mem_nil, or_false] at hm
  rcases hm with ⟨rfl, rfl⟩ | ⟨rfl, rfl⟩ | ⟨rfl, rfl⟩
  · obtain ⟨i0, z, hi, hz0, hz1, hz2, hzs⟩ := infoI_of (P := Try.prog) (T := 3) (by kernel_rfl)
    exact ⟨soundX_clone (fun h => h) _ _ Try.lClone i0 z hi hz0 hz1 hz2 hzs Try.sizeOf3 rfl h, enters_ext Try.func61 (by kernel_rfl) (by kernel_rfl)⟩
  · exact ⟨soundX_sort _ _ Try.lSort rfl rfl h, enters_ext Try.func62 (by kernel_rfl) (by kernel_rfl)⟩
  · exact ⟨Try.soundX_bwd (fun h => h) h, enters_ext Try.func67 (by kernel_rfl) (by kernel_rfl)⟩
theorem Try.soundI : SoundI (Env.none False) cxT := by
  intro k F caps xs hF hx
  have hF : (if k = 77 then some itBwd else none) = some F := hF
  split at hF
  · rename_i hk
    subst hk
    cases hF
    exact Try.soundI_bwd (fun h => h) hx
  · cases hF
theorem Try.sound : SoundC (Env.none False) cxT (CW cxT) := CW_sound cxT Try.soundX Try.soundI (by kernel_rfl)
end Go.Proofs

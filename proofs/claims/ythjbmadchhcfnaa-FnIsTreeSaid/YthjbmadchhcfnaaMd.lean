/- The abstract machine, part 4 of 4: it runs the model's code on abstract values and is proved sound over any program. Conditions: none. -/
import Derived.Below
import Derived.Laws.AppendOwn
import Derived.OpenShut
import Derived.ProofKit
import Derived.Sort.Grow
import Derived.Test.YthjbmadchhcfnaaMc

set_option linter.unusedVariables false
set_option linter.unusedSimpArgs false
section
namespace Go.Mv
open Go

/-- a row that may not be there yet -/
def oN : Option (List Int) → AV
  | none => .nil
  | some r => oI r
theorem oN_noRef (x : Option (List Int)) : noRefEl (oN x) = true := by cases x <;> rfl
theorem oN_leaves (x : Option (List Int)) : (leaves (oN x)).length = 1 := by cases x <;> rfl

section
variable {cx : Cx} {keep : List Nat} {ops0 : Array Oper} {r : List Oper} {A : Asr} {Q : Asr → List Log → Prop} {d : Nat} {ty : Nat} {pos : String} {aft : Array Edge}

/-- an object of the frame's becomes an owned part -/
theorem wpW_takeIn {C : Caller} {f id g s n : Nat} {ys : List AV} (ho : look A (.h id) = some (.obj g 0 s ys)) (hn : n = ys.length) (hi : immL ys = true) {R : AV → Ws → List Mv.Loc → Prop} (hr : R (.own s ys) [(.h id, .dead g)] [.h id]) :
    wpW C A (absorbLeaf 0 .nil f (.sl id g none 0 n)) R := by
  subst hn
  have hnr : noRefL ys = true := by
    unfold noRefL
    rw [List.all_eq_true]
    intro e he
    have hie : immEl e = true := List.all_eq_true.1 hi e he
    cases e <;> simp_all [immEl, noRefEl]
  unfold absorbLeaf
  simp only [show ¬ ((0 : Nat) = 3) from by decide, if_false, isNil, and_self, if_true]
  refine wpW_bind (wpW_node ho ?_)
  simp only [if_true]
  refine wpW_bind (wpW_need ⟨Nat.le_refl _, hnr⟩ (wpW_bind (wpW_wr (wpW_pure ?_))))
  rw [List.take_length, frzL_of_imm hi]
  simpa using hr

theorem x_build_own1 {T E id g s n : Nat} {x : Operand} {z : AV} {ys : List AV} (hx : opd A x = some (.sl id g none 0 n)) (ho : look A (.h id) = some (.obj g 0 s ys)) (hn : n = ys.length) (hi : immL ys = true) (hT : elemT cx.P T = some (E, 1)) (hz : zeroT cx.P E = some (z, 1))
    (hne : Loc.beq (.h (tid d 0)) (.h id) = false) (hko : ∀ g, slotOk keep (.h (tid d 0)) (.obj g 0 1 [.own s ys]) = true) (hk : ∀ g, slotOk keep (.t d) (.sl (tid d 0) g none 0 1) = true)
    (h : ∀ g', XR cx keep ops0 r ((.t d, .sl (tid d 0) g' none 0 1) :: (.h (tid d 0), .obj g' 0 1 [.own s ys]) :: (.h id, .dead g) :: A) fun A' lg => Q A' ((rds x ++ [.h id, .h (tid d 0)], [.h id, .h (tid d 0), .t d]) :: lg)) :
    XR cx keep ops0 (⟨some d, .buildSlice T 1 #[(0, x)], ty, pos, aft, none⟩ :: r) A Q := by
  obtain ⟨h1, h2, h3, h4⟩ := zeroT_ok hz
  refine x_opG (v := fun g => .sl (tid d 0) g none 0 1) (ws := fun g' => [(.h id, .dead g), (.h (tid d 0), .obj g' 0 1 [.own s ys])]) (ls := rds x ++ [.h id, .h (tid d 0)]) rfl ?_ (fun g => tRefs_cons (by simp [slotOk, refOkV]) (tRefs_cons (hko g) (tRefs_one (hk g)))) (fun g => rfl) (fun g => wk_put3 _ _ _ _ _ _ _) h
  simp only [aopV, dstOf]
  refine wpW_bind (wpW_up (show wpA (CW cx) A (.ret d) _ from ?_))
  show wpW (CW cx) (puts A []) _ _
  refine wpW_bind (wpW_elem hT (wpW_bind (wpW_need ⟨by rw [h2]; decide, h3, h4, by rw [h2]; decide⟩ ?_)))
  simp only [h1, h2]
  refine wpW_bind ?_
  simp only [fillEls]
  refine wpW_bind (wpW_rdO hx (wpW_bind (wpW_need (by simp [leaves]) ?_)))
  refine wpW_bind ?_
  simp only [absorb, List.replicate, List.headD]
  refine wpW_takeIn ho hn hi (wpW_pure ?_)
  refine wpW_bind (wpW_stamp fun o => wpW_bind (wpW_wr (wpW_pure ?_)))
  exact ⟨stamp o + 1, rfl, by simp, by simp⟩

/-- a row comes into its matrix -/
theorem x_store_new {opts : List (Option (List Int))} {T id g i id2 g2 n : Nat} {a x : Operand} {row : List Int} (ha : opd A a = some (.ptr id g none i 0)) (hx : opd A x = some (.sl id2 g2 none 0 n)) (ho : look A (.h id) = some (.obj g 0 1 (opts.map oN)))
    (ho2 : look A (.h id2) = some (.obj g2 0 1 (row.map iV))) (hn : n = (row.map iV).length) (hi : i < opts.length) (hnil : opts.getD i none = none) (hne : Loc.beq (.h id) (.h id2) = false) (hT : (tyS cx.P T).size = 1)
    (hko : slotOk keep (.h id) (.obj g 0 1 ((opts.set i (some row)).map oN)) = true)
    (h : XR cx keep ops0 r ((.h id, .obj g 0 1 ((opts.set i (some row)).map oN)) :: (.h id2, .dead g2) :: A) fun A' lg => Q A' ((rds a ++ (rds x ++ [.h id, .h id2, .h id, .h id]), [.h id2, .h id]) :: lg)) :
    XR cx keep ops0 (⟨none, .store T a x, ty, pos, aft, none⟩ :: r) A Q := by
  have he : (opts.map oN)[i]? = some .nil := by
    rw [List.getElem?_map, List.getElem?_eq_getElem hi]
    rw [List.getD_eq_getElem?_getD, List.getElem?_eq_getElem hi] at hnil
    simp only [Option.getD_some] at hnil
    simp [hnil, oN]
  have hset : (opts.map oN).set i (.own 1 (row.map iV)) = (opts.set i (some row)).map oN := by rw [List.map_set]; rfl
  refine x_op (v := .undef) (ws := [(.h id2, .dead g2), (.h id, .obj g 0 1 ((opts.set i (some row)).map oN))]) (ls := rds a ++ (rds x ++ [.h id, .h id2, .h id, .h id])) rfl ?_ (tRefs_cons (by simp [slotOk, refOkV]) (tRefs_one hko)) (wk_put2 _ _ _ _ _) h
  simp only [aopV]
  refine wpW_bind (wpW_need (by simp) (wpW_bind (wpW_rdO ha (wpW_bind (wpW_rdO hx (wpW_bind ?_))))))
  unfold storeA
  refine wpW_bind (wpW_node ho ?_)
  simp only [he, if_true]
  refine wpW_bind ?_
  simp only [absorb, leaves, List.drop_zero, List.headD]
  refine wpW_takeIn ho2 hn (imm_map fun _ => rfl) ?_
  have ho' : look (put A (.h id2) (.dead g2)) (.h id) = some (.obj g 0 1 (opts.map oN)) := by
    rw [look_put, hne]
    simpa using ho
  refine wpW_bind (wpW_node ho' ?_)
  simp only [he]
  refine wpW_bind (wpW_need (by simp [hT, ownsFit, isOwn, isNil]) (wpW_bind (wpW_up ?_)))
  simp only [wrNode]
  have e0 : puts (puts (puts (puts (puts (puts (puts A []) []) []) []) [(Mv.Loc.h id2, AV.dead g2)]) []) [] = put A (.h id2) (.dead g2) := rfl
  rw [e0, wpA_read ho']
  simp only [wpA_ret]
  refine wpW_wr (wpW_pure ?_)
  refine ⟨rfl, ?_, by simp⟩
  have : putAt .nil 0 (.own 1 (row.map iV)) = .own 1 (row.map iV) := rfl
  simp [this, hset]

/-- copy into a row of an owned matrix -/
theorem x_copy_row {rows : List (List Int)} {ys : List Int} {x y : Operand} {T T' E id g i n : Nat} (hx : opd A x = some (.sl id g (some (i, 0)) 0 n)) (hy : opd A y = some (.list (ys.map iV))) (ho : look A (.h id) = some (.obj g 0 1 (rows.map oI))) (hi : i < rows.length)
    (hn : n = ((rows.getD i default).map iV).length) (hl : ys.length = (rows.getD i default).length) (hm : ys.length ≤ maxL) (hT : elemT cx.P T = some (E, 1)) (hko : slotOk keep (.h id) (.obj g 0 1 ((rows.set i ys).map oI)) = true)
    (h : XR cx keep ops0 r ((.t d, iV ys.length) :: (.h id, .obj g 0 1 ((rows.set i ys).map oI)) :: A) fun A' lg => Q A' ((rds x ++ (rds y ++ [.h id, .h id]), [.h id, .t d]) :: lg)) :
    XR cx keep ops0 (⟨some d, .call ⟨.builtin .copy, #[x, y], #[T, T']⟩, ty, pos, aft, none⟩ :: r) A Q := by
  have hlf : leafAt (rows.map oI) i 0 = some (.own 1 ((rows.getD i default).map iV)) := leafAt_map hi rfl
  have hrow : (rows.map oI)[i]? = some (oI (rows.getD i default)) := getElem?_map_getD hi
  have hs := elemT_size hT
  subst hn
  refine x_op (v := iV ys.length) (ws := [(.h id, .obj g 0 1 ((rows.set i ys).map oI))]) (ls := rds x ++ (rds y ++ [.h id, .h id])) rfl ?_ (tRefs_cons hko (tRefs_one (by simp [slotOk, refOkV, refsOk]))) (wk_put2 _ _ _ _ _) h
  simp only [aopV]
  refine wpW_bind (wpW_rdO hx (wpW_bind (wpW_rdO hy ?_)))
  unfold copyA
  refine wpW_bind (wpW_elem hT (wpW_bind (wpW_up (show wpA (CW cx) _ (.ret (ys.map iV)) _ from ?_))))
  show wpW (CW cx) _ _ _
  have hp : plainL (ys.map iV) = true := by
    unfold plainL
    rw [List.all_map, List.all_eq_true]
    exact fun _ _ => rfl
  have hz : sizedL (tyS cx.P E).size (ys.map iV) = true := by
    rw [hs]
    unfold sizedL
    rw [List.all_map, List.all_eq_true]
    exact fun _ _ => rfl
  refine wpW_bind (wpW_need ⟨hp, hz⟩ ?_)
  have hmin : min (ys.map iV).length ((rows.getD i default).map iV).length = ys.length := by simp [hl]
  refine wpW_bind (wpW_nodeP ho hlf ?_)
  simp only [hmin]
  have hno : noOwnB ((((rows.getD i default).map iV).drop 0).take ys.length) = true := by
    unfold noOwnB
    rw [List.all_eq_true]
    intro e he
    have := List.mem_of_mem_drop (List.mem_of_mem_take he)
    obtain ⟨n, _, rfl⟩ := List.mem_map.1 this
    rfl
  refine wpW_bind (wpW_need ⟨by decide, rfl, by simp, hs.symm, hno, hm⟩ (wpW_bind (wpW_up ?_)))
  have hnew : ((rows.getD i default).map iV).take 0 ++ (ys.map iV).take ys.length ++ ((rows.getD i default).map iV).drop (0 + ys.length) = ys.map iV := by
    rw [List.take_zero, List.nil_append, List.take_of_length_le (by simp), List.drop_eq_nil_of_le (by simp [hl]), List.append_nil]
  simp only [hnew, wrNode]
  rw [wpA_read (v := .obj g 0 1 (rows.map oI)) (by exact ho)]
  simp only [hrow, hlf, wpA_ret]
  refine wpW_bind (wpW_wr (wpW_pure ?_))
  refine ⟨rfl, ?_, by simp⟩
  have : (rows.map oI).set i (putAt (oI (rows.getD i default)) 0 (.own 1 (ys.map iV))) = (rows.set i ys).map oI := by
    show (rows.map oI).set i (oI ys) = _
    rw [List.map_set]
  simp only [List.nil_append, List.append_nil]
  rw [this]

/-- a row that was made becomes the one row of a slice -/
theorem x_build_row {T E id g n : Nat} {x : Operand} {z : AV} {row : List Int} (hx : opd A x = some (.sl id g none 0 n)) (ho : look A (.h id) = some (.obj g 0 1 (row.map iV))) (hn : n = (row.map iV).length) (hT : elemT cx.P T = some (E, 1)) (hz : zeroT cx.P E = some (z, 1))
    (hne : Loc.beq (.h (tid d 0)) (.h id) = false) (hk : ∀ g, slotOk keep (.t d) (.sl (tid d 0) g none 0 1) = true)
    (h : ∀ g', XR cx keep ops0 r ((.t d, .sl (tid d 0) g' none 0 1) :: (.h (tid d 0), .obj g' 0 1 (List.map oI [row])) :: (.h id, .dead g) :: A) fun A' lg => Q A' ((rds x ++ [.h id, .h (tid d 0)], [.h id, .h (tid d 0), .t d]) :: lg)) :
    XR cx keep ops0 (⟨some d, .buildSlice T 1 #[(0, x)], ty, pos, aft, none⟩ :: r) A Q :=
  x_build_own1 hx ho hn (imm_map fun _ => rfl) hT hz hne (fun _ => slot_obj rfl) hk h

theorem x_append_map {α : Type} {f : α → AV} {xs ys : List α} {T T' E s id g n id2 g2 n2 : Nat} {x y : Operand} {z : AV} (hx : opd A x = some (.sl id g none 0 n)) (hy : opd A y = some (.sl id2 g2 none 0 n2)) (ho : look A (.h id) = some (.obj g 0 s (xs.map f))) (ho2 : look A (.h id2) = some (.obj g2 0 s (ys.map f)))
    (hn : n = (xs.map f).length) (hn2 : n2 = (ys.map f).length) (hid : 1000000 ≤ id2) (hne : Loc.beq (.h id) (.h id2) = false) (hT : elemT cx.P T = some (E, s)) (hT' : isSliceK (tyS cx.P T').k = true) (hz : zeroT cx.P E = some (z, s)) (hb : (tyS cx.P E).bytes ≤ 4096) (hf : ∀ a, (leaves (f a)).all cellLeaf = true ∧ noRefEl (f a) = true)
    (hle : xs.length + ys.length ≤ maxL) (hk : ∀ g, slotOk keep (.t d) (.sl (tid d 0) g none 0 (xs ++ ys).length) = true)
    (h : ∀ g', XR cx keep ops0 r ((.t d, .sl (tid d 0) g' none 0 (xs ++ ys).length) :: (.h (tid d 0), .obj g' 0 s ((xs ++ ys).map f)) :: (.h id, .dead g) :: (.h id2, .dead g2) :: A) fun A' lg => Q A' ((rds x ++ (rds y ++ [.h id2, .h id, .h (tid d 0)]), [.h id2, .h id, .h (tid d 0), .t d]) :: lg)) :
    XR cx keep ops0 (⟨some d, .call ⟨.builtin .append, #[x, y], #[T, T']⟩, ty, pos, aft, none⟩ :: r) A Q := by
  have e1 : n + (ys.map f).length = (xs ++ ys).length := by rw [hn, List.length_map, List.length_map, List.length_append]
  refine x_append_own hx hy ho ho2 hn hn2 hid hne hT hT' hz hb (cellL_map fun a => (hf a).1) (by rw [hn, List.length_map, List.length_map]; exact hle) (fun g => slot_obj ?_) (fun g => by rw [e1]; exact hk g) ?_
  · rw [← List.map_append]; exact noRef_map fun a => (hf a).2
  · intro g'
    rw [e1, ← List.map_append]
    exact h g'

theorem x_append_listM {α : Type} {f : α → AV} {xs ys : List α} {T T' E s id g n : Nat} {x y : Operand} {z : AV} (hx : opd A x = some (.sl id g none 0 n)) (hy : opd A y = some (.list (ys.map f))) (ho : look A (.h id) = some (.obj g 0 s (xs.map f)))
    (hn : n = (xs.map f).length) (hT : elemT cx.P T = some (E, s)) (hT' : isSliceK (tyS cx.P T').k = true) (hz : zeroT cx.P E = some (z, s)) (hb : (tyS cx.P E).bytes ≤ 4096) (hf : ∀ a, (leaves (f a)).all cellLeaf = true ∧ noRefEl (f a) = true ∧ (leaves (f a)).length = s)
    (hle : xs.length + ys.length ≤ maxL) (hk : ∀ g, slotOk keep (.t d) (.sl (tid d 0) g none 0 (xs ++ ys).length) = true)
    (h : ∀ g', XR cx keep ops0 r ((.t d, .sl (tid d 0) g' none 0 (xs ++ ys).length) :: (.h (tid d 0), .obj g' 0 s ((xs ++ ys).map f)) :: (.h id, .dead g) :: A) fun A' lg => Q A' ((rds x ++ (rds y ++ [.h id, .h (tid d 0)]), [.h id, .h (tid d 0), .t d]) :: lg)) :
    XR cx keep ops0 (⟨some d, .call ⟨.builtin .append, #[x, y], #[T, T']⟩, ty, pos, aft, none⟩ :: r) A Q := by
  have e1 : n + (ys.map f).length = (xs ++ ys).length := by rw [hn, List.length_map, List.length_map, List.length_append]
  refine x_append_read hx hy ho hn hT hT' hz hb (cellL_map fun a => (hf a).1) ?_ (by rw [hn, List.length_map, List.length_map]; exact hle) (fun g => slot_obj ?_) (fun g => by rw [e1]; exact hk g) ?_
  · unfold sizedL
    rw [List.all_map, List.all_eq_true]
    intro a _
    simpa using (hf a).2.2
  · rw [← List.map_append]; exact noRef_map fun a => (hf a).2.1
  · intro g'
    rw [e1, ← List.map_append]
    exact h g'

theorem x_append_nilM {α : Type} {f : α → AV} {ys : List α} {T T' E s id2 g2 n2 : Nat} {x y : Operand} {z : AV} (hx : opd A x = some .nil) (hy : opd A y = some (.sl id2 g2 none 0 n2)) (ho2 : look A (.h id2) = some (.obj g2 0 s (ys.map f)))
    (hn2 : n2 = (ys.map f).length) (hid : 1000000 ≤ id2) (hT : elemT cx.P T = some (E, s)) (hT' : isSliceK (tyS cx.P T').k = true) (hz : zeroT cx.P E = some (z, s)) (hb : (tyS cx.P E).bytes ≤ 4096) (hf : ∀ a, (leaves (f a)).all cellLeaf = true ∧ noRefEl (f a) = true)
    (hle : ys.length ≤ maxL) (hk : ∀ g, slotOk keep (.t d) (.sl (tid d 0) g none 0 ys.length) = true)
    (h : ∀ g', XR cx keep ops0 r ((.t d, .sl (tid d 0) g' none 0 ys.length) :: (.h (tid d 0), .obj g' 0 s (ys.map f)) :: (.h id2, .dead g2) :: A) fun A' lg => Q A' ((rds x ++ (rds y ++ [.h id2, .h (tid d 0)]), [.h id2, .h (tid d 0), .t d]) :: lg)) :
    XR cx keep ops0 (⟨some d, .call ⟨.builtin .append, #[x, y], #[T, T']⟩, ty, pos, aft, none⟩ :: r) A Q := by
  have e1 : (ys.map f).length = ys.length := List.length_map ..
  refine x_append_nil hx hy ho2 hn2 hid hT hT' hz hb (cellL_map fun a => (hf a).1) (by rw [e1]; exact hle) (fun g => slot_obj (noRef_map fun a => (hf a).2)) (fun g => by rw [e1]; exact hk g) ?_
  intro g'
  rw [e1]
  exact h g'
end

theorem pa_keep_map {A : Asr} {α : Type} {f : α → AV} {xs : List α} {C : Caller} {md id g s n : Nat} (hmd : md = 3) (ho : look A (.h id) = some (.obj g 0 s (xs.map f))) (hn : n = (xs.map f).length) (hf : ∀ a, immEl (f a) = true) :
    PassArg C A md (.sl id g none 0 n) (.list (xs.map f)) [(id, true)] [(.h id, .obj g 2 s (xs.map f))] [.h id] := by
  have hr : noRefL (xs.map f) = true := noRef_map fun a => by
    have := hf a
    cases hfa : f a <;> rw [hfa] at this <;> simp_all [immEl, noRefEl]
  have := pa_keep (C := C) hmd ho hn hr
  rwa [frzL_map hf] at this

theorem frzL_oI (m : List (List Int)) : frzL (m.map oI) = m.map fun xs => .list (xs.map iV) := by
  rw [frzL_eq, List.map_map]
  refine List.map_congr_left fun xs _ => ?_
  show AV.list (frzL (xs.map iV)) = _
  rw [frzL_map fun _ => rfl]

/-- a matrix lent to be read -/
theorem pa_lend_rows {A : Asr} {m : List (List Int)} {C : Caller} {md id g k s n : Nat} (hmd : md = 0) (ho : look A (.h id) = some (.obj g k s (m.map oI))) (hb : bxB k none = false) (hn : n = (m.map oI).length) :
    PassArg C A md (.sl id g none 0 n) (.list (m.map fun xs => .list (xs.map iV))) [(id, false)] [] [.h id] := by
  have := pa_lend (C := C) hmd ho hb hn (noRef_map noRef_oI)
  rwa [frzL_oI] at this
theorem pa_keep_rows {A : Asr} {m : List (List Int)} {C : Caller} {md id g s n : Nat} (hmd : md = 3) (ho : look A (.h id) = some (.obj g 0 s (m.map oI))) (hn : n = (m.map oI).length) :
    PassArg C A md (.sl id g none 0 n) (.list (m.map fun xs => .list (xs.map iV))) [(id, true)] [(.h id, .obj g 2 s (m.map fun xs => .list (xs.map iV)))] [.h id] := by
  have := pa_keep (C := C) hmd ho hn (noRef_map noRef_oI)
  rwa [frzL_oI] at this
end Go.Mv
end

section
/- Plain facts: lists, readers of codes, distances. -/
namespace Go.Mv
open Go

/-- how parameters are handed over -/
def mdOf (tb : List (Nat × List Nat)) (f i : Nat) : Nat := match tb.find? (fun x => x.1 == f) with
  | some x => x.2.getD i 0
  | none => 0
/-- functions of the library -/
def extOf (tb : List (Nat × (List AV → Option (AV × List (List AV))))) (f : Nat) : Option (List AV → Option (AV × List (List AV))) := match tb.find? (fun x => x.1 == f) with
  | some x => some x.2
  | none => none
def unI : List AV → Option (List Int)
  | [] => some []
  | .val (.int .i64 n) :: r => (unI r).map (n :: ·)
  | _ => none
theorem unI_map (xs : List Int) : unI (xs.map iV) = some xs := by
  induction xs with
  | nil => rfl
  | cons x xs ih => simp [unI, ih]
def insI (x : Int) : List Int → List Int
  | [] => [x]
  | y :: r => if x ≤ y then x :: y :: r else y :: insI x r
def sortI : List Int → List Int
  | [] => []
  | x :: r => insI x (sortI r)
theorem insI_length (x : Int) (r : List Int) : (insI x r).length = r.length + 1 := by
  induction r with
  | nil => rfl
  | cons y r ih => simp only [insI]; split <;> simp [ih]
@[simp] theorem sortI_length (xs : List Int) : (sortI xs).length = xs.length := by
  induction xs with
  | nil => rfl
  | cons x r ih => simp [sortI, insI_length, ih]
def extClone : List AV → Option (AV × List (List AV))
  | [.list es] => if es.length ≤ maxL then (unI es).map fun xs => (.own 1 (xs.map iV), []) else none
  | _ => none
def extSort : List AV → Option (AV × List (List AV))
  | [.own 1 es] => if es.length ≤ maxL then (unI es).map fun xs => (.tup [], [(sortI xs).map iV]) else none
  | _ => none

abbrev L (xs : List Int) : AV := .list (xs.map iV)
abbrev M (xs : List (List Int)) : AV := .list (xs.map L)
theorem list_ext_getD {α : Type} {d : α} {xs ys : List α} (hl : xs.length = ys.length) (h : ∀ j, j < xs.length → xs.getD j d = ys.getD j d) : xs = ys := by
  apply List.ext_getElem hl
  intro i h1 h2
  have := h i h1
  simpa [List.getD_eq_getElem?_getD, List.getElem?_eq_getElem h1, List.getElem?_eq_getElem h2] using this
theorem len_getD {xs : List (List Int)} {k : Nat} (h : ∀ x ∈ xs, x.length ≤ k) (i : Nat) (h0 : 0 ≤ k) : (xs.getD i []).length ≤ k := by
  rw [List.getD_eq_getElem?_getD]
  cases hx : xs[i]? with
  | none => simp
  | some x => exact h x (List.mem_of_getElem? hx)
theorem default_nil {α : Type} : (default : List α) = [] := rfl

theorem sized_map {α : Type} {f : α → AV} {s : Nat} {xs : List α} (h : ∀ a, (leaves (f a)).length = s) : sizedL s (xs.map f) = true := by
  unfold sizedL
  rw [List.all_map, List.all_eq_true]
  intro a _
  simpa using h a

/-- the reader of codes -/
abbrev rdr (bs : List Int) (p : Int) : AV := .agg [.list (bs.map uV), iV p]
def Bytes (bs : List Int) : Prop := ∀ b ∈ bs, 0 ≤ b ∧ b < 256
theorem Bytes.getD {bs : List Int} (h : Bytes bs) (i : Nat) : 0 ≤ bs.getD i default ∧ bs.getD i default < 256 := by
  rw [List.getD_eq_getElem?_getD]
  cases hx : bs[i]? with
  | none => exact ⟨by decide, by decide⟩
  | some x => exact h x (List.mem_of_getElem? hx)
theorem tmod_in {a b : Int} (ha : 0 ≤ a) (hb : 0 < b) : 0 ≤ a.tmod b ∧ a.tmod b < b := ⟨Int.tmod_nonneg _ ha, Int.tmod_lt_of_pos _ hb⟩
theorem tdiv_in {a b : Int} (ha : 0 ≤ a) (hb : 0 ≤ b) : 0 ≤ a.tdiv b ∧ a.tdiv b ≤ a := ⟨Int.tdiv_nonneg ha hb, Int.tdiv_le_self b ha⟩
theorem xor_in {x y : Int} (hx : 0 ≤ x ∧ x < 9223372036854775808) (hy : 0 ≤ y ∧ y < 9223372036854775808) :
    0 ≤ IntKind.i64.wrap ((BitVec.ofInt IntKind.i64.bits x ^^^ BitVec.ofInt IntKind.i64.bits y).toNat) ∧ IntKind.i64.wrap ((BitVec.ofInt IntKind.i64.bits x ^^^ BitVec.ofInt IntKind.i64.bits y).toNat) < 9223372036854775808 := by
  have h1 : (BitVec.ofInt IntKind.i64.bits x ^^^ BitVec.ofInt IntKind.i64.bits y).toNat < 2 ^ 63 := by
    rw [BitVec.toNat_xor]
    refine Nat.xor_lt_two_pow ?_ ?_
    · rw [BitVec.toNat_ofInt]; simp only [IntKind.bits]; omega
    · rw [BitVec.toNat_ofInt]; simp only [IntKind.bits]; omega
  generalize (BitVec.ofInt IntKind.i64.bits x ^^^ BitVec.ofInt IntKind.i64.bits y).toNat = n at h1
  have : IntKind.i64.wrap (n : Int) = n := wrap_in (inI64 (by omega))
  rw [this]
  omega
theorem getD_mem {xs : List Int} {i : Nat} (h : i < xs.length) : xs.getD i default ∈ xs := by
  rw [List.getD_eq_getElem?_getD, List.getElem?_eq_getElem h]
  exact List.getElem_mem h

@[simp] theorem hasListL_iV (xs : List Int) : hasListL (xs.map iV) = false := by
  induction xs with
  | nil => rfl
  | cons x xs ih => simp [hasListL, hasList, ih]
@[simp] theorem hasListL_oI (xs : List (List Int)) : hasListL (xs.map oI) = false := by
  induction xs with
  | nil => rfl
  | cons x xs ih => simp [hasListL, hasList, ih]

/-! ### distances -/
def G (gs : List (List Int)) (i j : Nat) : Int := (gs.getD i default).getD j default
def CellOk (gs : List (List Int)) (a b : Nat) : Prop := 1 ≤ G gs a b ∧ G gs a b ≤ 40 ∧ G gs b a = G gs a b
def RowOk (gs : List (List Int)) (a : Nat) : Prop := (gs.getD a default).length = gs.length ∧ G gs a a = 0 ∧ ∀ b, b < a → CellOk gs a b
def VG (gs : List (List Int)) : Prop := (∀ a, a < gs.length → RowOk gs a) ∧ 1 ≤ gs.length ∧ gs.length ≤ 6
noncomputable def vg (gs : List (List Int)) : Bool := @decide (VG gs) (Classical.propDecidable _)
theorem vg_t {gs : List (List Int)} (h : VG gs) : vg gs = true := by unfold vg; exact @decide_eq_true _ (Classical.propDecidable _) h
theorem vg_f {gs : List (List Int)} (h : ¬ VG gs) : vg gs = false := by unfold vg; exact @decide_eq_false _ (Classical.propDecidable _) h

theorem vg_iff {gs : List (List Int)} : vg gs = true ↔ VG gs := by
  unfold vg
  exact @decide_eq_true_iff _ (Classical.propDecidable _)
theorem vg_iff' {gs : List (List Int)} : vg gs = false ↔ ¬ VG gs := by
  unfold vg
  exact @decide_eq_false_iff_not _ (Classical.propDecidable _)

/-- no distance is greater than both others of a triangle -/
def UM (gs : List (List Int)) : Prop := ∀ a b c, a < gs.length → b < gs.length → c < gs.length → G gs a b ≤ max (G gs a c) (G gs c b)
noncomputable def um (gs : List (List Int)) : Bool := @decide (UM gs) (Classical.propDecidable _)
theorem um_t {gs : List (List Int)} (h : UM gs) : um gs = true := by unfold um; exact @decide_eq_true _ (Classical.propDecidable _) h
theorem um_f {gs : List (List Int)} (h : ¬ UM gs) : um gs = false := by unfold um; exact @decide_eq_false _ (Classical.propDecidable _) h
theorem um_iff {gs : List (List Int)} : um gs = true ↔ UM gs := by
  unfold um
  exact @decide_eq_true_iff _ (Classical.propDecidable _)
def T3 (x y z : Int) : Prop := x ≤ max y z ∧ y ≤ max x z ∧ z ≤ max x y
def Tri (gs : List (List Int)) (i k j : Nat) : Prop := T3 (G gs i k) (G gs i j) (G gs k j)
theorem sort3 (x y z : Int) : (sortI [x, y, z]).getD 1 default = (sortI [x, y, z]).getD 2 default ↔ T3 x y z := by
  unfold T3
  simp only [sortI, insI]
  by_cases h1 : y ≤ z <;> by_cases h2 : x ≤ y <;> by_cases h3 : x ≤ z <;> simp [insI, h1, h2, h3] <;> omega
theorem VG.sym {gs : List (List Int)} (h : VG gs) {a b : Nat} (ha : a < gs.length) (hb : b < gs.length) : G gs a b = G gs b a := by
  rcases Nat.lt_trichotomy a b with hlt | rfl | hlt
  · exact ((h.1 b hb).2.2 a hlt).2.2
  · rfl
  · exact (((h.1 a ha).2.2 b hlt).2.2).symm
theorem VG.pos {gs : List (List Int)} (h : VG gs) {a b : Nat} (ha : a < gs.length) (hb : b < gs.length) : 0 ≤ G gs a b ∧ G gs a b ≤ 40 := by
  rcases Nat.lt_trichotomy a b with hlt | rfl | hlt
  · have := (h.1 b hb).2.2 a hlt
    obtain ⟨h1, h2, h3⟩ := this
    omega
  · have := (h.1 a ha).2.1
    omega
  · have := (h.1 a ha).2.2 b hlt
    obtain ⟨h1, h2, h3⟩ := this
    omega
theorem VG.row {gs : List (List Int)} (h : VG gs) {a : Nat} (ha : a < gs.length) : (gs.getD a default).length = gs.length := (h.1 a ha).1
theorem UM.tri {gs : List (List Int)} (hv : VG gs) (h : UM gs) {i k j : Nat} (hi : i < gs.length) (hk : k < gs.length) (hj : j < gs.length) : Tri gs i k j := by
  have h1 := h i k j hi hk hj
  have h2 := h i j k hi hj hk
  have h3 := h k j i hk hj hi
  have s1 := hv.sym hi hk
  have s2 := hv.sym hi hj
  have s3 := hv.sym hk hj
  unfold Tri T3
  omega
theorem tri_um {gs : List (List Int)} (hv : VG gs) (h : ∀ i, i < gs.length → ∀ k, k < i → ∀ j, j < k → Tri gs i k j) : UM gs := by
  have key : ∀ a b c, a < gs.length → b < gs.length → c < gs.length → a ≠ b → a ≠ c → b ≠ c → Tri gs a b c := by
    have sw1 : ∀ a b c, a < gs.length → b < gs.length → c < gs.length → Tri gs a b c → Tri gs b a c := by
      intro a b c ha hb hc ht
      have := hv.sym ha hb
      unfold Tri T3 at *
      omega
    have sw2 : ∀ a b c, a < gs.length → b < gs.length → c < gs.length → Tri gs a b c → Tri gs a c b := by
      intro a b c ha hb hc ht
      have := hv.sym hb hc
      unfold Tri T3 at *
      omega
    intro a b c ha hb hc h1 h2 h3
    rcases Nat.lt_or_ge a b with q1 | q1 <;> rcases Nat.lt_or_ge a c with q2 | q2 <;> rcases Nat.lt_or_ge b c with q3 | q3
    · exact sw1 _ _ _ hb ha hc (sw2 _ _ _ hb hc ha (sw1 _ _ _ hc hb ha (h c hc b q3 a q1)))
    · exact sw1 _ _ _ hb ha hc (sw2 _ _ _ hb hc ha (h b hb c (by omega) a q2))
    · omega
    · exact sw1 _ _ _ hb ha hc (h b hb a q1 c (by omega))
    · exact sw2 _ _ _ ha hc hb (sw1 _ _ _ hc ha hb (h c hc a q2 b (by omega)))
    · omega
    · exact sw2 _ _ _ ha hc hb (h a ha c (by omega) b q3)
    · exact h a ha b (by omega) c (by omega)
  intro a b c ha hb hc
  by_cases h1 : a = b
  · subst h1
    have := (hv.1 a ha).2.1
    have h2 := hv.pos ha hc
    omega
  · by_cases h2 : a = c
    · subst h2; omega
    · by_cases h3 : b = c
      · subst h3; omega
      · have := key a b c ha hb hc h1 h2 h3
        unfold Tri T3 at this
        have := hv.sym hb hc
        omega
theorem nilFitL_int {cs : List AV} {n : Int} : nilFitL cs [iV n] = true := by cases cs <;> simp [nilFitL, isNil]
theorem nilFit_int (ys : List Int) : ∀ es, nilFit es (ys.map iV) = true := by
  induction ys with
  | nil => intro es; cases es <;> rfl
  | cons y ys ih =>
    intro es
    cases es with
    | nil => simp only [List.map_cons, nilFit, leaves, Bool.and_eq_true]; exact ⟨nilFitL_int, ih []⟩
    | cons e es => simp only [List.map_cons, nilFit, Bool.and_eq_true]; exact ⟨nilFitL_int, ih es⟩

theorem getD_set {α : Type} {d : α} (l : List α) (i : Nat) (x : α) (j : Nat) (hi : i < l.length) : (l.set i x).getD j d = if j = i then x else l.getD j d := by
  rw [List.getD_eq_getElem?_getD, List.getD_eq_getElem?_getD]
  by_cases h : j = i
  · subst h; simp [List.getElem?_set_self hi]
  · simp [h, List.getElem?_set_ne (Ne.symm h)]
theorem opts_all {opts : List (Option (List Int))} {n : Nat} {row : List Int} (hl : opts.length = n) (h : ∀ i, i < n → opts.getD i none = some row) : opts.map oN = (List.replicate n row).map oI := by
  have : opts = List.replicate n (some row) := by
    refine list_ext_getD (d := none) (by simp [hl]) fun j hj => ?_
    rw [h j (by omega), List.getD_eq_getElem?_getD, List.getElem?_replicate]
    simp [show j < n by omega]
  rw [this]
  simp [List.map_replicate, oN]
theorem getD_replicate {α : Type} {d x : α} {n j : Nat} (h : j < n) : (List.replicate n x).getD j d = x := by
  rw [List.getD_eq_getElem?_getD, List.getElem?_replicate]; simp [h]

/-- a square of numbers -/
def Sq (n : Nat) (m : List (List Int)) : Prop := m.length = n ∧ ∀ a, a < n → (m.getD a default).length = n
def relax (m : List (List Int)) (v i k : Nat) : List (List Int) :=
  m.set i ((m.getD i default).set k (min ((m.getD i default).getD k default) (max ((m.getD i default).getD v default) ((m.getD v default).getD k default))))
def fwIn (m : List (List Int)) (v i : Nat) : Nat → List (List Int)
  | 0 => m
  | k + 1 => relax (fwIn m v i k) v i k
def fwMid (n : Nat) (m : List (List Int)) (v : Nat) : Nat → List (List Int)
  | 0 => m
  | i + 1 => fwIn (fwMid n m v i) v i n
def fwOut (n : Nat) (m : List (List Int)) : Nat → List (List Int)
  | 0 => m
  | v + 1 => fwMid n (fwOut n m v) v n
/-- the least greatest steps, by way of each thing in turn -/
def fw (m : List (List Int)) : List (List Int) := fwOut m.length m m.length
theorem set_sq {n : Nat} {m : List (List Int)} (h : Sq n m) {i : Nat} (hi : i < n) {row : List Int} (hr : row.length = n) : Sq n (m.set i row) := by
  refine ⟨by simp [h.1], fun a ha => ?_⟩
  rw [getD_set _ _ _ _ (by rw [h.1]; exact hi)]
  split
  · exact hr
  · exact h.2 a ha
theorem relax_sq {n : Nat} {m : List (List Int)} (h : Sq n m) {v i k : Nat} (hi : i < n) : Sq n (relax m v i k) := set_sq h hi (by rw [List.length_set]; exact h.2 i hi)
theorem fwIn_sq {n : Nat} {m : List (List Int)} (h : Sq n m) {v i : Nat} (hi : i < n) : ∀ k, Sq n (fwIn m v i k)
  | 0 => h
  | k + 1 => relax_sq (fwIn_sq h hi k) hi
theorem fwMid_sq {n : Nat} {m : List (List Int)} (h : Sq n m) {v : Nat} : ∀ i, i ≤ n → Sq n (fwMid n m v i)
  | 0, _ => h
  | i + 1, hi => fwIn_sq (fwMid_sq h i (by omega)) (by omega) n
theorem fwOut_sq {n : Nat} {m : List (List Int)} (h : Sq n m) : ∀ v, Sq n (fwOut n m v)
  | 0 => h
  | v + 1 => fwMid_sq (fwOut_sq h v) n (Nat.le_refl _)
theorem VG.sq {gs : List (List Int)} (h : VG gs) : Sq gs.length gs := ⟨rfl, fun a ha => h.row ha⟩

theorem gfill_step {α : Type} {d : α} {l : List α} {n b : Nat} {x y : α} (hl : l.length = n) (hb : b < n) (h : ∀ i, i < n → l.getD i d = if i < b then x else y) : ∀ i, i < n → (l.set b x).getD i d = if i < b + 1 then x else y := by
  intro i hi
  rw [getD_set _ _ _ _ (by omega), h i hi]
  by_cases h1 : i = b
  · subst h1; simp
  · simp only [h1, if_false]
    by_cases h2 : i < b
    · rw [if_pos h2, if_pos (by omega)]
    · rw [if_neg h2, if_neg (by omega)]
theorem gfill_stepF {α : Type} {d : α} {l : List α} {n b : Nat} {f : Nat → α} {y : α} (hl : l.length = n) (hb : b < n) (h : ∀ i, i < n → l.getD i d = if i < b then f i else y) : ∀ i, i < n → (l.set b (f b)).getD i d = if i < b + 1 then f i else y := by
  intro i hi
  rw [getD_set _ _ _ _ (by omega), h i hi]
  by_cases h1 : i = b
  · subst h1; simp
  · simp only [h1, if_false]
    by_cases h2 : i < b
    · rw [if_pos h2, if_pos (by omega)]
    · rw [if_neg h2, if_neg (by omega)]

theorem snoc_step {α : Type} {d : α} {m l : List α} {b : Nat} (hm : m.length = b) (h : ∀ i, i < b → m.getD i d = l.getD i d) : ∀ i, i < b + 1 → (m ++ [l.getD b d]).getD i d = l.getD i d := by
  intro i hi
  rcases Nat.lt_succ_iff_lt_or_eq.1 hi with h1 | h1
  · rw [← h i h1, List.getD_eq_getElem?_getD, List.getElem?_append_left (by omega), ← List.getD_eq_getElem?_getD]
  · subst h1
    rw [List.getD_eq_getElem?_getD, List.getElem?_append_right (by omega)]
    simp [hm]

theorem fw_sq {n : Nat} {m : List (List Int)} (h : Sq n m) : Sq n (fw m) := by
  have e := h.1
  subst e
  exact fwOut_sq h _
theorem Sq.le {n k : Nat} {m : List (List Int)} (h : Sq n m) (hk : n ≤ k) (a : Nat) : (m.getD a default).length ≤ k := by
  rcases Nat.lt_or_ge a n with h1 | h1
  · rw [h.2 a h1]; exact hk
  · rw [List.getD_eq_getElem?_getD, List.getElem?_eq_none (by rw [h.1]; exact h1)]
    exact Nat.zero_le _
theorem set_cell_sq {n : Nat} {m : List (List Int)} (h : Sq n m) {i k : Nat} (hi : i < n) {x : Int} : Sq n (m.set i ((m.getD i default).set k x)) := set_sq h hi (by rw [List.length_set]; exact h.2 i hi)

theorem snoc_all {α : Type} {d x : α} {m : List α} {b : Nat} (hm : m.length = b) (h : ∀ i, i < b → m.getD i d = x) : ∀ i, i < b + 1 → (m ++ [x]).getD i d = x := by
  intro i hi
  rcases Nat.lt_succ_iff_lt_or_eq.1 hi with h1 | h1
  · rw [List.getD_eq_getElem?_getD, List.getElem?_append_left (by omega), ← List.getD_eq_getElem?_getD]
    exact h i h1
  · subst h1
    rw [List.getD_eq_getElem?_getD, List.getElem?_append_right (by omega)]
    simp [hm]
end Go.Mv
end

section
namespace Go.Mv
theorem set_getD_self {α : Type} {d : α} {l : List α} {i : Nat} {x : α} (hi : i < l.length) (hx : x = l.getD i d) : l.set i x = l := by
  subst hx
  rw [List.getD_eq_getElem?_getD, List.getElem?_eq_getElem hi]
  exact List.set_getElem_self hi
theorem G_relax {n : Nat} {m : List (List Int)} (h : Sq n m) {v i k : Nat} (hi : i < n) (hk : k < n) (a b : Nat) :
    G (relax m v i k) a b = if a = i ∧ b = k then min (G m i k) (max (G m i v) (G m v k)) else G m a b := by
  unfold relax G
  rw [getD_set _ _ _ _ (by rw [h.1]; exact hi)]
  by_cases h1 : a = i
  · subst h1
    rw [if_pos rfl, getD_set _ _ _ _ (by rw [h.2 a hi]; exact hk)]
    by_cases h2 : b = k
    · subst h2; simp
    · simp [h2]
  · rw [if_neg h1, if_neg (by intro h2; exact h1 h2.1)]
def LeG (m m' : List (List Int)) : Prop := ∀ a b, G m a b ≤ G m' a b
theorem LeG.trans {x y z : List (List Int)} (h : LeG x y) (h2 : LeG y z) : LeG x z := fun a b => Int.le_trans (h a b) (h2 a b)
theorem LeG.refl (x : List (List Int)) : LeG x x := fun _ _ => Int.le_refl _
theorem relax_le {n : Nat} {m : List (List Int)} (h : Sq n m) {v i k : Nat} (hi : i < n) (hk : k < n) : LeG (relax m v i k) m := by
  intro a b
  rw [G_relax h hi hk]
  split
  · rename_i h1
    rw [h1.1, h1.2]
    exact Int.min_le_left _ _
  · exact Int.le_refl _
theorem fwIn_le {n : Nat} {m : List (List Int)} (h : Sq n m) {v i : Nat} (hi : i < n) : ∀ k' k, k ≤ k' → k' ≤ n → LeG (fwIn m v i k') (fwIn m v i k)
  | 0, k, h1, _ => by
    have : k = 0 := by omega
    subst this
    exact LeG.refl _
  | k' + 1, k, h1, h2 => by
    rcases Nat.lt_or_ge k' k with h3 | h3
    · have : k = k' + 1 := by omega
      subst this
      exact LeG.refl _
    · exact (relax_le (fwIn_sq h hi k') hi (by omega)).trans (fwIn_le h hi k' k h3 (by omega))
theorem fwMid_le {n : Nat} {m : List (List Int)} (h : Sq n m) {v : Nat} : ∀ k' k, k ≤ k' → k' ≤ n → LeG (fwMid n m v k') (fwMid n m v k)
  | 0, k, h1, _ => by
    have : k = 0 := by omega
    subst this
    exact LeG.refl _
  | k' + 1, k, h1, h2 => by
    rcases Nat.lt_or_ge k' k with h3 | h3
    · have : k = k' + 1 := by omega
      subst this
      exact LeG.refl _
    · exact (fwIn_le (fwMid_sq h k' (by omega)) (by omega) n 0 (by omega) (by omega)).trans (fwMid_le h k' k h3 (by omega))
theorem fwOut_le {n : Nat} {m : List (List Int)} (h : Sq n m) : ∀ k' k, k ≤ k' → LeG (fwOut n m k') (fwOut n m k)
  | 0, k, h1 => by
    have : k = 0 := by omega
    subst this
    exact LeG.refl _
  | k' + 1, k, h1 => by
    rcases Nat.lt_or_ge k' k with h3 | h3
    · have : k = k' + 1 := by omega
      subst this
      exact LeG.refl _
    · exact (fwMid_le (fwOut_sq h k') n 0 (by omega) (by omega)).trans (fwOut_le h k' k h3)
/-- each way is tried -/
theorem fw_way {n : Nat} {m : List (List Int)} (h : Sq n m) {v i k : Nat} (hv : v < n) (hi : i < n) (hk : k < n) : G (fw m) i k ≤ max (G m i v) (G m v k) := by
  have e := h.1
  subst e
  have hX := fwOut_sq h v
  have hY := fwMid_sq hX (v := v) i (by omega)
  have hZ := fwIn_sq hY (v := v) (i := i) hi k
  have h1 : LeG (fw m) (fwOut m.length m (v + 1)) := fwOut_le h _ _ (by omega)
  have h2 : LeG (fwOut m.length m (v + 1)) (fwMid m.length (fwOut m.length m v) v (i + 1)) := fwMid_le hX m.length (i + 1) (by omega) (by omega)
  have h3 : LeG (fwMid m.length (fwOut m.length m v) v (i + 1)) (fwIn (fwMid m.length (fwOut m.length m v) v i) v i (k + 1)) := fwIn_le hY hi m.length (k + 1) (by omega) (by omega)
  have h4 : LeG (fwIn (fwMid m.length (fwOut m.length m v) v i) v i k) m :=
    (fwIn_le hY hi k 0 (by omega) (by omega)).trans ((fwMid_le hX i 0 (by omega) (by omega)).trans (fwOut_le h v 0 (by omega)))
  have h5 := ((h1.trans h2).trans h3) i k
  have h6 : G (fwIn (fwMid m.length (fwOut m.length m v) v i) v i (k + 1)) i k = _ := G_relax hZ hi hk i k
  rw [if_pos ⟨rfl, rfl⟩] at h6
  have h7 := h4 i v
  have h8 := h4 v k
  omega
theorem fw_le {n : Nat} {m : List (List Int)} (h : Sq n m) : LeG (fw m) m := by
  have e := h.1
  subst e
  exact fwOut_le h _ 0 (by omega)
theorem relax_um {m : List (List Int)} (hs : Sq m.length m) (h : UM m) {v i k : Nat} (hv : v < m.length) (hi : i < m.length) (hk : k < m.length) : relax m v i k = m := by
  unfold relax
  have h1 := h i k v hi hk hv
  simp only [G] at h1
  refine set_getD_self hi (set_getD_self (d := default) (by rw [hs.2 i hi]; exact hk) ?_)
  omega
theorem fwIn_um {m : List (List Int)} (hs : Sq m.length m) (h : UM m) {v i : Nat} (hv : v < m.length) (hi : i < m.length) : ∀ k, k ≤ m.length → fwIn m v i k = m
  | 0, _ => rfl
  | k + 1, hk => by rw [fwIn, fwIn_um hs h hv hi k (by omega)]; exact relax_um hs h hv hi (by omega)
theorem fwMid_um {m : List (List Int)} (hs : Sq m.length m) (h : UM m) {v : Nat} (hv : v < m.length) : ∀ i, i ≤ m.length → fwMid m.length m v i = m
  | 0, _ => rfl
  | i + 1, hi => by rw [fwMid, fwMid_um hs h hv i (by omega)]; exact fwIn_um hs h hv (by omega) _ (Nat.le_refl _)
theorem fwOut_um {m : List (List Int)} (hs : Sq m.length m) (h : UM m) : ∀ v, v ≤ m.length → fwOut m.length m v = m
  | 0, _ => rfl
  | v + 1, hv => by rw [fwOut, fwOut_um hs h v (by omega)]; exact fwMid_um hs h (by omega) _ (Nat.le_refl _)
theorem fw_um {m : List (List Int)} (hs : Sq m.length m) (h : UM m) : fw m = m := fwOut_um hs h _ (Nat.le_refl _)
theorem fw_eq {m : List (List Int)} (hs : Sq m.length m) : (fw m == m) = um m := by
  by_cases h : UM m
  · rw [um_t h, fw_um hs h]; simp
  · rw [um_f h]
    refine Bool.eq_false_iff.2 fun h1 => h fun a b c ha hb hc => ?_
    have := fw_way hs hc ha hb
    rwa [eq_of_beq h1] at this
theorem rows_le {m : List (List Int)} {k l : Nat} (h : ∀ a, (m.getD a default).length ≤ k) (hl : k ≤ l) : ∀ x ∈ m, x.length ≤ l := by
  intro x hx
  obtain ⟨i, hi, rfl⟩ := List.getElem_of_mem hx
  have := h i
  rw [List.getD_eq_getElem?_getD, List.getElem?_eq_getElem hi] at this
  exact Nat.le_trans this hl
end Go.Mv
end

section
/- Functions of the library: what their contracts say, in the words of the relation. -/
namespace Go.Mv
open Go Go.RowKit

section
variable {P : Program} {w0 : World} {A O0 : Nat → Prop} {ν0 : Nu} {N : Nat} {F : Fl} {D : Nat → Prop} {st : St} {ν : Nu} {tm : Array Value} {w : World}

theorem leafAt_iV {xs : List Int} {i j : Nat} {l : AV} (h : leafAt (xs.map iV) i j = some l) : ∃ x, xs[i]? = some x ∧ j = 0 ∧ l = iV x := by
  unfold leafAt at h
  rw [List.getElem?_map] at h
  cases hx : xs[i]? with
  | none => simp [hx] at h
  | some x =>
    simp only [hx, Option.map_some] at h
    cases j with
    | zero => simp [leaves] at h; exact ⟨x, rfl, rfl, h.symm⟩
    | succ j => simp [leaves] at h

theorem wstep_below {w' : World} (h : Below w.heap.size w w') {bt : Nat} : WStep w w' bt :=
  ⟨h.size, h.os, h.tape, h.output, fun b hb _ => h.block b hb, fun b hb => csize_congr (h.block b hb)⟩

theorem Rel.ownEmpty (R : Rel w0 A O0 ν0 N Fl.emp D st ν tm w) (κ : FK) (s : Nat) : Rel w0 A O0 ν0 N (Fl.emp.set κ (some ⟨fun _ => none, s, []⟩)) D st ν tm w := by
  refine R.ghost (fun _ => rfl) (Ext.refl _ _ _) (fun _ h => h) R.objs R.frozen (fun k f hf => ?_) id ?_ (fun _ _ _ _ h => h) (fun b hb hd => (hd hb).elim) R.io
  · by_cases e : k = κ
    · subst e
      rw [Fl.set_eq] at hf
      cases hf
      exact ⟨rfl, fun i j s' es' h => by simp [leafAt] at h⟩
    · rw [Fl.set_ne _ _ e] at hf; cases hf
  · intro k b o hl hb
    cases k with
    | nd i p => exact ⟨o, hl, hb⟩
    | fl k p =>
      obtain ⟨f, h1, _⟩ := hl
      by_cases e : k = κ
      · subst e
        rw [Fl.set_eq] at h1
        cases h1
        simp [baseOf, Fl.set_eq] at hb
      · rw [Fl.set_ne _ _ e] at h1; cases h1

/-- numbers in a new block -/
theorem Rel.ownNew (R : Rel w0 A O0 ν0 N Fl.emp D st ν tm w) {w' : World} {g : Nat} (W : WStep w w' g) (hg : w.heap.size ≤ g) {c : Array Value} {ety : TypeId}
    (hc : w'.heap[g]? = some (.cells c ety (0, 0))) {xs : List Int} (hsz : xs.length ≤ c.size) (hv : ∀ (i : Nat) (x : Int), xs[i]? = some x → c[i]? = some (Value.int .i64 x)) (κ : FK) :
    Rel w0 A O0 ν0 N (Fl.emp.set κ (some ⟨fun q => match q with | none => some (g, 0) | some _ => none, 1, xs.map iV⟩)) D st ν tm w' := by
  refine R.compose W (fun _ => False) κ (.inl rfl) ⟨fun q => match q with | none => some (g, 0) | some _ => none, 1, xs.map iV⟩ none (fun _ _ => (κ, none)) ⟨0, rfl⟩ (.inl ⟨rfl, hg⟩)
    ?_ ?_ ?_ (fun _ h => by cases h) (Fl.set_eq _ _ _) (fun _ _ h => h.elim) (fun k hk _ => Fl.set_ne _ _ hk)
  · refine ⟨c, ety, hc, by simpa using hsz, fun _ e he => ?_, fun h => h.elim, fun i j l hl => ?_⟩
    · obtain ⟨x, _, rfl⟩ := List.mem_map.1 he
      rfl
    · obtain ⟨x, hx, rfl, rfl⟩ := leafAt_iV hl
      exact ⟨_, by simpa using hv i x hx, RS.data _ _ (.val _)⟩
  · intro i j s' es' hl
    obtain ⟨x, _, _, h⟩ := leafAt_iV hl
    cases h
  · intro i j i' j' s1 e1 s2 e2 hl
    obtain ⟨x, _, _, h⟩ := leafAt_iV hl
    cases h

theorem floOk_one {κ : FK} {f : Flo} {res : AV} (h1 : noRefL f.es = true) (h2 : hasListL f.es = false) : FloOk (Fl.emp.set κ (some f)) res := by
  intro k f' hf
  by_cases e : k = κ
  · subst e
    rw [Fl.set_eq] at hf
    cases hf
    exact ⟨h1, fun _ => h2⟩
  · rw [Fl.set_ne _ _ e] at hf; cases hf

theorem hasListL_map_iV (xs : List Int) : hasListL (xs.map iV) = false := by
  induction xs with
  | nil => rfl
  | cons x xs ih => simp [hasListL, hasList]

/-- the world goes on behind the heap's end -/
theorem Rel.stay (R : Rel w0 A O0 ν0 N F D st ν tm w) {w' : World} {bt : Nat} (W : WStep w w' bt) (hbt : w.heap.size ≤ bt) : Rel w0 A O0 ν0 N F D st ν tm w' := by
  have E := R.extW W
  refine R.world W (.inr hbt) (fun _ => rfl) E (fun id g m s es h => R.objW W (.inr hbt) E h rfl fun p b o hp hb => ?_) R.frozen (fun k f hf => R.floW W (.inr hbt) E hf fun p b o hp hb => ?_) id (fun _ => False)
    (fun k b o hl hb => .inl ⟨fun h => h, o, hl, hb⟩) (fun _ _ _ _ _ _ h => h) (fun _ _ h => h.elim) R.io
  · have := R.hlt h hp hb; omega
  · have := R.live_lt (k := .fl k p) ⟨f, hf, hp⟩ (by simp only [baseOf, hf]; exact hb); omega

/-- slices.Clone -/
theorem contract_clone {f : Nat} {md : Nat → Nat} (xs : List Int) (hx : xs.length ≤ maxL) {E : TypeId}
    (hcl : ∀ (w : World) (a : Option Addr) (n c : Nat) (news : List Value), news.length = n → n ≤ maxL → (n ≠ 0 → ∃ b o, a = some ⟨b, o, none⟩ ∧ ∀ (j : Nat) u, news[j]? = some u → w.cell? ⟨b, o + j, none⟩ = some u) →
      (∀ u ∈ news, ∃ x, u = Value.int .i64 x) →
      Calls P f #[.slice a n c] w fun e w' => ∃ v', e = .returned v' ∧ w'.ownsRow w.heap.size E 1 v' n news ∧ Below w.heap.size w w') :
    Contract P md f [.list (xs.map iV)] (.own 1 (xs.map iV)) [] := by
  intro w A O0 ν0 D vals hOA R hA
  have h0 := R.slots 0 (by simp)
  have hsz : vals.size = 1 := by simpa using R.size
  obtain ⟨v, rfl⟩ : ∃ v, vals = #[v] := by
    match vals, hsz with
    | ⟨[v]⟩, _ => exact ⟨v, rfl⟩
  have hv : RV w D (.list (xs.map iV)) v := RS.list_inv h0
  cases hv with
  | list _ a cap b o s c hcap ha hs hc hl =>
    have R0 := R.noSlots
    rw [List.length_map] at hcap ⊢
    refine (hcl w a xs.length cap (xs.map (Value.int .i64)) (by simp) hx (fun hne => ?_) (fun u hu => ?_)).mono ?_
    · have hne' : xs.map iV ≠ [] := by
        intro h
        exact hne (by simpa using congrArg List.length h)
      obtain ⟨rfl, _, _⟩ := ha hne'
      refine ⟨b, o, rfl, fun j u hj => ?_⟩
      rw [List.getElem?_map] at hj
      cases hxj : xs[j]? with
      | none => simp [hxj] at hj
      | some x =>
        simp only [hxj, Option.map_some, Option.some.injEq] at hj
        subst hj
        have hlf : leafAt (xs.map iV) j 0 = some (iV x) := by
          unfold leafAt
          rw [List.getElem?_map, hxj]
          rfl
        have h1 := hc j 0 _ hlf
        have h2 := hl j 0 _ hlf
        have hs1 : s = 1 := (hs (iV x) (List.mem_map.2 ⟨x, List.mem_of_getElem? hxj, rfl⟩)).symm
        subst hs1
        have h3 : c j 0 = Value.int .i64 x := by
          generalize c j 0 = u at h2
          cases h2
          rfl
        rw [h3] at h1
        simpa using h1
    · obtain ⟨x, _, rfl⟩ := List.mem_map.1 hu
      exact ⟨x, rfl⟩
    · rintro e w' ⟨v', rfl, ⟨hlen, hown⟩, hB⟩
      have hn1 : noRefL (xs.map iV) = true := noRef_map fun _ => rfl
      rcases hown with ⟨rfl, hn⟩ | ⟨g, cap', cur, rfl, hg, hcell, hcap', _, hcs, htk⟩
      · have hxs : xs = [] := List.length_eq_zero_iff.1 hn
        subst hxs
        refine ⟨_, rfl, _, D, _, ν0, (R0.stay (wstep_below hB (bt := w.heap.size)) (Nat.le_refl _)).ownEmpty (5, 0, 0) 1, rfl, .inr (.inr (.inr (.inl ⟨1, [], fun _ => none, rfl, Fl.set_eq _ _ _, rfl, ?_⟩))), floOk_one rfl rfl⟩
        exact ⟨none, 0, rfl, Nat.le_refl _, .inl rfl⟩
      · have hv' : ∀ (i : Nat) (x : Int), xs[i]? = some x → cur[i]? = some (Value.int .i64 x) := by
          intro i x hi
          have h1 : (cur.toList.take (xs.length * 1))[i]? = some (Value.int .i64 x) := by rw [htk, List.getElem?_map, hi]; rfl
          have hlt : i < xs.length := (List.getElem?_eq_some_iff.1 hi).1
          rw [List.getElem?_take, if_pos (by omega)] at h1
          simpa using h1
        refine ⟨_, rfl, _, D, _, ν0, R0.ownNew (wstep_below hB) hg hcell (by omega) hv' (5, 0, 0), rfl, .inr (.inr (.inr (.inl ⟨1, xs.map iV, _, rfl, Fl.set_eq _ _ _, hn1, ?_⟩))), floOk_one hn1 (hasListL_map_iV xs)⟩
        refine ⟨_, cap', by rw [List.length_map], by rw [List.length_map]; exact hcap', .inr ⟨g, 0, rfl, by simp, ?_⟩⟩
        have : csize w' g = cur.size := by unfold csize; rw [hcell]
        rw [this, hcs]
        simp

theorem RN.ints {L : AV → Value → Prop} {φ : Path → Base} {b o : Nat} {xs : List Int} {w : World} {bx : Prop} (h : RN w L φ (some (b, o)) bx 1 (xs.map iV)) (hL : ∀ x v, L (iV x) v → v = Value.int .i64 x) :
    ∃ c ety, w.heap[b]? = some (.cells c ety (0, 0)) ∧ o + xs.length ≤ c.size ∧ ∀ (i : Nat) (x : Int), xs[i]? = some x → c[o + i]? = some (Value.int .i64 x) := by
  obtain ⟨c, ety, h1, h2, _, _, h3⟩ := h
  refine ⟨c, ety, h1, by simpa using h2, fun i x hi => ?_⟩
  have hlf : leafAt (xs.map iV) i 0 = some (iV x) := by
    unfold leafAt
    rw [List.getElem?_map, hi]
    rfl
  obtain ⟨v, hv, hr⟩ := h3 i 0 _ hlf
  rw [hL x v hr] at hv
  simpa using hv

theorem putCells_size {α : Type} [Inhabited α] (enc : α → Value) (off : Nat) (d : Array α) (c : Array Value) : (Sort.putCells enc off d c).size = c.size := by simp [Sort.putCells]

/-- slices.Sort at numbers -/
theorem contract_sort {f : Nat} {md : Nat → Nat} (xs ys : List Int) (hx : xs.length ≤ maxL) (hy : ys.length = xs.length) (hmd : md 0 = 1)
    (hnil : ∀ (w : World) (a : Option Addr) (c : Nat), Calls P f #[.slice a 0 c] w fun e w' => e = .returned (.tuple #[]) ∧ w' = w)
    (hrow : ∀ (w : World) (b o c : Nat), Sort.Holds (Value.int .i64) w b o xs.toArray → b < w.heap.size → xs.length ≤ maxL →
      Calls P f #[.slice (some ⟨b, o, none⟩) xs.length c] w fun e w' => e = .returned (.tuple #[]) ∧ ∃ n os, w' = Sort.grow (Sort.putRow (Value.int .i64) (Sort.ahead w n) b o ys.toArray) os) :
    Contract P md f [.own 1 (xs.map iV)] (.tup []) [ys.map iV] := by
  intro w A O0 ν0 D vals hOA R hA
  have h0 := R.slots 0 (by simp)
  have hsz : vals.size = 1 := by simpa using R.size
  obtain ⟨v, rfl⟩ : ∃ v, vals = #[v] := by
    match vals, hsz with
    | ⟨[v]⟩, _ => exact ⟨v, rfl⟩
  have h0' : RS (initLoc md [.own 1 (xs.map iV)]) ν0 w D (.sl 0 1 none 0 (xs.map iV).length) v := h0
  have hob : initLoc md [.own 1 (xs.map iV)] (.h 0) = .obj 1 1 1 (xs.map iV) := by simp [initLoc, hmd]
  have hob2 : noSlots (initLoc md [.own 1 (xs.map iV)]) (.h 0) = .obj 1 1 1 (xs.map iV) := hob
  have hcid : cidAll md 0 [.own 1 (xs.map iV)] = [(0, 1, 1)] := by simp [cidAll, cidArg, hmd]
  have hres : ∀ {F : Fl} {D : Nat → Prop} {w : World}, AllRes F D w (.tup []) (.tuple #[]) := .inl ⟨[], #[], rfl, rfl, rfl, fun k l h => by simp at h⟩
  obtain ⟨⟨a, cap, rfl, hcap⟩, _, _, hS⟩ := h0'.sl_inv
  have hS := hS 1 1 (xs.map iV) (by unfold nodeAt; rw [hob]; simp)
  have R0 := R.noSlots
  rw [List.length_map] at hcap hS ⊢
  by_cases hn : xs = []
  · subst hn
    have hy0 : ys = [] := List.length_eq_zero_iff.1 hy
    subst hy0
    refine (hnil w a cap).mono ?_
    rintro e w' ⟨rfl, rfl⟩
    refine ⟨_, rfl, Fl.emp, D, _, ν0, R0, ?_, hres, fun _ _ h => by cases h⟩
    rw [hcid]
    unfold outsOf
    rw [hob2]
    simp [outsOf, immL]
  · obtain ⟨a', cap', he, _, hb⟩ := hS
    cases he
    have hpos : 0 < xs.length := List.length_pos_iff.2 hn
    rcases hb with hb | ⟨b, o, hν, ha, hbd⟩
    · omega
    · rw [Nat.zero_mul, Nat.add_zero] at ha
      subst ha
      have hRO := R0.objs 0 1 1 1 (xs.map iV) hob2
      have hT := hRO.top
      rw [hν] at hT
      obtain ⟨c, ety, hc1, hc2, hc3⟩ := RN.ints hT (fun x v h => by cases h with | data _ _ h => cases h; rfl)
      have hblt : b < w.heap.size := (Array.getElem?_eq_some_iff.1 hc1).1
      refine (hrow w b o cap (fun j hj => ?_) hblt hx).mono ?_
      · have hj' : j < xs.length := by simpa using hj
        have hget := hc3 j (xs[j]'hj') (List.getElem?_eq_getElem hj')
        refine ⟨?_, ?_⟩
        · unfold World.cell?
          simp only [hc1]
          simp [hget, hj']
        · unfold World.frozen?
          simp only [hc1]
          simp
      · rintro e w' ⟨rfl, n, os, rfl⟩
        have hheap : ∀ k, k < w.heap.size → (Sort.grow (Sort.putRow (Value.int .i64) (Sort.ahead w n) b o ys.toArray) os).heap[k]? =
            if k = b then some (.cells (Sort.putCells (Value.int .i64) o ys.toArray c) ety (0, 0)) else w.heap[k]? := by
          intro k hk
          have h1 : k < (Sort.putRow (Value.int .i64) (Sort.ahead w n) b o ys.toArray).heap.size := by simpa [Sort.ahead] using hk
          simp only [Sort.grow]
          rw [Array.getElem?_append_left h1]
          simp only [Sort.putRow, Sort.mapBlock, Sort.ahead, Array.getElem?_modify]
          by_cases e : b = k
          · subst e
            simp [hc1, Sort.onCells]
          · rw [if_neg e, if_neg (fun h => e h.symm)]
        have W : WStep w (Sort.grow (Sort.putRow (Value.int .i64) (Sort.ahead w n) b o ys.toArray) os) b := by
          refine ⟨by simp [Sort.grow, Sort.ahead], rfl, rfl, rfl, fun k hk hne => ?_, fun k hk => ?_⟩
          · rw [hheap k hk, if_neg hne]
          · unfold csize
            rw [hheap k hk]
            by_cases e : k = b
            · subst e
              rw [if_pos rfl, hc1]
              exact putCells_size _ _ _ _
            · rw [if_neg e]
        have hRN : RN (Sort.grow (Sort.putRow (Value.int .i64) (Sort.ahead w n) b o ys.toArray) os) (RS (noSlots (initLoc md [.own 1 (xs.map iV)])) ν0 w D) (ν0 0) (ν0 0 none) (1 = 3 ∨ 1 = 4) 1 (ys.map iV) := by
          rw [hν]
          refine ⟨_, ety, by rw [hheap b hblt, if_pos rfl], ?_, fun _ e he => ?_, fun h => by simp at h, fun i j l hl => ?_⟩
          · rw [putCells_size, List.length_map, hy]; omega
          · obtain ⟨x, _, rfl⟩ := List.mem_map.1 he
            rfl
          · obtain ⟨x, hx', rfl, rfl⟩ := leafAt_iV hl
            have hi : i < ys.length := (List.getElem?_eq_some_iff.1 hx').1
            refine ⟨.int .i64 x, ?_, RS.data _ _ (.val _)⟩
            have hxi : ys[i] = x := by rw [List.getElem?_eq_getElem hi] at hx'; exact Option.some.inj hx'
            have hlt : o + i < c.size := by omega
            simp only [Sort.putCells, Nat.mul_one, Nat.add_zero, Array.getElem?_mapIdx]
            rw [Array.getElem?_eq_getElem hlt]
            simp [hi, hxi]
        obtain ⟨R1, _⟩ := R0.storeTop W hob2 (by decide) ⟨o, hν⟩ (ν0 0) rfl hRN (fun i j h => by obtain ⟨x, _, _, h⟩ := leafAt_iV h; cases h) (fun _ _ => False) (fun _ _ => (0, 0, 0)) (fun _ => False)
          (fun i j s' es2 h => by obtain ⟨x, _, _, h⟩ := leafAt_iV h; cases h) (fun i j i' j' s1 e1 s2 e2 _ _ h => h.elim) (fun _ => rfl) (F' := Fl.emp) (fun k h => h.elim) (fun k _ => rfl)
        refine ⟨_, rfl, Fl.emp, D, _, _, R1, ?_, hres, fun _ _ h => by cases h⟩
        rw [hcid]
        have hi : immL (ys.map iV) = true := imm_map fun _ => rfl
        simp [outsOf, St.upd_eq, hi]
end
end Go.Mv
end

section
/- A law's call out of the abstract machine's answer, and the statement out of the call. -/
namespace Go.Mv
open Go Go.RowKit Go.ChangeShapes Go.WideShapes Go.ChangeAt

/-- arguments that are data -/
def dataArg : AV → Bool
  | .val _ => true
  | .nil => true
  | .list _ => true
  | .agg _ => true
  | _ => false

theorem initLoc_data {md : Nat → Nat} {av : List AV} (hk : ∀ a ∈ av, dataArg a = true) :
    (∀ i, initLoc md av (.t i) = av.getD i .undef) ∧ ∀ i, initLoc md av (.h i) = .undef := by
  have hk' : ∀ i a, av[i]? = some a → dataArg a = true := fun i a h => hk a (List.mem_of_getElem? h)
  refine ⟨fun i => ?_, fun i => ?_⟩
  · rw [List.getD_eq_getElem?_getD]
    have := hk' i
    unfold initLoc
    show (match av[i]? with
      | some (AV.own s es) => AV.sl i 1 none 0 es.length
      | some (AV.ownp es a b) => AV.ptr i 1 none a b
      | some (AV.clo f caps) => AV.clo f (initCaps i 0 caps)
      | some a => a
      | none => AV.undef) = _
    split <;> rename_i h
    · rw [h] at this; simp [dataArg] at this
    · rw [h] at this; simp [dataArg] at this
    · rw [h] at this; simp [dataArg] at this
    · rw [h]; rfl
    · rw [h]; rfl
  · have h1 := hk' i
    have h2 := hk' (i % 100000)
    unfold initLoc
    simp only
    split
    · split
      · rename_i h; rw [h] at h1; simp [dataArg] at h1
      · rename_i h; rw [h] at h1; simp [dataArg] at h1
      · rfl
    · split
      · rename_i h; rw [h] at h2; simp [dataArg] at h2
      · rfl

theorem law_calls (cx : Cx) (hS : SoundC cx (CW cx)) {f : Nat} {av : List AV} {vals : Array Value} {w : World} {v : Value} (hsz : vals.size = av.length)
    (hd : ∀ i a, av[i]? = some a → RV w (fun b => b < w.heap.size) a (vals.getD i undef)) (hk : ∀ a ∈ av, dataArg a = true) (h : CW cx f av = some (.val v, [])) :
    Calls cx.P f vals w fun e w' => e = .returned v ∧ Below w.heap.size w w' := by
  obtain ⟨hT, hH⟩ := initLoc_data (md := cx.md f) hk
  have nolive : ∀ k, ¬ live (initLoc (cx.md f) av) Fl.emp k := by
    intro k hl
    cases k with
    | nd i p => obtain ⟨g, m, s, es, h1, _⟩ := hl; rw [hH] at h1; cases h1
    | fl k p => obtain ⟨f, h1, _⟩ := hl; cases h1
  have R : Rel w (fun _ => True) (fun _ => False) (fun _ _ => none) av.length Fl.emp (fun b => b < w.heap.size) (initLoc (cx.md f) av) (fun _ _ => none) vals w := by
    refine ⟨hsz, fun i hi => ?_, fun i hi => ?_, fun id g m s es h1 => ?_, fun id g s es h1 => ?_, fun k f h1 => ?_, fun k1 k2 b o1 o2 h1 => (nolive _ h1).elim, fun b hb ⟨k, o, h1, _⟩ => nolive _ h1, fun b hb => .inl trivial, fun b hb => hb,
      fun b ⟨k, o, h1, _⟩ => (nolive _ h1).elim, Nat.le_refl _, rfl, rfl, rfl, fun b _ _ => rfl, fun b _ => rfl, fun id g m s es h1 => ?_⟩
    · rw [hT, List.getD_eq_getElem?_getD, List.getElem?_eq_getElem hi]
      exact .data _ _ (hd i _ (List.getElem?_eq_getElem hi))
    · rw [hT, List.getD_eq_getElem?_getD, List.getElem?_eq_none hi]; rfl
    · rw [hH] at h1; cases h1
    · rw [hH] at h1; cases h1
    · cases h1
    · rw [hH] at h1; cases h1
  obtain ⟨hC, _⟩ := hS f av _ _ h
  refine (hC w _ _ _ _ vals (fun _ h => h.elim) R (fun a ha => ?_)).mono ?_
  · obtain ⟨i, hi⟩ := List.mem_iff_getElem?.1 ha
    have h1 := hd i a hi
    have h2 := hk a ha
    cases a <;> first
      | exact ⟨_, h1⟩
      | simp [dataArg] at h2
  · rintro e w' ⟨v', rfl, F', D', st', ν', R', _, hres, _⟩
    refine ⟨?_, ⟨R'.os, R'.tape, R'.output, R'.le, fun k hk => R'.fr k hk (fun h => h)⟩⟩
    rcases hres with ⟨vs, cs, h1, _⟩ | ⟨fs, cs, h1, _⟩ | ⟨es, j, φ, b, o, h1, _⟩ | ⟨s, es, φ, h1, _⟩ | ⟨_, h1⟩
    · cases h1
    · cases h1
    · cases h1
    · cases h1
    · cases h1; rfl

section
variable {H : Type} {enc : TypeId × Value → H} {P : Program} {W W' : World}

theorem trodAll_below (hl : laidOutB P = true) (hB : Below W.heap.size W W') : ∀ {ts : List TypeId} {vs : List Value} {ds : List (DataW H)} {ps : List MemPlace},
    (∀ t ∈ ts, P.readableRec t = true ∧ t < P.types.size) → DataW.TrodAll enc P W 0 (fun _ => true) true ts vs ds ps → (∀ x ∈ ps, x.block < W.heap.size) →
    DataW.TrodAll enc P W' 0 (fun b => decide (b < W.heap.size)) true ts vs ds ps
  | [], [], [], _, _, h, _ => h
  | [], [], _ :: _, _, _, h, _ => h.elim
  | [], _ :: _, _, _, _, h, _ => h.elim
  | _ :: _, [], _, _, _, h, _ => h.elim
  | _ :: _, _ :: _, [], _, _, h, _ => h.elim
  | t :: ts, v :: vs, d :: ds, ps, hr, h, hlt => by
    obtain ⟨p, q, h1, h2, rfl⟩ := h
    obtain ⟨hr1, hr2⟩ := hr t (List.mem_cons_self ..)
    exact ⟨p, q, Below.trod hl hr1 hr2 h1 hB (fun x hx => hlt x (List.mem_append_left _ hx)), trodAll_below hl hB (fun t ht => hr t (List.mem_cons_of_mem _ ht)) h2 (fun x hx => hlt x (List.mem_append_right _ hx)), rfl⟩

theorem law_post {f : Func} {s : ChangeSpec} {apart fresh : Bool} {args : Array Value} {ds gs : List (DataW H)} {before : List MemPlace} {tb : TypeId} (hl : laidOutB P = true)
    (hr : ∀ t ∈ f.params.toList, P.readableRec t = true ∧ t < P.types.size) (hW : DataW.Whole enc P f.params.toList s.vars apart W args.toList ds gs before) (hB : Below W.heap.size W W')
    (hv : s.vars = []) (hres : f.resultTypes = #[tb]) (hb : P.underlying tb = some .bool) (h1 : (s.fn H ds).results = [.lit (.bool true)]) (h2 : (s.fn H ds).args = ds) (h3 : (s.fn H ds).vars = []) :
    s.post enc P f apart fresh false false W args (.bool true) W' := by
  have hW0 := hW
  obtain ⟨p, q, hA, hV, rfl, hz, hn⟩ := hW
  rw [hv] at hV
  obtain ⟨rfl, rfl⟩ := trodVars_none hV
  have e : ds ++ [] = ds := List.append_nil _
  refine ⟨ds, [], p ++ [], [], p, [], hW0, ?_, ?_, ?_, hB.frame _, fun h => by cases h⟩
  · rw [e, h1, hres]
    exact trodAll_mk1 (shut_bool hb _)
  · rw [e, h2]
    exact trodAll_below hl hB hr hA fun x hx => hW0.lt x (List.mem_append_left _ hx)
  · rw [e, h3, hv]
    rfl

/-- numbers that came in -/
theorem rv_ints {t e : TypeId} {k : IntKind} {v : Value} {d : DataW H} {p : List MemPlace} (ht : P.underlying t = some (.slice e)) (he : P.underlying e = some (.int k)) (hc : P.cellsOf e = 1)
    (hv : ∃ a n c, v = .slice a n c) (h : DataW.Trod enc P W 0 (fun _ => true) true t v d p) :
    ∃ xs : List Int, RV W (fun b => b < W.heap.size) (.list (xs.map fun x => .val (.int k x))) v ∧ ∀ x ∈ xs, (Lit.int k x).wf = true := by
  obtain ⟨a1, n, c, rfl⟩ := hv
  obtain ⟨fuel, hf⟩ := h
  rcases open_ints ht he hc hf with ⟨hcs, _⟩ | ⟨a, len, cap, zs, hcs, _, hl, _, hz, _, hcell, hwf⟩
  · cases (show [Value.slice a1 n c] = [.slice none 0 0] from hcs)
    exact ⟨[], .list [] none 0 0 0 1 (fun _ _ => undef) (Nat.le_refl _) (fun h => (h rfl).elim) (fun _ h => by simp at h) (fun i j l h => by simp [leafAt] at h) (fun i j l h => by simp [leafAt] at h), fun _ h => by simp at h⟩
  · cases (show [Value.slice a1 n c] = [.slice (some a) len cap] from hcs)
    simp at hz
    refine ⟨zs.take n, ?_, fun x hx => hwf x (List.mem_of_mem_take hx)⟩
    have hlen : (zs.take n).length = n := by simp; omega
    have hleaf : ∀ i j l, leafAt ((zs.take n).map fun x => AV.val (.int k x)) i j = some l → i < n ∧ j = 0 ∧ l = .val (.int k (zs.getD i 0)) := by
      intro i j l h
      unfold leafAt at h
      rw [List.getElem?_map] at h
      cases hx : (zs.take n)[i]? with
      | none => simp [hx] at h
      | some x =>
        have hi : i < n := by have := (List.getElem?_eq_some_iff.1 hx).1; omega
        rw [List.getElem?_take, if_pos hi] at hx
        have hx' : (zs.take n)[i]? = some x := by rw [List.getElem?_take, if_pos hi]; exact hx
        simp only [hx', Option.map_some] at h
        cases j with
        | zero => simp [leaves] at h; exact ⟨hi, rfl, by rw [List.getD_eq_getElem?_getD, hx]; exact h.symm⟩
        | succ j => simp [leaves] at h
    have hsp : 0 < n → a = ⟨a.block, a.off, none⟩ ∧ a.block < W.heap.size := by
      intro hn
      have h0 := hcell 0 (by omega)
      have ea : a.add 0 = a := rfl
      rw [ea] at h0
      unfold World.cell? at h0
      split at h0
      · rename_i cc _ _ hh
        split at h0
        · cases h0
        · rename_i hs
          refine ⟨?_, (Array.getElem?_eq_some_iff.1 hh).1⟩
          obtain ⟨b, o, s⟩ := a
          cases s
          · rfl
          · simp at hs
      · cases h0
    have := RV.list (w := W) (D := fun b => b < W.heap.size) ((zs.take n).map fun x => AV.val (.int k x)) (some a) c a.block a.off 1 (fun i _ => .int k (zs.getD i 0)) (by simp; omega) (fun hne => ?_) (fun e he => ?_) (fun i j l h => ?_) (fun i j l h => ?_)
    · rw [List.length_map, hlen] at this
      exact this
    · have hn : 0 < n := by
        rcases Nat.eq_zero_or_pos n with h | h
        · subst h; simp at hne
        · exact h
      obtain ⟨h1, h2⟩ := hsp hn
      exact ⟨congrArg some h1, h2, h2⟩
    · obtain ⟨x, _, rfl⟩ := List.mem_map.1 he
      rfl
    · obtain ⟨hi, rfl, rfl⟩ := hleaf i j l h
      have h1 := hcell i (by omega)
      have ea := (hsp (by omega)).1
      rw [ea] at h1
      rw [add_eq] at h1
      simpa using h1
    · obtain ⟨hi, rfl, rfl⟩ := hleaf i j l h
      exact .val _
end
end Go.Mv
end

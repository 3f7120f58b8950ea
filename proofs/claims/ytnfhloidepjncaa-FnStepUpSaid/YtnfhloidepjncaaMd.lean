/- The abstract machine, part 4 of 5: it runs the model's code on abstract values and is proved sound over any program. Conditions: none. -/
import Derived.Below
import Derived.Laws.AppendOwn
import Derived.OpenShut
import Derived.ProofKit
import Derived.Sort.Grow
import Derived.Test.YtnfhloidepjncaaMc

set_option linter.unusedVariables false
set_option linter.unusedSimpArgs false
section
namespace Go.Mv
open Go

def consW : Asr → Ws → Asr
  | A, [] => A
  | A, x :: r => consW (x :: A) r

theorem wk_cons {A B : Asr} (h : ∀ k, look A k = look B k) (l : Mv.Loc) (a : AV) : ∀ k, look (put A l a) k = look ((l, a) :: B) k := by
  intro k
  rw [look_put]
  simp only [look, ← h k]
  cases Loc.beq k l <;> rfl

theorem look_consW (ws : Ws) : ∀ (A B : Asr), (∀ k, look A k = look B k) → ∀ k, look (puts A ws) k = look (consW B ws) k := by
  induction ws with
  | nil => exact fun A B h => h
  | cons x ws ih =>
    intro A B h
    obtain ⟨l, a⟩ := x
    exact ih _ _ (wk_cons h l a)

theorem wk_consW (A : Asr) (ws : Ws) : Wk (puts A ws) (consW A ws) := fun k a h => by rw [look_consW ws A A fun _ => rfl]; exact h

def opds (A : Asr) : List Operand → Option (List AV)
  | [] => some []
  | x :: r => match opd A x with
    | some v => (opds A r).map (v :: ·)
    | none => none
def rdsL (l : List Operand) : List Mv.Loc := l.flatMap rds

section
variable {cx : Cx} {keep : List Nat} {ops0 : Array Oper} {r : List Oper} {A : Asr} {Q : Asr → List Log → Prop} {d : Nat} {ty : Nat} {pos : String} {aft : Array Edge}

theorem wpA_rdOs {C : Caller} : ∀ (xs : List Operand) {vs : List AV}, opds A xs = some vs → ∀ (R : List AV → List Mv.Loc → Prop), R vs (rdsL xs) → wpA C A (rdOs xs) R := by
  intro xs
  induction xs with
  | nil => intro vs h R hr; simp only [opds, Option.some.injEq] at h; subst h; exact hr
  | cons x xs ih =>
    intro vs h R hr
    simp only [opds] at h
    split at h
    · rename_i v hv
      simp only [Option.map_eq_some_iff] at h
      obtain ⟨us, h1, rfl⟩ := h
      simp only [rdOs, wpA_bind, wpA_rdO hv]
      refine ih h1 _ ?_
      simp only [wpA_ret, List.append_nil]
      exact hr
    · cases h

/-- an argument, handed over -/
def PassArg (C : Caller) (A : Asr) (md : Nat) (v a : AV) (ids : List (Nat × Bool)) (ws : Ws) (ls : List Mv.Loc) : Prop :=
  wpW C A (passA md v) fun x w l => x = (a, ids) ∧ w = ws ∧ l = ls

def PassAll (C : Caller) (A : Asr) (md : Nat → Nat) (i : Nat) (vs as : List AV) (ids : List (Nat × Bool)) (ws : Ws) (ls : List Mv.Loc) : Prop :=
  wpW C A (passAll md i vs) fun x w l => x = (as, ids) ∧ w = ws ∧ l = ls

theorem pa_nil {C : Caller} {md : Nat → Nat} {i : Nat} : PassAll C A md i [] [] [] [] [] := wpW_pure ⟨rfl, rfl, rfl⟩

theorem pa_cons {C : Caller} {md : Nat → Nat} {i : Nat} {v a : AV} {vs as : List AV} {ids ids' : List (Nat × Bool)} {ws ws' : Ws} {ls ls' : List Mv.Loc} (h : PassArg C A (md i) v a ids ws ls)
    (t : PassAll C (puts A ws) md (i + 1) vs as ids' ws' ls') : PassAll C A md i (v :: vs) (a :: as) (ids ++ ids') (ws ++ ws') (ls ++ ls') := by
  refine wpW_bind (wpW_mono h ?_)
  rintro _ _ _ ⟨rfl, rfl, rfl⟩
  refine wpW_bind (wpW_mono t ?_)
  rintro _ _ _ ⟨rfl, rfl, rfl⟩
  exact wpW_pure ⟨rfl, by simp, by simp⟩

theorem pa_keepW {C : Caller} {md : Nat → Nat} {i : Nat} {v a : AV} {vs as : List AV} {ids ids' : List (Nat × Bool)} {ws' : Ws} {ls ls' : List Mv.Loc} (h : PassArg C A (md i) v a ids [] ls)
    (t : PassAll C A md (i + 1) vs as ids' ws' ls') : PassAll C A md i (v :: vs) (a :: as) (ids ++ ids') ws' (ls ++ ls') := pa_cons h t

def plainArg : AV → Bool
  | .val _ => true
  | .list _ => true
  | .ifc => true
  | .ipt _ _ => true
  | .clo _ [] => true
  | .agg fs => fs.all fun l => match l with
    | .val _ => true
    | .list _ => true
    | .clo _ [] => true
    | .ifc => true
    | _ => false
  | _ => false

theorem passLeaves_plain {C : Caller} : ∀ (fs : List AV), (fs.all fun l => match l with
    | .val _ => true
    | .list _ => true
    | .clo _ [] => true
    | .ifc => true
    | _ => false) = true → ∀ (R : List AV → List Mv.Loc → Prop), R fs [] → wpA C A (passLeaves fs) R := by
  intro fs
  induction fs with
  | nil => intro _ R hr; exact hr
  | cons f fs ih =>
    intro h R hr
    simp only [List.all_cons, Bool.and_eq_true] at h
    simp only [passLeaves, wpA_bind]
    have hf : ∀ (R : AV → List Mv.Loc → Prop), R f [] → wpA C A (passLeaf f) R := by
      intro R hr
      have := h.1
      cases f with
      | clo k caps => cases caps with
        | nil => exact hr
        | cons => simp at this
      | _ => first | exact hr | simp at this
    refine hf _ (ih h.2 _ ?_)
    simp only [wpA_ret, List.append_nil]
    exact hr

theorem slIds_plain {b : Bool} : ∀ (fs : List AV), (fs.all fun l => match l with
    | .val _ => true
    | .list _ => true
    | .clo _ [] => true
    | .ifc => true
    | _ => false) = true → slIds b fs = [] := by
  intro fs
  induction fs with
  | nil => intro _; rfl
  | cons f fs ih =>
    intro h
    simp only [List.all_cons, Bool.and_eq_true] at h
    have := ih h.2
    unfold slIds at this ⊢
    rw [List.filterMap_cons]
    cases f <;> simp at h <;> exact this

theorem keepLeaves_plain {C : Caller} : ∀ (fs : List AV), (fs.all fun l => match l with
    | .val _ => true
    | .list _ => true
    | .clo _ [] => true
    | .ifc => true
    | _ => false) = true → ∀ {A : Asr} (R : List AV → Ws → List Mv.Loc → Prop), R fs [] [] → wpW C A (keepLeaves fs) R := by
  intro fs
  induction fs with
  | nil => intro _ A R hr; exact wpW_pure hr
  | cons f fs ih =>
    intro h A R hr
    simp only [List.all_cons, Bool.and_eq_true] at h
    have hf : ∀ {A : Asr} (R : AV → Ws → List Mv.Loc → Prop), R f [] [] → wpW C A (keepLeaf f) R := by
      intro A R hr
      have := h.1
      cases f with
      | clo k caps => cases caps with
        | nil => exact wpW_up hr
        | cons => simp at this
      | _ => first | exact wpW_up hr | simp at this
    refine wpW_bind (hf _ (wpW_bind (ih h.2 _ (wpW_pure ?_))))
    simpa using hr

theorem pa_plain {C : Caller} {md : Nat} {v : AV} (h : plainArg v = true) : PassArg C A md v v [] [] [] := by
  unfold PassArg passA
  cases v with
  | val v =>
    refine wpW_bind (wpW_up ?_)
    show wpW C (puts A []) (pure (AV.val v, ([] : List (Nat × Bool)))) _
    exact wpW_pure ⟨rfl, rfl, rfl⟩
  | list es =>
    refine wpW_bind (wpW_up ?_)
    show wpW C (puts A []) (pure (AV.list es, ([] : List (Nat × Bool)))) _
    exact wpW_pure ⟨rfl, rfl, rfl⟩
  | ifc =>
    refine wpW_bind (wpW_up ?_)
    show wpW C (puts A []) (pure (AV.ifc, ([] : List (Nat × Bool)))) _
    exact wpW_pure ⟨rfl, rfl, rfl⟩
  | ipt e j => exact wpW_pure ⟨rfl, rfl, rfl⟩
  | clo f caps =>
    cases caps with
    | nil =>
      simp only
      split
      · exact wpW_bind (wpW_pure (wpW_pure ⟨rfl, rfl, rfl⟩))
      · split
        · refine wpW_bind (wpW_up ?_)
          show wpW C (puts A []) (pure (AV.clo f [], ([] : List (Nat × Bool)))) _
          exact wpW_pure ⟨rfl, rfl, rfl⟩
        · refine wpW_bind (wpW_up ?_)
          show wpW C (puts A []) (pure (AV.clo f [], ([] : List (Nat × Bool)))) _
          exact wpW_pure ⟨rfl, rfl, rfl⟩
    | cons => simp [plainArg] at h
  | agg fs =>
    simp only [plainArg] at h
    simp only
    split
    · exact wpW_bind (keepLeaves_plain fs h _ (wpW_pure ⟨by rw [slIds_plain fs h], rfl, rfl⟩))
    · exact wpW_bind (wpW_up (passLeaves_plain fs h _ (wpW_pure ⟨by rw [slIds_plain fs h], rfl, rfl⟩)))
  | _ => simp [plainArg] at h

theorem pa_nil0 {C : Caller} {md : Nat} (h : md = 0 ∨ md = 3) : PassArg C A md .nil (.list []) [] [] [] := by
  unfold PassArg passA
  simp only [h, if_true]
  exact wpW_pure ⟨rfl, rfl, rfl⟩

/-- a slice lent to be read -/
theorem pa_lend {C : Caller} {md id g m s n : Nat} {es : List AV} (hmd : md = 0) (ho : look A (.h id) = some (.obj g m s es)) (hb : bxB m none = false) (hn : n = es.length) (hr : noRefL es = true) :
    PassArg C A md (.sl id g none 0 n) (.list (frzL es)) [(id, false)] [] [.h id] := by
  subst hmd hn
  unfold PassArg passA
  simp only [if_true]
  refine wpW_bind (wpW_up ?_)
  simp only [passLeaf, slc, rdNode, wpA_bind, wpA_read ho, wpA_need, wpA_ret, hb, List.append_nil, List.nil_append, List.drop_zero, List.take_length, hr, Nat.zero_add, Nat.le_refl, and_self, true_and]
  exact wpW_pure ⟨rfl, rfl, by simp⟩

theorem pa_lend_map {α : Type} {f : α → AV} {xs : List α} {C : Caller} {md id g m s n : Nat} (hmd : md = 0) (ho : look A (.h id) = some (.obj g m s (xs.map f))) (hb : bxB m none = false) (hn : n = (xs.map f).length) (hf : ∀ a, immEl (f a) = true) :
    PassArg C A md (.sl id g none 0 n) (.list (xs.map f)) [(id, false)] [] [.h id] := by
  have hr : noRefL (xs.map f) = true := noRef_map fun a => by
    have := hf a
    cases hfa : f a <;> rw [hfa] at this <;> simp_all [immEl, noRefEl]
  have := pa_lend (C := C) hmd ho hb hn hr
  rwa [frzL_map hf] at this

/-- a slice lent to be written -/
theorem pa_write {C : Caller} {md id g m s n : Nat} {es : List AV} (hmd : md = 1) (ho : look A (.h id) = some (.obj g m s es)) (hm : m ≠ 2 ∧ bxB m none = false) (hn : n = es.length) (hi : immL es = true) :
    PassArg C A md (.sl id g none 0 n) (.own s es) [(id, true)] [] [.h id] := by
  subst hmd hn
  unfold PassArg passA
  simp only [show ¬ ((1 : Nat) = 0) from by decide, if_false, if_true]
  refine wpW_bind (wpW_node ho ?_)
  simp only [hi, Bool.true_eq_false, and_false, if_false]
  refine wpW_bind (wpW_need (by simp [hm.1, hm.2]) (wpW_pure ⟨rfl, rfl, by simp⟩))

/-- a slice given away -/
theorem pa_give {C : Caller} {md id g s n : Nat} {es : List AV} (hmd : md = 2) (ho : look A (.h id) = some (.obj g 0 s es)) (hn : n = es.length) (hi : noRefL es = true) :
    PassArg C A md (.sl id g none 0 n) (.own s es) [(id, true)] [(.h id, .dead g)] [.h id] := by
  subst hmd hn
  unfold PassArg passA
  simp only [show ¬ ((2 : Nat) = 0) from by decide, show ¬ ((2 : Nat) = 1) from by decide, if_false, if_true]
  refine wpW_bind (wpW_node ho (wpW_bind (wpW_need (by simp [hi]) (wpW_bind (wpW_wr (wpW_pure ⟨?_, by simp, by simp⟩))))))
  simp

/-- a slice given for good, to be read -/
theorem pa_keep {C : Caller} {md id g s n : Nat} {es : List AV} (hmd : md = 3) (ho : look A (.h id) = some (.obj g 0 s es)) (hn : n = es.length) (hi : noRefL es = true) :
    PassArg C A md (.sl id g none 0 n) (.list (frzL es)) [(id, true)] [(.h id, .obj g 2 s (frzL es))] [.h id] := by
  subst hmd hn
  unfold PassArg passA
  simp only [show ¬ ((3 : Nat) = 0) from by decide, show ¬ ((3 : Nat) = 1) from by decide, show ¬ ((3 : Nat) = 2) from by decide, if_false, freeze]
  refine wpW_bind (wpW_bind (wpW_node ho (wpW_bind (wpW_need (by simp [bxB]) ?_))))
  simp only [show ¬ ((0 : Nat) = 2) from by decide, if_false]
  refine wpW_bind (wpW_need (by simp [hi]) (wpW_bind (wpW_wr (wpW_pure (wpW_pure ⟨?_, by simp, by simp⟩)))))
  have : (frzL es).take es.length = frzL es := by rw [← frzL_length es, List.take_length]
  simp [this]

theorem pa_keep2 {C : Caller} {md id g s n : Nat} {es : List AV} (hmd : md = 3) (ho : look A (.h id) = some (.obj g 2 s es)) (hn : n = es.length) :
    PassArg C A md (.sl id g none 0 n) (.list es) [(id, true)] [] [.h id] := by
  subst hmd hn
  unfold PassArg passA
  simp only [show ¬ ((3 : Nat) = 0) from by decide, show ¬ ((3 : Nat) = 1) from by decide, show ¬ ((3 : Nat) = 2) from by decide, if_false, freeze]
  refine wpW_bind (wpW_bind (wpW_node ho (wpW_bind (wpW_need (by simp [bxB]) ?_))))
  simp only [if_true]
  exact wpW_pure (wpW_pure ⟨by simp, by simp, by simp⟩)

/-- a variable lent to be written -/
theorem pa_box {C : Caller} {md id g m s j : Nat} {es : List AV} (ho : look A (.h id) = some (.obj g m s es)) (hm : m = 3 ∨ m = 4) (hi : immL es = true) : PassArg C A md (.ptr id g none 0 j) (.ownp es 0 j) [(id, true)] [] [.h id] := by
  unfold PassArg passA
  exact wpW_bind (wpW_node ho (wpW_bind (wpW_need ⟨hm, hi, rfl⟩ (wpW_pure ⟨rfl, by simp, by simp⟩))))

/-- what comes back -/
def Back (C : Caller) (A : Asr) (T : List Tg) (outs : List (List AV)) (ws : Ws) (ls : List Mv.Loc) : Prop := wpW C A (backAll T outs) fun _ w l => w = ws ∧ l = ls

theorem back_nil {C : Caller} : Back C A [] [] [] [] := wpW_pure ⟨rfl, rfl⟩
theorem back_cons {C : Caller} {id g m s : Nat} {es o : List AV} {T : List Tg} {outs : List (List AV)} {ws : Ws} {ls : List Mv.Loc} (ho : look A (.h id) = some (.obj g m s es)) (hl : o.length = es.length) (hn : nilFit es o = true)
    (h : Back C (puts A [(.h id, .obj g m s o)]) T outs ws ls) : Back C A ((id, g, none) :: T) (o :: outs) ((.h id, .obj g m s o) :: ws) (.h id :: .h id :: ls) := by
  unfold Back backAll
  refine wpW_bind ?_
  unfold backNode
  refine wpW_bind (wpW_node ho (wpW_bind (wpW_need ⟨hl, hn⟩ (wpW_bind (wpW_up ?_)))))
  simp only [wrNode, wpA_read ho, wpA_ret]
  have ho' : look (puts (puts A []) []) (.h id) = some (.obj g m s es) := ho
  rw [wpA_read ho']
  simp only [wpA_ret]
  refine wpW_wr (wpW_mono h ?_)
  rintro _ _ _ ⟨rfl, rfl⟩
  exact ⟨by simp, by simp⟩

/-- how a result comes to lie in the caller's hands -/
def InstR (C : Caller) (A : Asr) (d : Nat) (res : AV) {G : Type} (v : G → AV) (ws : G → Ws) (ls : List Mv.Loc) : Prop := wpW C A (inst d res) fun a w l => ∃ g, a = v g ∧ w = ws g ∧ l = ls

theorem wpW_instLeaf {C : Caller} {id : Nat} {v : AV} (h : immLeaf v = true) {R : AV → Ws → List Mv.Loc → Prop} (hr : R v [] []) : wpW C A (instLeaf id v) R := by
  cases v with
  | clo f caps => cases caps with
    | nil => exact wpW_pure hr
    | cons c cs =>
      refine wpW_bind (wpW_need h (wpW_pure ?_))
      simpa using hr
  | _ => first | exact wpW_pure hr | simp [immLeaf] at h

theorem wpW_instLeaves {C : Caller} {d : Nat} : ∀ (fs : List AV) (k : Nat) {A : Asr}, fs.all immLeaf = true → ∀ {R : List AV → Ws → List Mv.Loc → Prop}, R fs [] [] → wpW C A (instLeaves d k fs) R := by
  intro fs
  induction fs with
  | nil => intro k A _ R hr; exact wpW_pure hr
  | cons f fs ih =>
    intro k A h R hr
    simp only [List.all_cons, Bool.and_eq_true] at h
    refine wpW_bind (wpW_instLeaf h.1 (wpW_bind (ih (k + 1) h.2 (wpW_pure ?_))))
    simpa using hr

theorem inst1_leaf {d k : Nat} {v : AV} (h1 : ∀ fs, v ≠ .agg fs) (h2 : ∀ es i j, v ≠ .ownp es i j) : inst1 d k v = instLeaf (tid d k) v := by
  unfold inst1
  split
  · exact (h1 _ rfl).elim
  · exact (h2 _ _ _ rfl).elim
  · rfl

theorem wpW_inst1 {C : Caller} {d k : Nat} {v : AV} (h : immEl v = true) {R : AV → Ws → List Mv.Loc → Prop} (hr : R v [] []) : wpW C A (inst1 d k v) R := by
  by_cases he : ∃ fs, v = .agg fs
  · obtain ⟨fs, rfl⟩ := he
    refine wpW_bind (wpW_instLeaves fs _ (by simpa [immEl] using h) (wpW_pure ?_))
    simpa using hr
  · have h1 : ∀ fs, v ≠ .agg fs := fun fs e => he ⟨fs, e⟩
    have hl := immEl_leaf h1 h
    rw [inst1_leaf h1 (fun es i j e => by subst e; simp [immLeaf] at hl)]
    exact wpW_instLeaf hl hr

theorem wpW_inst1Own {C : Caller} {d k s : Nat} {es : List AV} {R : AV → Ws → List Mv.Loc → Prop} (hr : ∀ g, R (.sl (tid d k) g none 0 es.length) [(.h (tid d k), .obj g 0 s es)] [.h (tid d k)]) : wpW C A (inst1 d k (.own s es)) R := by
  show wpW C A (instLeaf (tid d k) (.own s es)) R
  refine wpW_bind (wpW_stamp fun o => wpW_bind (wpW_wr (wpW_pure ?_)))
  have := hr (stamp o + 1)
  simpa using this

theorem inst_one {d : Nat} {v : AV} (h : ∀ vs, v ≠ .tup vs) : inst d v = inst1 d 0 v := by
  unfold inst
  split
  · exact (h _ rfl).elim
  · rfl

theorem inst_plain {C : Caller} {d : Nat} {v : AV} (h : immEl v = true) : InstR C A d v (fun _ : Unit => v) (fun _ => []) [] := by
  unfold InstR
  rw [inst_one (fun vs e => by subst e; simp [immEl, immLeaf] at h)]
  exact wpW_inst1 h ⟨(), rfl, rfl, rfl⟩

theorem inst_own {C : Caller} {d s : Nat} {es : List AV} : InstR C A d (.own s es) (fun g : Nat => .sl (tid d 0) g none 0 es.length) (fun g => [(.h (tid d 0), .obj g 0 s es)]) [.h (tid d 0)] := by
  unfold InstR
  rw [inst_one (fun vs e => by cases e)]
  exact wpW_inst1Own fun g => ⟨g, rfl, rfl, rfl⟩

theorem inst_box {C : Caller} {d i j : Nat} {es : List AV} : InstR C A d (.ownp es i j) (fun g : Nat => .ptr (tid d 0) g none i j) (fun g => [(.h (tid d 0), .obj g 3 (boxS es) es)]) [.h (tid d 0)] := by
  unfold InstR
  rw [inst_one (fun vs e => by cases e)]
  refine wpW_bind (wpW_stamp fun o => wpW_bind (wpW_wr (wpW_pure ?_)))
  exact ⟨_, rfl, by simp, by simp⟩

theorem wpW_instAll_plain {C : Caller} {d : Nat} : ∀ (vs : List AV) (k : Nat) {A : Asr}, vs.all immEl = true → ∀ {R : List AV → Ws → List Mv.Loc → Prop}, R vs [] [] → wpW C A (instAll d k vs) R := by
  intro vs
  induction vs with
  | nil => intro k A _ R hr; exact wpW_pure hr
  | cons f fs ih =>
    intro k A h R hr
    simp only [List.all_cons, Bool.and_eq_true] at h
    refine wpW_bind (wpW_inst1 h.1 (wpW_bind (ih (k + 16) h.2 (wpW_pure ?_))))
    simpa using hr

theorem inst_tup {C : Caller} {d : Nat} {vs : List AV} (h : vs.all immEl = true) : InstR C A d (.tup vs) (fun _ : Unit => .tup vs) (fun _ => []) [] := by
  refine wpW_bind (wpW_instAll_plain vs 16 h (wpW_pure ⟨(), rfl, rfl, rfl⟩))

/-- the same with an index of any type -/
theorem x_opT {G : Type} {o : Oper} (hg : o.guard = none) {v : G → AV} {ws : G → Ws} {ls : List Mv.Loc} {A1 : G → Asr} (h : wpW (CW cx) A (aopV cx o) fun a w l => ∃ g, a = v g ∧ w = ws g ∧ l = ls)
    (hk : ∀ g, tRefsOk keep (keptWs keep (ws g ++ setD o (v g))) = true) (hA : ∀ g, Wk (puts A (ws g ++ setD o (v g))) (A1 g))
    (hx : ∀ g, XR cx keep ops0 r (A1 g) fun A' lg => Q A' ((ls, wmap (ws g ++ setD o (v g))) :: lg)) : XR cx keep ops0 (o :: r) A Q := by
  refine xr_cons ?_
  have : aoper cx ops0 o = aop cx o := by unfold aoper; simp only [hg]
  rw [this]
  unfold aop
  refine wpW_bind (wpW_mono h ?_)
  rintro _ _ _ ⟨g, rfl, rfl, rfl⟩
  refine wpW_wr ?_
  simp only [List.append_nil]
  exact ⟨hk g, XR.wk (hA g) (hx g)⟩

/-- a call -/
theorem x_call {G : Type} {k : Nat} {args : Array Operand} {Ts : Array Nat} {vs as : List AV} {ids : List (Nat × Bool)} {wp wb : Ws} {lp lb li : List Mv.Loc} {res : AV} {outs : List (List AV)} {v : G → AV} {wi : G → Ws}
    (hv : opds A args.toList = some vs) (hp : PassAll (CW cx) A (cx.md k) 0 vs as ids wp lp) (hC : CW cx k as = some (res, outs))
    (hc : apartIds ids = true ∧ nodupB ((tgAll (cx.md k) 0 vs).map (·.1)) = true ∧ nodupB ((cidAll (cx.md k) 0 as).map (·.1)) = true ∧ as.length ≤ 1000 ∧ capsOk as = true)
    (hl : ids.all (fun x => x.2) = true ∨ (hasList res = false ∧ outs.any hasListL = false))
    (hb : Back (CW cx) (puts A wp) (tgAll (cx.md k) 0 vs) outs wb lb) (hi : InstR (CW cx) (puts (puts A wp) wb) d res v wi li)
    (hk : ∀ g, tRefsOk keep (keptWs keep (wp ++ (wb ++ (wi g ++ [(.t d, v g)])))) = true)
    (h : ∀ g, XR cx keep ops0 r (consW A (wp ++ (wb ++ (wi g ++ [(.t d, v g)])))) fun A' lg => Q A' ((rdsL args.toList ++ (lp ++ (lb ++ li)), wmap (wp ++ (wb ++ (wi g ++ [(.t d, v g)])))) :: lg)) :
    XR cx keep ops0 (⟨some d, .call ⟨.value (.func k), args, Ts⟩, ty, pos, aft, none⟩ :: r) A Q := by
  refine x_opT (G := G) (v := v) (ws := fun g => wp ++ (wb ++ wi g)) (ls := rdsL args.toList ++ (lp ++ (lb ++ li))) rfl ?_ (fun g => ?_) (fun g => ?_) (fun g => ?_) (A1 := fun g => consW A (wp ++ (wb ++ (wi g ++ [(.t d, v g)]))))
  · simp only [aopV]
    refine wpW_bind (wpW_rdO (v := .clo k []) rfl (wpW_bind (wpW_up (wpA_rdOs _ hv _ ?_))))
    simp only [callA, List.append_nil]
    refine wpW_bind (wpW_mono hp ?_)
    rintro _ _ _ ⟨rfl, rfl, rfl⟩
    refine wpW_bind (wpW_need hc (wpW_bind (wpW_up ?_)))
    refine ⟨res, outs, hC, ?_⟩
    refine wpW_bind (wpW_need hl (wpW_bind (wpW_mono hb ?_)))
    rintro _ _ _ ⟨rfl, rfl⟩
    refine wpW_mono hi ?_
    rintro _ _ _ ⟨g, rfl, rfl, rfl⟩
    exact ⟨g, rfl, by simp, by simp [rds]⟩
  · have := hk g
    simpa [setD] using this
  · have := wk_consW A (wp ++ (wb ++ (wi g ++ [(.t d, v g)])))
    simpa [setD] using this
  · have := h g
    simpa [setD] using this
end
end Go.Mv
end

section
namespace Go.Mv
open Go

section
variable {cx : Cx} {keep : List Nat} {ops0 : Array Oper} {r : List Oper} {A : Asr} {Q : Asr → List Log → Prop} {d : Nat} {ty : Nat} {pos : String} {aft : Array Edge}

/-- a leaf that is laid down as it is -/
def layLeaf (cur v : AV) : Bool := match v with
  | .val v => cellV v
  | .clo _ cs => cs.all isIpt
  | .list _ => true
  | .nil => isNil cur
  | _ => false
def layLeaves : List AV → List AV → Bool
  | _, [] => true
  | cs, v :: vs => layLeaf (cs.headD .undef) v && layLeaves cs.tail vs
def layV (cs : List AV) (v : AV) : Bool := match v with
  | .agg fs => layLeaves cs fs
  | v => layLeaf (cs.headD .undef) v

theorem wpW_layLeaf {C : Caller} {m f : Nat} {cur v : AV} (h : layLeaf cur v = true) {R : AV → Ws → List Mv.Loc → Prop} (hr : R v [] []) : wpW C A (absorbLeaf m cur f v) R := by
  unfold absorbLeaf
  cases v with
  | val v => exact wpW_bind (wpW_need h (wpW_pure hr))
  | clo k caps =>
    refine wpW_bind (wpW_need h (wpW_pure ?_))
    simpa using hr
  | list es => exact wpW_pure hr
  | nil =>
    cases cur <;> simp [layLeaf, isNil] at h
    exact wpW_pure hr
  | _ => simp [layLeaf] at h

theorem wpW_layLeaves {C : Caller} {m f : Nat} : ∀ (vs cs : List AV) (j : Nat) {A : Asr}, layLeaves cs vs = true → ∀ {R : List AV → Ws → List Mv.Loc → Prop}, R vs [] [] → wpW C A (absorbLeaves m f j cs vs) R := by
  intro vs
  induction vs with
  | nil => intro cs j A _ R hr; exact wpW_pure hr
  | cons v vs ih =>
    intro cs j A h R hr
    simp only [layLeaves, Bool.and_eq_true] at h
    refine wpW_bind (wpW_layLeaf h.1 (wpW_bind (ih cs.tail (j + 1) h.2 (wpW_pure ?_))))
    simpa using hr

theorem wpW_lay {C : Caller} {m f j : Nat} {cs : List AV} {v : AV} (h : layV cs v = true) {R : AV → Ws → List Mv.Loc → Prop} (hr : R v [] []) : wpW C A (absorb m f j cs v) R := by
  by_cases he : ∃ fs, v = .agg fs
  · obtain ⟨fs, rfl⟩ := he
    refine wpW_bind (wpW_layLeaves fs cs j h (wpW_pure ?_))
    simpa using hr
  · have h1 : ∀ fs, v ≠ .agg fs := fun fs e => he ⟨fs, e⟩
    have e1 : absorb m f j cs v = absorbLeaf m (cs.headD .undef) (fid f j) v := by
      unfold absorb
      split
      · exact (h1 _ rfl).elim
      · rfl
    have e2 : layV cs v = layLeaf (cs.headD .undef) v := by
      unfold layV
      split
      · exact (h1 _ rfl).elim
      · rfl
    rw [e1]
    rw [e2] at h
    exact wpW_layLeaf h hr

/-- the type of a variable as it is made -/
def zeroT (P : Program) (T : Nat) : Option (AV × Nat) :=
  if (leaves (tyS P T).zero).length = (tyS P T).size ∧ okPart (tyS P T).zero = true then some ((tyS P T).zero, (tyS P T).size) else none

theorem zeroT_ok {P : Program} {T s : Nat} {z : AV} (h : zeroT P T = some (z, s)) : (tyS P T).zero = z ∧ (tyS P T).size = s ∧ (leaves (tyS P T).zero).length = (tyS P T).size ∧ okPart (tyS P T).zero = true := by
  unfold zeroT at h
  split at h
  · rename_i hc
    cases h
    exact ⟨rfl, rfl, hc.1, hc.2⟩
  · cases h

theorem x_alloc {T s : Nat} {z : AV} (hT : zeroT cx.P T = some (z, s)) (hko : ∀ g, slotOk keep (.h d) (.obj g 3 s [z]) = true) (hk : ∀ g, slotOk keep (.t d) (.ptr d g none 0 0) = true)
    (h : ∀ g, XR cx keep ops0 r ((.t d, .ptr d g none 0 0) :: (.h d, .obj g 3 s [z]) :: A) fun A' lg => Q A' (([.h d], [.h d, .t d]) :: lg)) : XR cx keep ops0 (⟨some d, .alloc T, ty, pos, aft, none⟩ :: r) A Q := by
  obtain ⟨h1, h2, h3, h4⟩ := zeroT_ok hT
  refine x_opG (v := fun g => .ptr d g none 0 0) (ws := fun g => [(.h d, .obj g 3 s [z])]) (ls := [.h d]) rfl ?_ (fun g => tRefs_cons (hko g) (tRefs_one (hk g))) (fun g => rfl) (fun g => wk_put2 _ _ _ _ _) h
  simp only [aopV, dstOf]
  refine wpW_bind (wpW_up (show wpA (CW cx) A (.ret d) _ from ?_))
  show wpW (CW cx) (puts A []) _ _
  refine wpW_bind (wpW_stamp fun o => wpW_bind (wpW_need ⟨h3, h4⟩ (wpW_bind (wpW_wr (wpW_pure ?_)))))
  exact ⟨stamp o + 1, rfl, by simp [h1, h2], by simp⟩

theorem x_box {T s : Nat} {x : Operand} {v : AV} (hx : opd A x = some v) (hl : layV ((leaves v).map fun _ => AV.nil) v = true) (hs : (leaves v).length = s) (hko : ∀ g, slotOk keep (.h d) (.obj g 3 s [v]) = true) (hk : ∀ g, slotOk keep (.t d) (.ptr d g none 0 0) = true)
    (h : ∀ g, XR cx keep ops0 r ((.t d, .ptr d g none 0 0) :: (.h d, .obj g 3 s [v]) :: A) fun A' lg => Q A' ((rds x ++ [.h d], [.h d, .t d]) :: lg)) : XR cx keep ops0 (⟨some d, .box T x, ty, pos, aft, none⟩ :: r) A Q := by
  refine x_opG (v := fun g => .ptr d g none 0 0) (ws := fun g => [(.h d, .obj g 3 s [v])]) (ls := rds x ++ [.h d]) rfl ?_ (fun g => tRefs_cons (hko g) (tRefs_one (hk g))) (fun g => rfl) (fun g => wk_put2 _ _ _ _ _) h
  simp only [aopV, dstOf]
  refine wpW_bind (wpW_up (show wpA (CW cx) A (.ret d) _ from ?_))
  show wpW (CW cx) (puts A []) _ _
  refine wpW_bind (wpW_rdO hx (wpW_bind (wpW_lay hl (wpW_bind (wpW_stamp fun o => wpW_bind (wpW_wr (wpW_pure ?_)))))))
  exact ⟨stamp o + 1, rfl, by simp [hs], by simp⟩

/-- the elements of a slice that is written down -/
def fillF (A : Asr) (s : Nat) (es : List AV) : List (Nat × Operand) → Option (List AV)
  | [] => some es
  | (i, x) :: r => match opd A x with
    | some v => if (leaves v).length = s ∧ i < es.length ∧ layV (List.replicate s .nil) v = true then fillF A s (es.set i v) r else none
    | none => none

theorem wpW_fill {C : Caller} {s : Nat} : ∀ (ps : List (Nat × Operand)) (es : List AV) {es' : List AV}, fillF A s es ps = some es' → ∀ {R : List AV → Ws → List Mv.Loc → Prop}, R es' [] (rdsL (ps.map (·.2))) → wpW C A (fillEls s es ps) R := by
  intro ps
  induction ps with
  | nil => intro es es' h R hr; simp only [fillF, Option.some.injEq] at h; subst h; exact wpW_pure hr
  | cons p ps ih =>
    intro es es' h R hr
    obtain ⟨i, x⟩ := p
    simp only [fillF] at h
    split at h
    · rename_i v hv
      split at h
      · rename_i hc
        refine wpW_bind (wpW_rdO hv (wpW_bind (wpW_need ⟨hc.1, hc.2.1⟩ (wpW_bind (wpW_lay hc.2.2 ?_)))))
        refine wpW_mono (ih _ h (R := fun a w l => a = es' ∧ w = [] ∧ l = rdsL (ps.map (·.2))) ⟨rfl, rfl, rfl⟩) ?_
        rintro _ _ _ ⟨rfl, rfl, rfl⟩
        simpa [rdsL] using hr
      · cases h
    · cases h

theorem x_buildSlice {T n E s : Nat} {ps : Array (Nat × Operand)} {z : AV} {es : List AV} (hT : elemT cx.P T = some (E, s)) (hz : zeroT cx.P E = some (z, s)) (hn : n * s ≤ 16777216 ∧ 0 < s) (hf : fillF A s (List.replicate n z) ps.toList = some es) (hl : es.length = n)
    (hko : ∀ g, slotOk keep (.h (tid d 0)) (.obj g 0 s es) = true) (hk : ∀ g, slotOk keep (.t d) (.sl (tid d 0) g none 0 n) = true)
    (h : ∀ g, XR cx keep ops0 r ((.t d, .sl (tid d 0) g none 0 n) :: (.h (tid d 0), .obj g 0 s es) :: A) fun A' lg => Q A' ((rdsL (ps.toList.map (·.2)) ++ [.h (tid d 0)], [.h (tid d 0), .t d]) :: lg)) :
    XR cx keep ops0 (⟨some d, .buildSlice T n ps, ty, pos, aft, none⟩ :: r) A Q := by
  obtain ⟨h1, h2, h3, h4⟩ := zeroT_ok hz
  refine x_opG (v := fun g => .sl (tid d 0) g none 0 n) (ws := fun g => [(.h (tid d 0), .obj g 0 s es)]) (ls := rdsL (ps.toList.map (·.2)) ++ [.h (tid d 0)]) rfl ?_ (fun g => tRefs_cons (hko g) (tRefs_one (hk g))) (fun g => rfl) (fun g => wk_put2 _ _ _ _ _) h
  simp only [aopV, dstOf]
  refine wpW_bind (wpW_up (show wpA (CW cx) A (.ret d) _ from ?_))
  show wpW (CW cx) (puts A []) _ _
  refine wpW_bind (wpW_elem hT (wpW_bind (wpW_need ⟨by rw [h2]; exact hn.1, h3, h4, by rw [h2]; exact hn.2⟩ ?_)))
  simp only [h1, h2]
  refine wpW_bind (wpW_fill ps.toList _ hf (wpW_bind (wpW_stamp fun o => wpW_bind (wpW_wr (wpW_pure ?_)))))
  exact ⟨stamp o + 1, rfl, by simp, by simp⟩

theorem x_makeSlice {α : Type} {f : α → AV} {x0 : α} {T E s : Nat} {l c : Operand} {k k' : IntKind} {n : Int} {z : AV} (hl : opd A l = some (.val (.int k n))) (hc : opd A c = some (.val (.int k' n))) (hT : elemT cx.P T = some (E, s)) (hz : zeroT cx.P E = some (z, s)) (hf : z = f x0)
    (hn : 0 ≤ n ∧ n.toNat ≤ maxL) (hb : (tyS cx.P E).bytes ≤ 4096 ∧ 0 < s) (hko : ∀ g, slotOk keep (.h (tid d 0)) (.obj g 0 s ((List.replicate n.toNat x0).map f)) = true) (hk : ∀ g, slotOk keep (.t d) (.sl (tid d 0) g none 0 n.toNat) = true)
    (h : ∀ g, XR cx keep ops0 r ((.t d, .sl (tid d 0) g none 0 n.toNat) :: (.h (tid d 0), .obj g 0 s ((List.replicate n.toNat x0).map f)) :: A) fun A' lg => Q A' ((rds l ++ (rds c ++ [.h (tid d 0)]), [.h (tid d 0), .t d]) :: lg)) :
    XR cx keep ops0 (⟨some d, .makeSlice T l c, ty, pos, aft, none⟩ :: r) A Q := by
  obtain ⟨h1, h2, h3, h4⟩ := zeroT_ok hz
  refine x_opG (v := fun g => .sl (tid d 0) g none 0 n.toNat) (ws := fun g => [(.h (tid d 0), .obj g 0 s ((List.replicate n.toNat x0).map f))]) (ls := rds l ++ (rds c ++ [.h (tid d 0)])) rfl ?_ (fun g => tRefs_cons (hko g) (tRefs_one (hk g))) (fun g => rfl) (fun g => wk_put2 _ _ _ _ _) h
  simp only [aopV, dstOf]
  refine wpW_bind (wpW_up (show wpA (CW cx) A (.ret d) _ from ?_))
  show wpW (CW cx) (puts A []) _ _
  refine wpW_bind (wpW_rdO hl (wpW_bind (wpW_rdO hc (wpW_bind (wpW_up ?_)))))
  rw [wpA_asNat hn.1]
  refine wpW_bind (wpW_up ?_)
  rw [wpA_asNat hn.1]
  refine wpW_bind (wpW_elem hT (wpW_bind (wpW_need ⟨rfl, hn.2, hb.1, h3, h4, by rw [h2]; exact hb.2⟩ (wpW_bind (wpW_stamp fun o => wpW_bind (wpW_wr (wpW_pure ?_)))))))
  exact ⟨stamp o + 1, rfl, by simp [h1, h2, hf], by simp⟩

/-! ### append -/
theorem cellL_map {α : Type} {f : α → AV} {xs : List α} (h : ∀ a, (leaves (f a)).all cellLeaf = true) : cellL (xs.map f) = true := by
  unfold cellL
  rw [List.all_map, List.all_eq_true]
  exact fun a _ => h a

/-- an object of the frame's, made longer by one that was made for it -/
theorem x_append_own {T T' E s id g n id2 g2 n2 : Nat} {x y : Operand} {es ys : List AV} {z : AV} (hx : opd A x = some (.sl id g none 0 n)) (hy : opd A y = some (.sl id2 g2 none 0 n2)) (ho : look A (.h id) = some (.obj g 0 s es)) (ho2 : look A (.h id2) = some (.obj g2 0 s ys))
    (hn : n = es.length) (hn2 : n2 = ys.length) (hid : 1000000 ≤ id2) (hne : Loc.beq (.h id) (.h id2) = false) (hT : elemT cx.P T = some (E, s)) (hT' : isSliceK (tyS cx.P T').k = true) (hz : zeroT cx.P E = some (z, s)) (hb : (tyS cx.P E).bytes ≤ 4096) (hc : cellL ys = true)
    (hle : n + ys.length ≤ maxL) (hko : ∀ g, slotOk keep (.h (tid d 0)) (.obj g 0 s (es ++ ys)) = true) (hk : ∀ g, slotOk keep (.t d) (.sl (tid d 0) g none 0 (n + ys.length)) = true)
    (h : ∀ g', XR cx keep ops0 r ((.t d, .sl (tid d 0) g' none 0 (n + ys.length)) :: (.h (tid d 0), .obj g' 0 s (es ++ ys)) :: (.h id, .dead g) :: (.h id2, .dead g2) :: A) fun A' lg => Q A' ((rds x ++ (rds y ++ [.h id2, .h id, .h (tid d 0)]), [.h id2, .h id, .h (tid d 0), .t d]) :: lg)) :
    XR cx keep ops0 (⟨some d, .call ⟨.builtin .append, #[x, y], #[T, T']⟩, ty, pos, aft, none⟩ :: r) A Q := by
  obtain ⟨h1, h2, h3, h4⟩ := zeroT_ok hz
  subst hn hn2
  refine x_opG (v := fun g' => .sl (tid d 0) g' none 0 (es.length + ys.length)) (ws := fun g' => [(.h id2, .dead g2), (.h id, .dead g), (.h (tid d 0), .obj g' 0 s (es ++ ys))]) (ls := rds x ++ (rds y ++ [.h id2, .h id, .h (tid d 0)])) rfl ?_
    (fun g => tRefs_cons (by simp [slotOk, refOkV]) (tRefs_cons (by simp [slotOk, refOkV]) (tRefs_cons (hko g) (tRefs_one (hk g))))) (fun g => rfl) (fun g => wk_put4 _ _ _ _ _ _ _ _ _) h
  simp only [aopV, dstOf]
  refine wpW_bind (wpW_up (show wpA (CW cx) A (.ret d) _ from ?_))
  show wpW (CW cx) (puts A []) _ _
  refine wpW_bind (wpW_need hT' (wpW_bind (wpW_rdO hx (wpW_bind (wpW_rdO hy ?_)))))
  unfold appendA
  refine wpW_bind (wpW_elem hT (wpW_bind (wpW_need ⟨hb, h3, h4⟩ (wpW_bind ?_))))
  simp only [srcA]
  refine wpW_bind (wpW_node ho2 (wpW_bind (wpW_need h2.symm ?_)))
  rw [if_pos (by simp [hid])]
  refine wpW_bind (wpW_wr (wpW_pure ?_))
  refine wpW_bind (wpW_need hc ?_)
  have ho' : look (puts (puts A ([] ++ ([] ++ ([] ++ [(Mv.Loc.h id2, AV.dead g2)] ++ [])))) []) (.h id) = some (.obj g 0 s es) := by
    show look (put A (.h id2) (.dead g2)) (.h id) = _
    rw [look_put, hne]
    simpa using ho
  simp only
  refine wpW_bind (wpW_node (by
    show look (put A (.h id2) (.dead g2)) (.h id) = _
    rw [look_put, hne]
    simpa using ho) (wpW_bind (wpW_need ⟨rfl, Nat.le_refl _, h2.symm, hle⟩ (wpW_bind (wpW_wr (wpW_bind (wpW_stamp fun o => wpW_bind (wpW_wr (wpW_pure ?_)))))))))
  exact ⟨stamp o + 1, rfl, by simp, by simp⟩

/-- what is appended is read only -/
theorem x_append_read {T T' E s id g n : Nat} {x y : Operand} {es ys : List AV} {z : AV} (hx : opd A x = some (.sl id g none 0 n)) (hy : opd A y = some (.list ys)) (ho : look A (.h id) = some (.obj g 0 s es))
    (hn : n = es.length) (hT : elemT cx.P T = some (E, s)) (hT' : isSliceK (tyS cx.P T').k = true) (hz : zeroT cx.P E = some (z, s)) (hb : (tyS cx.P E).bytes ≤ 4096) (hc : cellL ys = true) (hsz : sizedL s ys = true)
    (hle : n + ys.length ≤ maxL) (hko : ∀ g, slotOk keep (.h (tid d 0)) (.obj g 0 s (es ++ ys)) = true) (hk : ∀ g, slotOk keep (.t d) (.sl (tid d 0) g none 0 (n + ys.length)) = true)
    (h : ∀ g', XR cx keep ops0 r ((.t d, .sl (tid d 0) g' none 0 (n + ys.length)) :: (.h (tid d 0), .obj g' 0 s (es ++ ys)) :: (.h id, .dead g) :: A) fun A' lg => Q A' ((rds x ++ (rds y ++ [.h id, .h (tid d 0)]), [.h id, .h (tid d 0), .t d]) :: lg)) :
    XR cx keep ops0 (⟨some d, .call ⟨.builtin .append, #[x, y], #[T, T']⟩, ty, pos, aft, none⟩ :: r) A Q := by
  obtain ⟨h1, h2, h3, h4⟩ := zeroT_ok hz
  subst hn
  refine x_opG (v := fun g' => .sl (tid d 0) g' none 0 (es.length + ys.length)) (ws := fun g' => [(.h id, .dead g), (.h (tid d 0), .obj g' 0 s (es ++ ys))]) (ls := rds x ++ (rds y ++ [.h id, .h (tid d 0)])) rfl ?_
    (fun g => tRefs_cons (by simp [slotOk, refOkV]) (tRefs_cons (hko g) (tRefs_one (hk g)))) (fun g => rfl) (fun g => wk_put3 _ _ _ _ _ _ _) h
  simp only [aopV, dstOf]
  refine wpW_bind (wpW_up (show wpA (CW cx) A (.ret d) _ from ?_))
  show wpW (CW cx) (puts A []) _ _
  refine wpW_bind (wpW_need hT' (wpW_bind (wpW_rdO hx (wpW_bind (wpW_rdO hy ?_)))))
  unfold appendA
  refine wpW_bind (wpW_elem hT (wpW_bind (wpW_need ⟨hb, h3, h4⟩ (wpW_bind ?_))))
  simp only [srcA]
  refine wpW_bind (wpW_up (show wpA (CW cx) _ (.ret ys) _ from ?_))
  show wpW (CW cx) _ _ _
  refine wpW_bind (wpW_need (by rw [h2]; exact hsz) (wpW_pure ?_))
  refine wpW_bind (wpW_need hc ?_)
  refine wpW_bind (wpW_node ho (wpW_bind (wpW_need ⟨rfl, Nat.le_refl _, h2.symm, hle⟩ (wpW_bind (wpW_wr (wpW_bind (wpW_stamp fun o => wpW_bind (wpW_wr (wpW_pure ?_)))))))))
  exact ⟨stamp o + 1, rfl, by simp, by simp⟩

/-- into nothing -/
theorem x_append_nil {T T' E s id2 g2 n2 : Nat} {x y : Operand} {ys : List AV} {z : AV} (hx : opd A x = some .nil) (hy : opd A y = some (.sl id2 g2 none 0 n2)) (ho2 : look A (.h id2) = some (.obj g2 0 s ys))
    (hn2 : n2 = ys.length) (hid : 1000000 ≤ id2) (hT : elemT cx.P T = some (E, s)) (hT' : isSliceK (tyS cx.P T').k = true) (hz : zeroT cx.P E = some (z, s)) (hb : (tyS cx.P E).bytes ≤ 4096) (hc : cellL ys = true)
    (hle : ys.length ≤ maxL) (hko : ∀ g, slotOk keep (.h (tid d 0)) (.obj g 0 s ys) = true) (hk : ∀ g, slotOk keep (.t d) (.sl (tid d 0) g none 0 ys.length) = true)
    (h : ∀ g', XR cx keep ops0 r ((.t d, .sl (tid d 0) g' none 0 ys.length) :: (.h (tid d 0), .obj g' 0 s ys) :: (.h id2, .dead g2) :: A) fun A' lg => Q A' ((rds x ++ (rds y ++ [.h id2, .h (tid d 0)]), [.h id2, .h (tid d 0), .t d]) :: lg)) :
    XR cx keep ops0 (⟨some d, .call ⟨.builtin .append, #[x, y], #[T, T']⟩, ty, pos, aft, none⟩ :: r) A Q := by
  obtain ⟨h1, h2, h3, h4⟩ := zeroT_ok hz
  subst hn2
  refine x_opG (v := fun g' => .sl (tid d 0) g' none 0 ys.length) (ws := fun g' => [(.h id2, .dead g2), (.h (tid d 0), .obj g' 0 s ys)]) (ls := rds x ++ (rds y ++ [.h id2, .h (tid d 0)])) rfl ?_
    (fun g => tRefs_cons (by simp [slotOk, refOkV]) (tRefs_cons (hko g) (tRefs_one (hk g)))) (fun g => rfl) (fun g => wk_put3 _ _ _ _ _ _ _) h
  simp only [aopV, dstOf]
  refine wpW_bind (wpW_up (show wpA (CW cx) A (.ret d) _ from ?_))
  show wpW (CW cx) (puts A []) _ _
  refine wpW_bind (wpW_need hT' (wpW_bind (wpW_rdO hx (wpW_bind (wpW_rdO hy ?_)))))
  unfold appendA
  refine wpW_bind (wpW_elem hT (wpW_bind (wpW_need ⟨hb, h3, h4⟩ (wpW_bind ?_))))
  simp only [srcA]
  refine wpW_bind (wpW_node ho2 (wpW_bind (wpW_need h2.symm ?_)))
  rw [if_pos (by simp [hid])]
  refine wpW_bind (wpW_wr (wpW_pure ?_))
  refine wpW_bind (wpW_need hc ?_)
  simp only
  refine wpW_bind (wpW_need hle (wpW_bind (wpW_stamp fun o => wpW_bind (wpW_wr (wpW_pure ?_)))))
  exact ⟨stamp o + 1, rfl, by simp [h2], by simp⟩

/-! ### store -/
theorem x_store {T id g m s i j : Nat} {a x : Operand} {es : List AV} {e v : AV} (ha : opd A a = some (.ptr id g none i j)) (hx : opd A x = some v) (ho : look A (.h id) = some (.obj g m s es)) (he : es[i]? = some e)
    (hl : layV ((leaves e).drop j) v = true) (hc : m ≠ 2 ∧ (leaves v).length = (tyS cx.P T).size ∧ 0 < (leaves v).length ∧ j + (leaves v).length ≤ (leaves e).length ∧ ownsFit (leaves v) ((leaves e).drop j) = true)
    (hko : slotOk keep (.h id) (.obj g m s (es.set i (putAt e j v))) = true)
    (h : XR cx keep ops0 r ((.h id, .obj g m s (es.set i (putAt e j v))) :: A) fun A' lg => Q A' ((rds a ++ (rds x ++ [.h id, .h id, .h id]), [.h id]) :: lg)) :
    XR cx keep ops0 (⟨none, .store T a x, ty, pos, aft, none⟩ :: r) A Q := by
  have hns : isSlN v = false := by
    cases v with
    | sl => simp [layV, layLeaf] at hl
    | _ => rfl
  refine x_op (v := .undef) (ws := [(.h id, .obj g m s (es.set i (putAt e j v)))]) (ls := rds a ++ (rds x ++ [.h id, .h id, .h id])) rfl ?_ (tRefs_one hko) (wk_put1 _ _ _) h
  simp only [aopV]
  refine wpW_bind (wpW_need (by simp) (wpW_bind (wpW_rdO ha (wpW_bind (wpW_rdO hx (wpW_bind ?_))))))
  unfold storeV
  rw [if_neg (by rw [hns]; decide)]
  unfold storeA
  refine wpW_bind (wpW_node ho ?_)
  simp only [he, if_true]
  refine wpW_bind (wpW_lay hl (wpW_bind (wpW_node ho ?_)))
  simp only [he]
  refine wpW_bind (wpW_need (by simp [hc.1, hc.2.1, hc.2.2.2.1, hc.2.2.2.2]; have := hc.2.2.1; omega) (wpW_bind (wpW_up ?_)))
  simp only [wrNode]
  have e0 : puts (puts (puts (puts (puts (puts (puts A []) []) []) []) []) []) [] = A := rfl
  rw [e0, wpA_read ho]
  simp only [wpA_ret]
  refine wpW_wr (wpW_pure ?_)
  exact ⟨rfl, by simp, by simp⟩

/-- into a slice, the whole element -/
theorem x_store_map {α : Type} [Inhabited α] {f : α → AV} {xs : List α} {y : α} {T id g m s i : Nat} {a x : Operand} (ha : opd A a = some (.ptr id g none i 0)) (hx : opd A x = some (f y)) (ho : look A (.h id) = some (.obj g m s (xs.map f))) (hi : i < xs.length)
    (hf : ∀ a b, layV (leaves (f b)) (f a) = true ∧ (leaves (f a)).length = (tyS cx.P T).size ∧ 0 < (leaves (f a)).length ∧ (leaves (f a)).length ≤ (leaves (f b)).length ∧ ownsFit (leaves (f a)) (leaves (f b)) = true ∧ putAt (f b) 0 (f a) = f a) (hm : m ≠ 2)
    (hko : slotOk keep (.h id) (.obj g m s ((xs.set i y).map f)) = true)
    (h : XR cx keep ops0 r ((.h id, .obj g m s ((xs.set i y).map f)) :: A) fun A' lg => Q A' ((rds a ++ (rds x ++ [.h id, .h id, .h id]), [.h id]) :: lg)) :
    XR cx keep ops0 (⟨none, .store T a x, ty, pos, aft, none⟩ :: r) A Q := by
  obtain ⟨q1, q2, q3, q4, q5, q6⟩ := hf y (xs[i]'hi)
  have he : (xs.map f)[i]? = some (f (xs[i]'hi)) := by rw [List.getElem?_map, List.getElem?_eq_getElem hi]; rfl
  have hs : (xs.map f).set i (putAt (f (xs[i]'hi)) 0 (f y)) = (xs.set i y).map f := by rw [q6, List.map_set]
  refine x_store ha hx ho he (by simpa using q1) ⟨hm, q2, q3, by simpa using q4, by simpa using q5⟩ (by rw [hs]; exact hko) ?_
  rw [hs]
  exact h

/-- a function value -/
theorem x_makeFunc {k : Nat} {caps : Array Operand} {vs : List AV} (hv : opds A caps.toList = some vs) (hk : slotOk keep (.t d) (.clo k vs) = true)
    (h : XR cx keep ops0 r ((.t d, .clo k vs) :: A) fun A' lg => Q A' ((rdsL caps.toList, [.t d]) :: lg)) : XR cx keep ops0 (⟨some d, .makeFunc (.func k) #[] caps, ty, pos, aft, none⟩ :: r) A Q :=
  x_val (fun o ho => by simp only [aopV, ho]) (by
    simp only [opV, wpA_bind, wpA_need]
    refine ⟨rfl, wpA_rdOs _ hv _ ?_⟩
    simp only [wpA_ret, List.append_nil, List.nil_append, and_self]) hk h

/-- a struct -/
def partsF (A : Asr) (place : Nat → Option (Nat × Nat)) (fs : List AV) : List (Nat × Operand) → Option (List AV)
  | [] => some fs
  | (i, x) :: r => match opd A x, place i with
    | some v, some (off, size) => if okPart v = true ∧ (leaves v).length = size ∧ off + size ≤ fs.length then partsF A place (fs.take off ++ leaves v ++ fs.drop (off + size)) r else none
    | _, _ => none

theorem wpA_parts {C : Caller} {place : Nat → Option (Nat × Nat)} : ∀ (ps : List (Nat × Operand)) (fs : List AV) {fs' : List AV}, partsF A place fs ps = some fs' → ∀ {R : List AV → List Mv.Loc → Prop}, R fs' (rdsL (ps.map (·.2))) → wpA C A (fillParts place fs ps) R := by
  intro ps
  induction ps with
  | nil => intro fs fs' h R hr; simp only [partsF, Option.some.injEq] at h; subst h; exact hr
  | cons p ps ih =>
    intro fs fs' h R hr
    obtain ⟨i, x⟩ := p
    simp only [partsF] at h
    split at h
    · rename_i v off size hv hp
      split at h
      · rename_i hc
        simp only [fillParts, wpA_bind, wpA_rdO hv, hp, wpA_need]
        refine ⟨hc, ih _ h ?_⟩
        simpa [rdsL] using hr
      · cases h
    · cases h

theorem x_build {T : Nat} {ps : Array (Nat × Operand)} {fl : List (Nat × Nat)} {zs fs : List AV} (hT : (tyS cx.P T).k = .struct fl) (hz : (tyS cx.P T).zero = .agg zs) (hb : (fl.all fun f => !isBad (tyS cx.P f.2).k) = true)
    (hf : partsF A (fun i => (fl[i]?).map fun f => (f.1, (tyS cx.P f.2).size)) zs ps.toList = some fs) (hk : slotOk keep (.t d) (.agg fs) = true)
    (h : XR cx keep ops0 r ((.t d, .agg fs) :: A) fun A' lg => Q A' ((rdsL (ps.toList.map (·.2)), [.t d]) :: lg)) : XR cx keep ops0 (⟨some d, .build T ps, ty, pos, aft, none⟩ :: r) A Q :=
  x_val (fun o ho => by simp only [aopV, ho]) (by
    simp only [opV, buildA, hT, hz, wpA_bind, wpA_need]
    refine ⟨hb, wpA_parts _ _ hf ?_⟩
    simp only [wpA_ret, List.append_nil, List.nil_append, and_self]) hk h
end
end Go.Mv
end

section
namespace Go.Mv
open Go

/-- a row that its matrix owns -/
abbrev oI (xs : List Int) : AV := .own 1 (xs.map iV)

theorem noRef_oI (xs : List Int) : noRefEl (oI xs) = true := rfl

section
variable {cx : Cx} {keep : List Nat} {ops0 : Array Oper} {r : List Oper} {A : Asr} {Q : Asr → List Log → Prop} {d : Nat} {ty : Nat} {pos : String} {aft : Array Edge}

theorem optNat_none {C : Caller} {n : Nat} : wpA C A (optNat none n) fun m ls => m = n ∧ ls = [] := ⟨rfl, rfl⟩
theorem optNat_some {C : Caller} {x : Operand} {k : IntKind} {n : Int} {dflt : Nat} (h : opd A x = some (.val (.int k n))) (hn : 0 ≤ n) : wpA C A (optNat (some x) dflt) fun m ls => m = n.toNat ∧ ls = rds x := by
  simp only [optNat, wpA_bind, wpA_rdO h, wpA_asNat hn, List.append_nil, and_self]

theorem leafAt_map {α : Type} [Inhabited α] {f : α → AV} {xs : List α} {i j : Nat} {l : AV} (hi : i < xs.length) (h : (leaves (f (xs.getD i default)))[j]? = some l) : leafAt (xs.map f) i j = some l := by
  unfold leafAt
  rw [List.getElem?_map, List.getElem?_eq_getElem hi]
  rw [List.getD_eq_getElem?_getD, List.getElem?_eq_getElem hi] at h
  exact h

theorem wpA_nodeP {C : Caller} {id g m s0 i j s : Nat} {es ys : List AV} (ho : look A (.h id) = some (.obj g m s0 es)) (hl : leafAt es i j = some (.own s ys)) (R : Nat × Nat × List AV → List Mv.Loc → Prop) :
    wpA C A (rdNode id g (some (i, j))) R = R (m, s, ys) [.h id] := by
  simp only [rdNode, wpA_read ho, wpA_bind, wpA_need, hl, wpA_ret, true_and, List.append_nil]

theorem wpW_nodeP {C : Caller} {id g m s0 i j s : Nat} {es ys : List AV} (ho : look A (.h id) = some (.obj g m s0 es)) (hl : leafAt es i j = some (.own s ys)) {R : Nat × Nat × List AV → Ws → List Mv.Loc → Prop} (hr : R (m, s, ys) [] [.h id]) :
    wpW C A (up (rdNode id g (some (i, j)))) R := wpW_up (by rw [wpA_nodeP ho hl]; exact hr)

/-- the same rules where the index is a natural number -/
theorem x_index_listN {α : Type} [Inhabited α] {x i : Operand} {T E s : Nat} {f : α → AV} {xs : List α} {k : IntKind} {n : Nat} (hx : opd A x = some (.list (xs.map f))) (hi : opd A i = some (.val (.int k (n : Int))))
    (hT : elemT cx.P T = some (E, s)) (hs : ∀ a, (leaves (f a)).length = s) (hn : n < xs.length)
    (h : XR cx keep ops0 r ((.t d, .ipt (f (xs.getD n default)) 0) :: A) fun A' lg => Q A' ((rds x ++ rds i, [.t d]) :: lg)) : XR cx keep ops0 (⟨some d, .indexAddr T x i, ty, pos, aft, none⟩ :: r) A Q :=
  x_index_list hx hi hT hs (by omega) (by rw [Int.toNat_natCast]; exact h)

theorem x_index_slN {x i : Operand} {T E s id g m ln n : Nat} {es : List AV} {k : IntKind} (hx : opd A x = some (.sl id g none 0 ln)) (hi : opd A i = some (.val (.int k (n : Int)))) (ho : look A (.h id) = some (.obj g m s es))
    (hT : elemT cx.P T = some (E, s)) (hn : n < ln) (hl : ln ≤ es.length) (hk : slotOk keep (.t d) (.ptr id g none n 0) = true)
    (h : XR cx keep ops0 r ((.t d, .ptr id g none n 0) :: A) fun A' lg => Q A' ((rds x ++ (rds i ++ [.h id]), [.t d]) :: lg)) : XR cx keep ops0 (⟨some d, .indexAddr T x i, ty, pos, aft, none⟩ :: r) A Q := by
  have e : 0 + (n : Int).toNat = n := by simp
  exact x_index_sl hx hi ho hT (by omega) (by omega) (by rw [e]; exact hk) (by rw [e]; exact h)

theorem x_index_sl0 {x i : Operand} {T E s id g m ln : Nat} {n : Int} {es : List AV} {k : IntKind} (hx : opd A x = some (.sl id g none 0 ln)) (hi : opd A i = some (.val (.int k n))) (ho : look A (.h id) = some (.obj g m s es))
    (hT : elemT cx.P T = some (E, s)) (hn : 0 ≤ n ∧ n < ln) (hl : ln ≤ es.length) (hk : slotOk keep (.t d) (.ptr id g none n.toNat 0) = true)
    (h : XR cx keep ops0 r ((.t d, .ptr id g none n.toNat 0) :: A) fun A' lg => Q A' ((rds x ++ (rds i ++ [.h id]), [.t d]) :: lg)) : XR cx keep ops0 (⟨some d, .indexAddr T x i, ty, pos, aft, none⟩ :: r) A Q := by
  have e : 0 + n.toNat = n.toNat := Nat.zero_add _
  exact x_index_sl hx hi ho hT hn (by omega) (by rw [e]; exact hk) (by rw [e]; exact h)

/-- into an owned part -/
theorem x_index_part {x k : Operand} {T E s id g m s0 i j off ln : Nat} {es ys : List AV} {kk : IntKind} {n : Int} (hx : opd A x = some (.sl id g (some (i, j)) off ln)) (hi : opd A k = some (.val (.int kk n))) (ho : look A (.h id) = some (.obj g m s0 es)) (hl : leafAt es i j = some (.own s ys))
    (hT : elemT cx.P T = some (E, s)) (hn : 0 ≤ n ∧ n < ln) (hle : off + ln ≤ ys.length) (hk : slotOk keep (.t d) (.ptr id g (some (i, j)) (off + n.toNat) 0) = true)
    (h : XR cx keep ops0 r ((.t d, .ptr id g (some (i, j)) (off + n.toNat) 0) :: A) fun A' lg => Q A' ((rds x ++ (rds k ++ [.h id]), [.t d]) :: lg)) : XR cx keep ops0 (⟨some d, .indexAddr T x k, ty, pos, aft, none⟩ :: r) A Q := by
  refine x_val (fun o ho => by simp only [aopV, ho]) ?_ hk h
  have hs := elemT_size hT
  have h2 : n.toNat < ln := by omega
  simp only [opV, wpA_bind, wpA_rdO hx, wpA_rdO hi, indexAddrA, wpA_asNat hn.1, (wpA_elemOf hT _).1, wpA_nodeP ho hl, wpA_need, wpA_ret, List.append_nil, List.nil_append, true_and, h2, hle, hs, and_self, List.singleton_append]

theorem x_load_part {a : Operand} {T id g m s0 i j s b c : Nat} {es ys : List AV} {e v : AV} (ha : opd A a = some (.ptr id g (some (i, j)) b c)) (ho : look A (.h id) = some (.obj g m s0 es)) (hl : leafAt es i j = some (.own s ys)) (he : ys[b]? = some e)
    (hp : partF cx.P T (viewLeaves id g (some (i, j)) b c ((leaves e).drop c)) = some v) (hk : slotOk keep (.t d) v = true)
    (h : XR cx keep ops0 r ((.t d, v) :: A) fun A' lg => Q A' ((rds a ++ [.h id], [.t d]) :: lg)) : XR cx keep ops0 (⟨some d, .load T a, ty, pos, aft, none⟩ :: r) A Q :=
  x_val (fun o ho => by simp only [aopV, ho]) (by simp only [opV, wpA_bind, wpA_rdO ha, loadA, wpA_nodeP ho hl, he, wpA_partOf hp, List.append_nil, and_self]) hk h

theorem getElem?_map_getD {α : Type} [Inhabited α] {f : α → AV} {xs : List α} {i : Nat} (hi : i < xs.length) : (xs.map f)[i]? = some (f (xs.getD i default)) := by
  rw [List.getElem?_map, List.getElem?_eq_getElem hi, List.getD_eq_getElem?_getD, List.getElem?_eq_getElem hi]; rfl

/-- a number out of a row of an owned matrix -/
theorem x_load_row {rows : List (List Int)} {a : Operand} {T id g m s0 i b : Nat} (ha : opd A a = some (.ptr id g (some (i, 0)) b 0)) (ho : look A (.h id) = some (.obj g m s0 (rows.map oI))) (hi : i < rows.length) (hb : b < (rows.getD i default).length)
    (hT : partF cx.P T [iV ((rows.getD i default).getD b default)] = some (iV ((rows.getD i default).getD b default)))
    (h : XR cx keep ops0 r ((.t d, iV ((rows.getD i default).getD b default)) :: A) fun A' lg => Q A' ((rds a ++ [.h id], [.t d]) :: lg)) : XR cx keep ops0 (⟨some d, .load T a, ty, pos, aft, none⟩ :: r) A Q :=
  x_load_part ha ho (leafAt_map hi rfl) (getElem?_map_getD hb) hT (by simp [slotOk, refOkV, refsOk]) h

theorem x_index_row {rows : List (List Int)} {x k : Operand} {T E id g m s0 i ln : Nat} {kk : IntKind} {n : Int} (hx : opd A x = some (.sl id g (some (i, 0)) 0 ln)) (hi : opd A k = some (.val (.int kk n))) (ho : look A (.h id) = some (.obj g m s0 (rows.map oI))) (hr : i < rows.length)
    (hT : elemT cx.P T = some (E, 1)) (hln : ln = ((rows.getD i default).map iV).length) (hn : 0 ≤ n ∧ n < (rows.getD i default).length) (hk : slotOk keep (.t d) (.ptr id g (some (i, 0)) n.toNat 0) = true)
    (h : XR cx keep ops0 r ((.t d, .ptr id g (some (i, 0)) n.toNat 0) :: A) fun A' lg => Q A' ((rds x ++ (rds k ++ [.h id]), [.t d]) :: lg)) : XR cx keep ops0 (⟨some d, .indexAddr T x k, ty, pos, aft, none⟩ :: r) A Q := by
  have e0 : 0 + n.toNat = n.toNat := Nat.zero_add _
  subst hln
  exact x_index_part hx hi ho (leafAt_map hr rfl) hT (by simpa using hn) (by simp) (by rw [e0]; exact hk) (by rw [e0]; exact h)

theorem x_index_rowN {rows : List (List Int)} {x k : Operand} {T E id g m s0 i ln n : Nat} {kk : IntKind} (hx : opd A x = some (.sl id g (some (i, 0)) 0 ln)) (hi : opd A k = some (.val (.int kk (n : Int)))) (ho : look A (.h id) = some (.obj g m s0 (rows.map oI))) (hr : i < rows.length)
    (hT : elemT cx.P T = some (E, 1)) (hln : ln = ((rows.getD i default).map iV).length) (hn : n < (rows.getD i default).length) (hk : slotOk keep (.t d) (.ptr id g (some (i, 0)) n 0) = true)
    (h : XR cx keep ops0 r ((.t d, .ptr id g (some (i, 0)) n 0) :: A) fun A' lg => Q A' ((rds x ++ (rds k ++ [.h id]), [.t d]) :: lg)) : XR cx keep ops0 (⟨some d, .indexAddr T x k, ty, pos, aft, none⟩ :: r) A Q :=
  x_index_row hx hi ho hr hT hln (by omega) (by rw [Int.toNat_natCast]; exact hk) (by rw [Int.toNat_natCast]; exact h)

/-- a number into a row of an owned matrix -/
theorem x_store_row {rows : List (List Int)} {a x : Operand} {T id g m s0 i b : Nat} {v : Int} (ha : opd A a = some (.ptr id g (some (i, 0)) b 0)) (hx : opd A x = some (iV v)) (ho : look A (.h id) = some (.obj g m s0 (rows.map oI))) (hi : i < rows.length) (hb : b < (rows.getD i default).length)
    (hT : (tyS cx.P T).size = 1) (hm : m ≠ 2) (hko : slotOk keep (.h id) (.obj g m s0 ((rows.set i ((rows.getD i default).set b v)).map oI)) = true)
    (h : XR cx keep ops0 r ((.h id, .obj g m s0 ((rows.set i ((rows.getD i default).set b v)).map oI)) :: A) fun A' lg => Q A' ((rds a ++ (rds x ++ [.h id, .h id, .h id]), [.h id]) :: lg)) :
    XR cx keep ops0 (⟨none, .store T a x, ty, pos, aft, none⟩ :: r) A Q := by
  have hl : leafAt (rows.map oI) i 0 = some (.own 1 ((rows.getD i default).map iV)) := leafAt_map hi rfl
  have he : ((rows.getD i default).map iV)[b]? = some (iV ((rows.getD i default).getD b default)) := getElem?_map_getD hb
  have hrow : (rows.map oI)[i]? = some (oI (rows.getD i default)) := getElem?_map_getD hi
  have hset : (rows.map oI).set i (oI ((rows.getD i default).set b v)) = (rows.set i ((rows.getD i default).set b v)).map oI := by rw [List.map_set]
  have hset2 : ((rows.getD i default).map iV).set b (iV v) = ((rows.getD i default).set b v).map iV := by rw [List.map_set]
  refine x_op (v := .undef) (ws := [(.h id, .obj g m s0 ((rows.set i ((rows.getD i default).set b v)).map oI))]) (ls := rds a ++ (rds x ++ [.h id, .h id, .h id])) rfl ?_ (tRefs_one hko) (wk_put1 _ _ _) h
  simp only [aopV]
  refine wpW_bind (wpW_need (by simp) (wpW_bind (wpW_rdO ha (wpW_bind (wpW_rdO hx (wpW_bind ?_))))))
  unfold storeV
  rw [if_neg (by simp [isSlN])]
  unfold storeA
  refine wpW_bind (wpW_nodeP ho hl ?_)
  simp only [he]
  refine wpW_bind (wpW_lay (by rfl) (wpW_bind (wpW_nodeP ho hl ?_)))
  simp only [he]
  have himm : immL (((rows.getD i default).map iV).set b (putAt (iV ((rows.getD i default).getD b default)) 0 (iV v))) = true := by
    show immL (((rows.getD i default).map iV).set b (iV v)) = true
    rw [hset2]
    exact imm_map fun _ => rfl
  refine wpW_bind (wpW_need (by simp only [hT, himm]; exact ⟨trivial, hm, rfl, Nat.one_pos, Nat.le_refl _, rfl, .inr trivial⟩) (wpW_bind (wpW_up ?_)))
  simp only [wrNode]
  have e0 : puts (puts (puts (puts (puts (puts (puts A []) []) []) []) []) []) [] = A := rfl
  rw [e0, wpA_read ho]
  simp only [hrow, hl, wpA_ret]
  refine wpW_wr (wpW_pure ?_)
  refine ⟨rfl, ?_, by simp⟩
  have : putAt (oI (rows.getD i default)) 0 (.own 1 (((rows.getD i default).map iV).set b (putAt (iV ((rows.getD i default).getD b default)) 0 (iV v)))) = oI ((rows.getD i default).set b v) := by
    show AV.own 1 (((rows.getD i default).map iV).set b (iV v)) = _
    rw [hset2]
  simp only [List.nil_append, List.append_nil]
  rw [this, hset]
end

theorem outs_nil {A : Asr} : OutsA A [] [] := trivial
theorem outs_one {A : Asr} {cid m s : Nat} {o : List AV} (h : look A (.h cid) = some (.obj 1 m s o)) (hi : immL o = true) : OutsA A [(cid, m, s)] [o] := ⟨h, hi, trivial⟩

/-! ### functions whose answer is told by a property -/
def FnP (cx : Cx) (rs : List ResultVar) (cids : List Cid) (P : AV → List (List AV) → Prop) : AExit → Asr → Prop := fun r A =>
  match r with
  | .exit _ => False
  | _ => ∃ res outs, P res outs ∧ RetA cx rs cids A res outs

theorem fn_introP {cx : Cx} {f : Nat} {fn : Func} {c : Code} {as : List AV} {P : AV → List (List AV) → Prop} {keep : List Nat} (hx : cx.ext f = none) (hf : cx.P.funcs[f]? = some fn) (hb : fn.body = some c)
    (hc : dstsOk fn.ntmps c = true ∧ as.length = fn.params.size + fn.nfree ∧ as.length ≤ fn.ntmps ∧ as.length ≤ 1000 ∧ (fn.name == "runtime.NumGoroutine") = false) (hk : keepOf fn = keep)
    (h : XA cx keep c (initA (cx.md f) 0 as) (FnP cx fn.results.toList (cidAll (cx.md f) 0 as) P)) : ∃ res outs, P res outs ∧ CW cx f as = some (res, outs) := by
  subst hk
  obtain ⟨n, r, st', h1, A', h2, h3⟩ := h _ (sat_init hc.2.2.2.1)
  have key : (∃ res outs, P res outs ∧ RetA cx fn.results.toList (cidAll (cx.md f) 0 as) A' res outs) → (∀ i, r ≠ .exit i) → ∃ res outs, P res outs ∧ CW cx f as = some (res, outs) := by
    rintro ⟨res, outs, hP, hR⟩ hr
    refine ⟨res, outs, hP, CW_intro cx (n := n) ?_⟩
    obtain ⟨us, ws, ls, k1, k2, rfl⟩ := hR _ h2
    unfold acallF
    simp only [hx, hf, hb]
    rw [if_pos hc, h1]
    cases r with
    | exit i => exact (hr i rfl).elim
    | normal => simp only [k1, k2]
    | ret => simp only [k1, k2]
  cases r with
  | exit i => exact h3.elim
  | normal => exact key h3 (by intro i e; cases e)
  | ret => exact key h3 (by intro i e; cases e)

/-- a variable of the frame's own, given back -/
theorem ret_box {cx : Cx} {A : Asr} {t id g s j : Nat} {es : List AV} (hv : look A (.t t) = some (.ptr id g none 0 j)) (hob : look A (.h id) = some (.obj g 3 s es)) (hi : immL es = true)
    {cids : List Cid} {outs : List (List AV)} (ho : OutsA (put A (.h id) (.dead g)) cids outs) : RetA cx [.tmp t] cids A (.ownp es 0 j) outs :=
  ret_of (wpW_all (wpW_retTmp hv (wpW_ret1Box hob hi (wpW_pure ⟨rfl, ho⟩))))
end Go.Mv
end

section
namespace Go.Mv
open Go

/-- a row that may not be there yet -/
def oN : Option (List Int) → AV
  | none => .nil
  | some r => oI r
theorem oN_noRef (x : Option (List Int)) : noRefEl (oN x) = true := by cases x <;> rfl
theorem oN_leaves (x : Option (List Int)) : (leaves (oN x)).length = 1 := by cases x <;> rfl

section
variable {cx : Cx} {keep : List Nat} {ops0 : Array Oper} {r : List Oper} {A : Asr} {Q : Asr → List Log → Prop} {d : Nat} {ty : Nat} {pos : String} {aft : Array Edge}

/-- an object of the frame's becomes an owned part -/
theorem wpW_takeIn {C : Caller} {f id g s n : Nat} {ys : List AV} (ho : look A (.h id) = some (.obj g 0 s ys)) (hn : n = ys.length) (hi : immL ys = true) {R : AV → Ws → List Mv.Loc → Prop} (hr : R (.own s ys) [(.h id, .dead g)] [.h id]) :
    wpW C A (absorbLeaf 0 .nil f (.sl id g none 0 n)) R := by
  subst hn
  have hnr : noRefL ys = true := by
    unfold noRefL
    rw [List.all_eq_true]
    intro e he
    have hie : immEl e = true := List.all_eq_true.1 hi e he
    cases e <;> simp_all [immEl, noRefEl]
  unfold absorbLeaf
  simp only [show ¬ ((0 : Nat) = 3) from by decide, if_false, isNil, and_self, if_true]
  refine wpW_bind (wpW_node ho ?_)
  simp only [if_true]
  refine wpW_bind (wpW_need ⟨Nat.le_refl _, hnr⟩ (wpW_bind (wpW_wr (wpW_pure ?_))))
  rw [List.take_length, frzL_of_imm hi]
  simpa using hr

theorem x_build_own1 {T E id g s n : Nat} {x : Operand} {z : AV} {ys : List AV} (hx : opd A x = some (.sl id g none 0 n)) (ho : look A (.h id) = some (.obj g 0 s ys)) (hn : n = ys.length) (hi : immL ys = true) (hT : elemT cx.P T = some (E, 1)) (hz : zeroT cx.P E = some (z, 1))
    (hne : Loc.beq (.h (tid d 0)) (.h id) = false) (hko : ∀ g, slotOk keep (.h (tid d 0)) (.obj g 0 1 [.own s ys]) = true) (hk : ∀ g, slotOk keep (.t d) (.sl (tid d 0) g none 0 1) = true)
    (h : ∀ g', XR cx keep ops0 r ((.t d, .sl (tid d 0) g' none 0 1) :: (.h (tid d 0), .obj g' 0 1 [.own s ys]) :: (.h id, .dead g) :: A) fun A' lg => Q A' ((rds x ++ [.h id, .h (tid d 0)], [.h id, .h (tid d 0), .t d]) :: lg)) :
    XR cx keep ops0 (⟨some d, .buildSlice T 1 #[(0, x)], ty, pos, aft, none⟩ :: r) A Q := by
  obtain ⟨h1, h2, h3, h4⟩ := zeroT_ok hz
  refine x_opG (v := fun g => .sl (tid d 0) g none 0 1) (ws := fun g' => [(.h id, .dead g), (.h (tid d 0), .obj g' 0 1 [.own s ys])]) (ls := rds x ++ [.h id, .h (tid d 0)]) rfl ?_ (fun g => tRefs_cons (by simp [slotOk, refOkV]) (tRefs_cons (hko g) (tRefs_one (hk g)))) (fun g => rfl) (fun g => wk_put3 _ _ _ _ _ _ _) h
  simp only [aopV, dstOf]
  refine wpW_bind (wpW_up (show wpA (CW cx) A (.ret d) _ from ?_))
  show wpW (CW cx) (puts A []) _ _
  refine wpW_bind (wpW_elem hT (wpW_bind (wpW_need ⟨by rw [h2]; decide, h3, h4, by rw [h2]; decide⟩ ?_)))
  simp only [h1, h2]
  refine wpW_bind ?_
  simp only [fillEls]
  refine wpW_bind (wpW_rdO hx (wpW_bind (wpW_need (by simp [leaves]) ?_)))
  refine wpW_bind ?_
  simp only [absorb, List.replicate, List.headD]
  refine wpW_takeIn ho hn hi (wpW_pure ?_)
  refine wpW_bind (wpW_stamp fun o => wpW_bind (wpW_wr (wpW_pure ?_)))
  exact ⟨stamp o + 1, rfl, by simp, by simp⟩

/-- a row comes into its matrix -/
theorem x_store_new {opts : List (Option (List Int))} {T id g i id2 g2 n : Nat} {a x : Operand} {row : List Int} (ha : opd A a = some (.ptr id g none i 0)) (hx : opd A x = some (.sl id2 g2 none 0 n)) (ho : look A (.h id) = some (.obj g 0 1 (opts.map oN)))
    (ho2 : look A (.h id2) = some (.obj g2 0 1 (row.map iV))) (hn : n = (row.map iV).length) (hi : i < opts.length) (hnil : opts.getD i none = none) (hne : Loc.beq (.h id) (.h id2) = false) (hT : (tyS cx.P T).size = 1)
    (hko : slotOk keep (.h id) (.obj g 0 1 ((opts.set i (some row)).map oN)) = true)
    (h : XR cx keep ops0 r ((.h id, .obj g 0 1 ((opts.set i (some row)).map oN)) :: (.h id2, .dead g2) :: A) fun A' lg => Q A' ((rds a ++ (rds x ++ [.h id, .h id, .h id2, .h id, .h id]), [.h id2, .h id]) :: lg)) :
    XR cx keep ops0 (⟨none, .store T a x, ty, pos, aft, none⟩ :: r) A Q := by
  have he : (opts.map oN)[i]? = some .nil := by
    rw [List.getElem?_map, List.getElem?_eq_getElem hi]
    rw [List.getD_eq_getElem?_getD, List.getElem?_eq_getElem hi] at hnil
    simp only [Option.getD_some] at hnil
    simp [hnil, oN]
  have hset : (opts.map oN).set i (.own 1 (row.map iV)) = (opts.set i (some row)).map oN := by rw [List.map_set]; rfl
  refine x_op (v := .undef) (ws := [(.h id2, .dead g2), (.h id, .obj g 0 1 ((opts.set i (some row)).map oN))]) (ls := rds a ++ (rds x ++ [.h id, .h id, .h id2, .h id, .h id])) rfl ?_ (tRefs_cons (by simp [slotOk, refOkV]) (tRefs_one hko)) (wk_put2 _ _ _ _ _) h
  simp only [aopV]
  refine wpW_bind (wpW_need (by simp) (wpW_bind (wpW_rdO ha (wpW_bind (wpW_rdO hx (wpW_bind ?_))))))
  unfold storeV
  rw [if_pos (show isSlN (.sl id2 g2 none 0 n) = true from rfl)]
  unfold storeR
  refine wpW_bind (wpW_node ho ?_)
  dsimp only
  rw [if_neg (show ¬ (0 : Nat) = 3 by decide)]
  unfold storeA
  refine wpW_bind (wpW_node ho ?_)
  simp only [he, if_true]
  refine wpW_bind ?_
  simp only [absorb, leaves, List.drop_zero, List.headD]
  refine wpW_takeIn ho2 hn (imm_map fun _ => rfl) ?_
  have ho' : look (put A (.h id2) (.dead g2)) (.h id) = some (.obj g 0 1 (opts.map oN)) := by
    rw [look_put, hne]
    simpa using ho
  refine wpW_bind (wpW_node ho' ?_)
  simp only [he]
  refine wpW_bind (wpW_need (by simp [hT, ownsFit, isOwn, isNil]) (wpW_bind (wpW_up ?_)))
  simp only [wrNode]
  have e0 : puts (puts (puts (puts (puts (puts (puts (puts A []) []) []) []) []) [(Mv.Loc.h id2, AV.dead g2)]) []) [] = put A (.h id2) (.dead g2) := rfl
  rw [e0, wpA_read ho']
  simp only [wpA_ret]
  refine wpW_wr (wpW_pure ?_)
  refine ⟨rfl, ?_, by simp⟩
  have : putAt .nil 0 (.own 1 (row.map iV)) = .own 1 (row.map iV) := rfl
  simp [this, hset]

/-- copy into a row of an owned matrix -/
theorem x_copy_row {rows : List (List Int)} {ys : List Int} {x y : Operand} {T T' E id g i n : Nat} (hx : opd A x = some (.sl id g (some (i, 0)) 0 n)) (hy : opd A y = some (.list (ys.map iV))) (ho : look A (.h id) = some (.obj g 0 1 (rows.map oI))) (hi : i < rows.length)
    (hn : n = ((rows.getD i default).map iV).length) (hl : ys.length = (rows.getD i default).length) (hm : ys.length ≤ maxL) (hT : elemT cx.P T = some (E, 1)) (hko : slotOk keep (.h id) (.obj g 0 1 ((rows.set i ys).map oI)) = true)
    (h : XR cx keep ops0 r ((.t d, iV ys.length) :: (.h id, .obj g 0 1 ((rows.set i ys).map oI)) :: A) fun A' lg => Q A' ((rds x ++ (rds y ++ [.h id, .h id]), [.h id, .t d]) :: lg)) :
    XR cx keep ops0 (⟨some d, .call ⟨.builtin .copy, #[x, y], #[T, T']⟩, ty, pos, aft, none⟩ :: r) A Q := by
  have hlf : leafAt (rows.map oI) i 0 = some (.own 1 ((rows.getD i default).map iV)) := leafAt_map hi rfl
  have hrow : (rows.map oI)[i]? = some (oI (rows.getD i default)) := getElem?_map_getD hi
  have hs := elemT_size hT
  subst hn
  refine x_op (v := iV ys.length) (ws := [(.h id, .obj g 0 1 ((rows.set i ys).map oI))]) (ls := rds x ++ (rds y ++ [.h id, .h id])) rfl ?_ (tRefs_cons hko (tRefs_one (by simp [slotOk, refOkV, refsOk]))) (wk_put2 _ _ _ _ _) h
  simp only [aopV]
  refine wpW_bind (wpW_rdO hx (wpW_bind (wpW_rdO hy ?_)))
  unfold copyA
  refine wpW_bind (wpW_elem hT (wpW_bind (wpW_up (show wpA (CW cx) _ (.ret (ys.map iV)) _ from ?_))))
  show wpW (CW cx) _ _ _
  have hp : plainL (ys.map iV) = true := by
    unfold plainL
    rw [List.all_map, List.all_eq_true]
    exact fun _ _ => rfl
  have hz : sizedL (tyS cx.P E).size (ys.map iV) = true := by
    rw [hs]
    unfold sizedL
    rw [List.all_map, List.all_eq_true]
    exact fun _ _ => rfl
  refine wpW_bind (wpW_need ⟨hp, hz⟩ ?_)
  have hmin : min (ys.map iV).length ((rows.getD i default).map iV).length = ys.length := by simp [hl]
  refine wpW_bind (wpW_nodeP ho hlf ?_)
  simp only [hmin]
  have hno : noOwnB ((((rows.getD i default).map iV).drop 0).take ys.length) = true := by
    unfold noOwnB
    rw [List.all_eq_true]
    intro e he
    have := List.mem_of_mem_drop (List.mem_of_mem_take he)
    obtain ⟨n, _, rfl⟩ := List.mem_map.1 this
    rfl
  refine wpW_bind (wpW_need ⟨by decide, rfl, by simp, hs.symm, hno, hm⟩ (wpW_bind (wpW_up ?_)))
  have hnew : ((rows.getD i default).map iV).take 0 ++ (ys.map iV).take ys.length ++ ((rows.getD i default).map iV).drop (0 + ys.length) = ys.map iV := by
    rw [List.take_zero, List.nil_append, List.take_of_length_le (by simp), List.drop_eq_nil_of_le (by simp [hl]), List.append_nil]
  simp only [hnew, wrNode]
  rw [wpA_read (v := .obj g 0 1 (rows.map oI)) (by exact ho)]
  simp only [hrow, hlf, wpA_ret]
  refine wpW_bind (wpW_wr (wpW_pure ?_))
  refine ⟨rfl, ?_, by simp⟩
  have : (rows.map oI).set i (putAt (oI (rows.getD i default)) 0 (.own 1 (ys.map iV))) = (rows.set i ys).map oI := by
    show (rows.map oI).set i (oI ys) = _
    rw [List.map_set]
  simp only [List.nil_append, List.append_nil]
  rw [this]

/-- a row that was made becomes the one row of a slice -/
theorem x_build_row {T E id g n : Nat} {x : Operand} {z : AV} {row : List Int} (hx : opd A x = some (.sl id g none 0 n)) (ho : look A (.h id) = some (.obj g 0 1 (row.map iV))) (hn : n = (row.map iV).length) (hT : elemT cx.P T = some (E, 1)) (hz : zeroT cx.P E = some (z, 1))
    (hne : Loc.beq (.h (tid d 0)) (.h id) = false) (hk : ∀ g, slotOk keep (.t d) (.sl (tid d 0) g none 0 1) = true)
    (h : ∀ g', XR cx keep ops0 r ((.t d, .sl (tid d 0) g' none 0 1) :: (.h (tid d 0), .obj g' 0 1 (List.map oI [row])) :: (.h id, .dead g) :: A) fun A' lg => Q A' ((rds x ++ [.h id, .h (tid d 0)], [.h id, .h (tid d 0), .t d]) :: lg)) :
    XR cx keep ops0 (⟨some d, .buildSlice T 1 #[(0, x)], ty, pos, aft, none⟩ :: r) A Q :=
  x_build_own1 hx ho hn (imm_map fun _ => rfl) hT hz hne (fun _ => slot_obj rfl) hk h

theorem x_append_map {α : Type} {f : α → AV} {xs ys : List α} {T T' E s id g n id2 g2 n2 : Nat} {x y : Operand} {z : AV} (hx : opd A x = some (.sl id g none 0 n)) (hy : opd A y = some (.sl id2 g2 none 0 n2)) (ho : look A (.h id) = some (.obj g 0 s (xs.map f))) (ho2 : look A (.h id2) = some (.obj g2 0 s (ys.map f)))
    (hn : n = (xs.map f).length) (hn2 : n2 = (ys.map f).length) (hid : 1000000 ≤ id2) (hne : Loc.beq (.h id) (.h id2) = false) (hT : elemT cx.P T = some (E, s)) (hT' : isSliceK (tyS cx.P T').k = true) (hz : zeroT cx.P E = some (z, s)) (hb : (tyS cx.P E).bytes ≤ 4096) (hf : ∀ a, (leaves (f a)).all cellLeaf = true ∧ noRefEl (f a) = true)
    (hle : xs.length + ys.length ≤ maxL) (hk : ∀ g, slotOk keep (.t d) (.sl (tid d 0) g none 0 (xs ++ ys).length) = true)
    (h : ∀ g', XR cx keep ops0 r ((.t d, .sl (tid d 0) g' none 0 (xs ++ ys).length) :: (.h (tid d 0), .obj g' 0 s ((xs ++ ys).map f)) :: (.h id, .dead g) :: (.h id2, .dead g2) :: A) fun A' lg => Q A' ((rds x ++ (rds y ++ [.h id2, .h id, .h (tid d 0)]), [.h id2, .h id, .h (tid d 0), .t d]) :: lg)) :
    XR cx keep ops0 (⟨some d, .call ⟨.builtin .append, #[x, y], #[T, T']⟩, ty, pos, aft, none⟩ :: r) A Q := by
  have e1 : n + (ys.map f).length = (xs ++ ys).length := by rw [hn, List.length_map, List.length_map, List.length_append]
  refine x_append_own hx hy ho ho2 hn hn2 hid hne hT hT' hz hb (cellL_map fun a => (hf a).1) (by rw [hn, List.length_map, List.length_map]; exact hle) (fun g => slot_obj ?_) (fun g => by rw [e1]; exact hk g) ?_
  · rw [← List.map_append]; exact noRef_map fun a => (hf a).2
  · intro g'
    rw [e1, ← List.map_append]
    exact h g'

theorem x_append_listM {α : Type} {f : α → AV} {xs ys : List α} {T T' E s id g n : Nat} {x y : Operand} {z : AV} (hx : opd A x = some (.sl id g none 0 n)) (hy : opd A y = some (.list (ys.map f))) (ho : look A (.h id) = some (.obj g 0 s (xs.map f)))
    (hn : n = (xs.map f).length) (hT : elemT cx.P T = some (E, s)) (hT' : isSliceK (tyS cx.P T').k = true) (hz : zeroT cx.P E = some (z, s)) (hb : (tyS cx.P E).bytes ≤ 4096) (hf : ∀ a, (leaves (f a)).all cellLeaf = true ∧ noRefEl (f a) = true ∧ (leaves (f a)).length = s)
    (hle : xs.length + ys.length ≤ maxL) (hk : ∀ g, slotOk keep (.t d) (.sl (tid d 0) g none 0 (xs ++ ys).length) = true)
    (h : ∀ g', XR cx keep ops0 r ((.t d, .sl (tid d 0) g' none 0 (xs ++ ys).length) :: (.h (tid d 0), .obj g' 0 s ((xs ++ ys).map f)) :: (.h id, .dead g) :: A) fun A' lg => Q A' ((rds x ++ (rds y ++ [.h id, .h (tid d 0)]), [.h id, .h (tid d 0), .t d]) :: lg)) :
    XR cx keep ops0 (⟨some d, .call ⟨.builtin .append, #[x, y], #[T, T']⟩, ty, pos, aft, none⟩ :: r) A Q := by
  have e1 : n + (ys.map f).length = (xs ++ ys).length := by rw [hn, List.length_map, List.length_map, List.length_append]
  refine x_append_read hx hy ho hn hT hT' hz hb (cellL_map fun a => (hf a).1) ?_ (by rw [hn, List.length_map, List.length_map]; exact hle) (fun g => slot_obj ?_) (fun g => by rw [e1]; exact hk g) ?_
  · unfold sizedL
    rw [List.all_map, List.all_eq_true]
    intro a _
    simpa using (hf a).2.2
  · rw [← List.map_append]; exact noRef_map fun a => (hf a).2.1
  · intro g'
    rw [e1, ← List.map_append]
    exact h g'

theorem x_append_nilM {α : Type} {f : α → AV} {ys : List α} {T T' E s id2 g2 n2 : Nat} {x y : Operand} {z : AV} (hx : opd A x = some .nil) (hy : opd A y = some (.sl id2 g2 none 0 n2)) (ho2 : look A (.h id2) = some (.obj g2 0 s (ys.map f)))
    (hn2 : n2 = (ys.map f).length) (hid : 1000000 ≤ id2) (hT : elemT cx.P T = some (E, s)) (hT' : isSliceK (tyS cx.P T').k = true) (hz : zeroT cx.P E = some (z, s)) (hb : (tyS cx.P E).bytes ≤ 4096) (hf : ∀ a, (leaves (f a)).all cellLeaf = true ∧ noRefEl (f a) = true)
    (hle : ys.length ≤ maxL) (hk : ∀ g, slotOk keep (.t d) (.sl (tid d 0) g none 0 ys.length) = true)
    (h : ∀ g', XR cx keep ops0 r ((.t d, .sl (tid d 0) g' none 0 ys.length) :: (.h (tid d 0), .obj g' 0 s (ys.map f)) :: (.h id2, .dead g2) :: A) fun A' lg => Q A' ((rds x ++ (rds y ++ [.h id2, .h (tid d 0)]), [.h id2, .h (tid d 0), .t d]) :: lg)) :
    XR cx keep ops0 (⟨some d, .call ⟨.builtin .append, #[x, y], #[T, T']⟩, ty, pos, aft, none⟩ :: r) A Q := by
  have e1 : (ys.map f).length = ys.length := List.length_map ..
  refine x_append_nil hx hy ho2 hn2 hid hT hT' hz hb (cellL_map fun a => (hf a).1) (by rw [e1]; exact hle) (fun g => slot_obj (noRef_map fun a => (hf a).2)) (fun g => by rw [e1]; exact hk g) ?_
  intro g'
  rw [e1]
  exact h g'
end

theorem pa_keep_map {A : Asr} {α : Type} {f : α → AV} {xs : List α} {C : Caller} {md id g s n : Nat} (hmd : md = 3) (ho : look A (.h id) = some (.obj g 0 s (xs.map f))) (hn : n = (xs.map f).length) (hf : ∀ a, immEl (f a) = true) :
    PassArg C A md (.sl id g none 0 n) (.list (xs.map f)) [(id, true)] [(.h id, .obj g 2 s (xs.map f))] [.h id] := by
  have hr : noRefL (xs.map f) = true := noRef_map fun a => by
    have := hf a
    cases hfa : f a <;> rw [hfa] at this <;> simp_all [immEl, noRefEl]
  have := pa_keep (C := C) hmd ho hn hr
  rwa [frzL_map hf] at this

theorem frzL_oI (m : List (List Int)) : frzL (m.map oI) = m.map fun xs => .list (xs.map iV) := by
  rw [frzL_eq, List.map_map]
  refine List.map_congr_left fun xs _ => ?_
  show AV.list (frzL (xs.map iV)) = _
  rw [frzL_map fun _ => rfl]

/-- a matrix lent to be read -/
theorem pa_lend_rows {A : Asr} {m : List (List Int)} {C : Caller} {md id g k s n : Nat} (hmd : md = 0) (ho : look A (.h id) = some (.obj g k s (m.map oI))) (hb : bxB k none = false) (hn : n = (m.map oI).length) :
    PassArg C A md (.sl id g none 0 n) (.list (m.map fun xs => .list (xs.map iV))) [(id, false)] [] [.h id] := by
  have := pa_lend (C := C) hmd ho hb hn (noRef_map noRef_oI)
  rwa [frzL_oI] at this
theorem pa_keep_rows {A : Asr} {m : List (List Int)} {C : Caller} {md id g s n : Nat} (hmd : md = 3) (ho : look A (.h id) = some (.obj g 0 s (m.map oI))) (hn : n = (m.map oI).length) :
    PassArg C A md (.sl id g none 0 n) (.list (m.map fun xs => .list (xs.map iV))) [(id, true)] [(.h id, .obj g 2 s (m.map fun xs => .list (xs.map iV)))] [.h id] := by
  have := pa_keep (C := C) hmd ho hn (noRef_map noRef_oI)
  rwa [frzL_oI] at this
end Go.Mv
end

section
/- Plain facts: lists, readers of codes, distances. -/
namespace Go.Mv
open Go

/-- how parameters are handed over -/
def mdOf (tb : List (Nat × List Nat)) (f i : Nat) : Nat := match tb.find? (fun x => x.1 == f) with
  | some x => x.2.getD i 0
  | none => 0
/-- functions of the library -/
def extOf (tb : List (Nat × (List AV → Option (AV × List (List AV))))) (f : Nat) : Option (List AV → Option (AV × List (List AV))) := match tb.find? (fun x => x.1 == f) with
  | some x => some x.2
  | none => none
def unI : List AV → Option (List Int)
  | [] => some []
  | .val (.int .i64 n) :: r => (unI r).map (n :: ·)
  | _ => none
theorem unI_map (xs : List Int) : unI (xs.map iV) = some xs := by
  induction xs with
  | nil => rfl
  | cons x xs ih => simp [unI, ih]
def insI (x : Int) : List Int → List Int
  | [] => [x]
  | y :: r => if x ≤ y then x :: y :: r else y :: insI x r
def sortI : List Int → List Int
  | [] => []
  | x :: r => insI x (sortI r)
theorem insI_length (x : Int) (r : List Int) : (insI x r).length = r.length + 1 := by
  induction r with
  | nil => rfl
  | cons y r ih => simp only [insI]; split <;> simp [ih]
@[simp] theorem sortI_length (xs : List Int) : (sortI xs).length = xs.length := by
  induction xs with
  | nil => rfl
  | cons x r ih => simp [sortI, insI_length, ih]
def extClone : List AV → Option (AV × List (List AV))
  | [.list es] => if es.length ≤ maxL then (unI es).map fun xs => (.own 1 (xs.map iV), []) else none
  | _ => none
def extSort : List AV → Option (AV × List (List AV))
  | [.own 1 es] => if es.length ≤ maxL then (unI es).map fun xs => (.tup [], [(sortI xs).map iV]) else none
  | _ => none

abbrev L (xs : List Int) : AV := .list (xs.map iV)
abbrev M (xs : List (List Int)) : AV := .list (xs.map L)
theorem list_ext_getD {α : Type} {d : α} {xs ys : List α} (hl : xs.length = ys.length) (h : ∀ j, j < xs.length → xs.getD j d = ys.getD j d) : xs = ys := by
  apply List.ext_getElem hl
  intro i h1 h2
  have := h i h1
  simpa [List.getD_eq_getElem?_getD, List.getElem?_eq_getElem h1, List.getElem?_eq_getElem h2] using this
theorem len_getD {xs : List (List Int)} {k : Nat} (h : ∀ x ∈ xs, x.length ≤ k) (i : Nat) (h0 : 0 ≤ k) : (xs.getD i []).length ≤ k := by
  rw [List.getD_eq_getElem?_getD]
  cases hx : xs[i]? with
  | none => simp
  | some x => exact h x (List.mem_of_getElem? hx)
theorem default_nil {α : Type} : (default : List α) = [] := rfl

theorem sized_map {α : Type} {f : α → AV} {s : Nat} {xs : List α} (h : ∀ a, (leaves (f a)).length = s) : sizedL s (xs.map f) = true := by
  unfold sizedL
  rw [List.all_map, List.all_eq_true]
  intro a _
  simpa using h a

/-- the reader of codes -/
abbrev rdr (bs : List Int) (p : Int) : AV := .agg [.list (bs.map uV), iV p]
def Bytes (bs : List Int) : Prop := ∀ b ∈ bs, 0 ≤ b ∧ b < 256
theorem Bytes.getD {bs : List Int} (h : Bytes bs) (i : Nat) : 0 ≤ bs.getD i default ∧ bs.getD i default < 256 := by
  rw [List.getD_eq_getElem?_getD]
  cases hx : bs[i]? with
  | none => exact ⟨by decide, by decide⟩
  | some x => exact h x (List.mem_of_getElem? hx)
theorem tmod_in {a b : Int} (ha : 0 ≤ a) (hb : 0 < b) : 0 ≤ a.tmod b ∧ a.tmod b < b := ⟨Int.tmod_nonneg _ ha, Int.tmod_lt_of_pos _ hb⟩
theorem tdiv_in {a b : Int} (ha : 0 ≤ a) (hb : 0 ≤ b) : 0 ≤ a.tdiv b ∧ a.tdiv b ≤ a := ⟨Int.tdiv_nonneg ha hb, Int.tdiv_le_self b ha⟩
theorem xor_in {x y : Int} (hx : 0 ≤ x ∧ x < 9223372036854775808) (hy : 0 ≤ y ∧ y < 9223372036854775808) :
    0 ≤ IntKind.i64.wrap ((BitVec.ofInt IntKind.i64.bits x ^^^ BitVec.ofInt IntKind.i64.bits y).toNat) ∧ IntKind.i64.wrap ((BitVec.ofInt IntKind.i64.bits x ^^^ BitVec.ofInt IntKind.i64.bits y).toNat) < 9223372036854775808 := by
  have h1 : (BitVec.ofInt IntKind.i64.bits x ^^^ BitVec.ofInt IntKind.i64.bits y).toNat < 2 ^ 63 := by
    rw [BitVec.toNat_xor]
    refine Nat.xor_lt_two_pow ?_ ?_
    · rw [BitVec.toNat_ofInt]; simp only [IntKind.bits]; omega
    · rw [BitVec.toNat_ofInt]; simp only [IntKind.bits]; omega
  generalize (BitVec.ofInt IntKind.i64.bits x ^^^ BitVec.ofInt IntKind.i64.bits y).toNat = n at h1
  have : IntKind.i64.wrap (n : Int) = n := wrap_in (inI64 (by omega))
  rw [this]
  omega
theorem getD_mem {xs : List Int} {i : Nat} (h : i < xs.length) : xs.getD i default ∈ xs := by
  rw [List.getD_eq_getElem?_getD, List.getElem?_eq_getElem h]
  exact List.getElem_mem h

@[simp] theorem hasListL_iV (xs : List Int) : hasListL (xs.map iV) = false := by
  induction xs with
  | nil => rfl
  | cons x xs ih => simp [hasListL, hasList, ih]
@[simp] theorem hasListL_oI (xs : List (List Int)) : hasListL (xs.map oI) = false := by
  induction xs with
  | nil => rfl
  | cons x xs ih => simp [hasListL, hasList, ih]

/-! ### distances -/
def G (gs : List (List Int)) (i j : Nat) : Int := (gs.getD i default).getD j default
def CellOk (gs : List (List Int)) (a b : Nat) : Prop := 1 ≤ G gs a b ∧ G gs a b ≤ 40 ∧ G gs b a = G gs a b
def RowOk (gs : List (List Int)) (a : Nat) : Prop := (gs.getD a default).length = gs.length ∧ G gs a a = 0 ∧ ∀ b, b < a → CellOk gs a b
def VG (gs : List (List Int)) : Prop := (∀ a, a < gs.length → RowOk gs a) ∧ 1 ≤ gs.length ∧ gs.length ≤ 6
noncomputable def vg (gs : List (List Int)) : Bool := @decide (VG gs) (Classical.propDecidable _)
theorem vg_t {gs : List (List Int)} (h : VG gs) : vg gs = true := by unfold vg; exact @decide_eq_true _ (Classical.propDecidable _) h
theorem vg_f {gs : List (List Int)} (h : ¬ VG gs) : vg gs = false := by unfold vg; exact @decide_eq_false _ (Classical.propDecidable _) h

theorem vg_iff {gs : List (List Int)} : vg gs = true ↔ VG gs := by
  unfold vg
  exact @decide_eq_true_iff _ (Classical.propDecidable _)
theorem vg_iff' {gs : List (List Int)} : vg gs = false ↔ ¬ VG gs := by
  unfold vg
  exact @decide_eq_false_iff_not _ (Classical.propDecidable _)

/-- no distance is greater than both others of a triangle -/
def UM (gs : List (List Int)) : Prop := ∀ a b c, a < gs.length → b < gs.length → c < gs.length → G gs a b ≤ max (G gs a c) (G gs c b)
noncomputable def um (gs : List (List Int)) : Bool := @decide (UM gs) (Classical.propDecidable _)
theorem um_t {gs : List (List Int)} (h : UM gs) : um gs = true := by unfold um; exact @decide_eq_true _ (Classical.propDecidable _) h
theorem um_f {gs : List (List Int)} (h : ¬ UM gs) : um gs = false := by unfold um; exact @decide_eq_false _ (Classical.propDecidable _) h
theorem um_iff {gs : List (List Int)} : um gs = true ↔ UM gs := by
  unfold um
  exact @decide_eq_true_iff _ (Classical.propDecidable _)
def T3 (x y z : Int) : Prop := x ≤ max y z ∧ y ≤ max x z ∧ z ≤ max x y
def Tri (gs : List (List Int)) (i k j : Nat) : Prop := T3 (G gs i k) (G gs i j) (G gs k j)
theorem sort3 (x y z : Int) : (sortI [x, y, z]).getD 1 default = (sortI [x, y, z]).getD 2 default ↔ T3 x y z := by
  unfold T3
  simp only [sortI, insI]
  by_cases h1 : y ≤ z <;> by_cases h2 : x ≤ y <;> by_cases h3 : x ≤ z <;> simp [insI, h1, h2, h3] <;> omega
theorem VG.sym {gs : List (List Int)} (h : VG gs) {a b : Nat} (ha : a < gs.length) (hb : b < gs.length) : G gs a b = G gs b a := by
  rcases Nat.lt_trichotomy a b with hlt | rfl | hlt
  · exact ((h.1 b hb).2.2 a hlt).2.2
  · rfl
  · exact (((h.1 a ha).2.2 b hlt).2.2).symm
theorem VG.pos {gs : List (List Int)} (h : VG gs) {a b : Nat} (ha : a < gs.length) (hb : b < gs.length) : 0 ≤ G gs a b ∧ G gs a b ≤ 40 := by
  rcases Nat.lt_trichotomy a b with hlt | rfl | hlt
  · have := (h.1 b hb).2.2 a hlt
    obtain ⟨h1, h2, h3⟩ := this
    omega
  · have := (h.1 a ha).2.1
    omega
  · have := (h.1 a ha).2.2 b hlt
    obtain ⟨h1, h2, h3⟩ := this
    omega
theorem VG.row {gs : List (List Int)} (h : VG gs) {a : Nat} (ha : a < gs.length) : (gs.getD a default).length = gs.length := (h.1 a ha).1
theorem UM.tri {gs : List (List Int)} (hv : VG gs) (h : UM gs) {i k j : Nat} (hi : i < gs.length) (hk : k < gs.length) (hj : j < gs.length) : Tri gs i k j := by
  have h1 := h i k j hi hk hj
  have h2 := h i j k hi hj hk
  have h3 := h k j i hk hj hi
  have s1 := hv.sym hi hk
  have s2 := hv.sym hi hj
  have s3 := hv.sym hk hj
  unfold Tri T3
  omega
theorem tri_um {gs : List (List Int)} (hv : VG gs) (h : ∀ i, i < gs.length → ∀ k, k < i → ∀ j, j < k → Tri gs i k j) : UM gs := by
  have key : ∀ a b c, a < gs.length → b < gs.length → c < gs.length → a ≠ b → a ≠ c → b ≠ c → Tri gs a b c := by
    have sw1 : ∀ a b c, a < gs.length → b < gs.length → c < gs.length → Tri gs a b c → Tri gs b a c := by
      intro a b c ha hb hc ht
      have := hv.sym ha hb
      unfold Tri T3 at *
      omega
    have sw2 : ∀ a b c, a < gs.length → b < gs.length → c < gs.length → Tri gs a b c → Tri gs a c b := by
      intro a b c ha hb hc ht
      have := hv.sym hb hc
      unfold Tri T3 at *
      omega
    intro a b c ha hb hc h1 h2 h3
    rcases Nat.lt_or_ge a b with q1 | q1 <;> rcases Nat.lt_or_ge a c with q2 | q2 <;> rcases Nat.lt_or_ge b c with q3 | q3
    · exact sw1 _ _ _ hb ha hc (sw2 _ _ _ hb hc ha (sw1 _ _ _ hc hb ha (h c hc b q3 a q1)))
    · exact sw1 _ _ _ hb ha hc (sw2 _ _ _ hb hc ha (h b hb c (by omega) a q2))
    · omega
    · exact sw1 _ _ _ hb ha hc (h b hb a q1 c (by omega))
    · exact sw2 _ _ _ ha hc hb (sw1 _ _ _ hc ha hb (h c hc a q2 b (by omega)))
    · omega
    · exact sw2 _ _ _ ha hc hb (h a ha c (by omega) b q3)
    · exact h a ha b (by omega) c (by omega)
  intro a b c ha hb hc
  by_cases h1 : a = b
  · subst h1
    have := (hv.1 a ha).2.1
    have h2 := hv.pos ha hc
    omega
  · by_cases h2 : a = c
    · subst h2; omega
    · by_cases h3 : b = c
      · subst h3; omega
      · have := key a b c ha hb hc h1 h2 h3
        unfold Tri T3 at this
        have := hv.sym hb hc
        omega
theorem nilFitL_int {cs : List AV} {n : Int} : nilFitL cs [iV n] = true := by cases cs <;> simp [nilFitL, isNil]
theorem nilFit_int (ys : List Int) : ∀ es, nilFit es (ys.map iV) = true := by
  induction ys with
  | nil => intro es; cases es <;> rfl
  | cons y ys ih =>
    intro es
    cases es with
    | nil => simp only [List.map_cons, nilFit, leaves, Bool.and_eq_true]; exact ⟨nilFitL_int, ih []⟩
    | cons e es => simp only [List.map_cons, nilFit, Bool.and_eq_true]; exact ⟨nilFitL_int, ih es⟩

theorem getD_set {α : Type} {d : α} (l : List α) (i : Nat) (x : α) (j : Nat) (hi : i < l.length) : (l.set i x).getD j d = if j = i then x else l.getD j d := by
  rw [List.getD_eq_getElem?_getD, List.getD_eq_getElem?_getD]
  by_cases h : j = i
  · subst h; simp [List.getElem?_set_self hi]
  · simp [h, List.getElem?_set_ne (Ne.symm h)]
theorem opts_all {opts : List (Option (List Int))} {n : Nat} {row : List Int} (hl : opts.length = n) (h : ∀ i, i < n → opts.getD i none = some row) : opts.map oN = (List.replicate n row).map oI := by
  have : opts = List.replicate n (some row) := by
    refine list_ext_getD (d := none) (by simp [hl]) fun j hj => ?_
    rw [h j (by omega), List.getD_eq_getElem?_getD, List.getElem?_replicate]
    simp [show j < n by omega]
  rw [this]
  simp [List.map_replicate, oN]
theorem getD_replicate {α : Type} {d x : α} {n j : Nat} (h : j < n) : (List.replicate n x).getD j d = x := by
  rw [List.getD_eq_getElem?_getD, List.getElem?_replicate]; simp [h]

/-- a square of numbers -/
def Sq (n : Nat) (m : List (List Int)) : Prop := m.length = n ∧ ∀ a, a < n → (m.getD a default).length = n
def relax (m : List (List Int)) (v i k : Nat) : List (List Int) :=
  m.set i ((m.getD i default).set k (min ((m.getD i default).getD k default) (max ((m.getD i default).getD v default) ((m.getD v default).getD k default))))
def fwIn (m : List (List Int)) (v i : Nat) : Nat → List (List Int)
  | 0 => m
  | k + 1 => relax (fwIn m v i k) v i k
def fwMid (n : Nat) (m : List (List Int)) (v : Nat) : Nat → List (List Int)
  | 0 => m
  | i + 1 => fwIn (fwMid n m v i) v i n
def fwOut (n : Nat) (m : List (List Int)) : Nat → List (List Int)
  | 0 => m
  | v + 1 => fwMid n (fwOut n m v) v n
/-- the least greatest steps, by way of each thing in turn -/
def fw (m : List (List Int)) : List (List Int) := fwOut m.length m m.length
theorem set_sq {n : Nat} {m : List (List Int)} (h : Sq n m) {i : Nat} (hi : i < n) {row : List Int} (hr : row.length = n) : Sq n (m.set i row) := by
  refine ⟨by simp [h.1], fun a ha => ?_⟩
  rw [getD_set _ _ _ _ (by rw [h.1]; exact hi)]
  split
  · exact hr
  · exact h.2 a ha
theorem relax_sq {n : Nat} {m : List (List Int)} (h : Sq n m) {v i k : Nat} (hi : i < n) : Sq n (relax m v i k) := set_sq h hi (by rw [List.length_set]; exact h.2 i hi)
theorem fwIn_sq {n : Nat} {m : List (List Int)} (h : Sq n m) {v i : Nat} (hi : i < n) : ∀ k, Sq n (fwIn m v i k)
  | 0 => h
  | k + 1 => relax_sq (fwIn_sq h hi k) hi
theorem fwMid_sq {n : Nat} {m : List (List Int)} (h : Sq n m) {v : Nat} : ∀ i, i ≤ n → Sq n (fwMid n m v i)
  | 0, _ => h
  | i + 1, hi => fwIn_sq (fwMid_sq h i (by omega)) (by omega) n
theorem fwOut_sq {n : Nat} {m : List (List Int)} (h : Sq n m) : ∀ v, Sq n (fwOut n m v)
  | 0 => h
  | v + 1 => fwMid_sq (fwOut_sq h v) n (Nat.le_refl _)
theorem VG.sq {gs : List (List Int)} (h : VG gs) : Sq gs.length gs := ⟨rfl, fun a ha => h.row ha⟩

theorem gfill_step {α : Type} {d : α} {l : List α} {n b : Nat} {x y : α} (hl : l.length = n) (hb : b < n) (h : ∀ i, i < n → l.getD i d = if i < b then x else y) : ∀ i, i < n → (l.set b x).getD i d = if i < b + 1 then x else y := by
  intro i hi
  rw [getD_set _ _ _ _ (by omega), h i hi]
  by_cases h1 : i = b
  · subst h1; simp
  · simp only [h1, if_false]
    by_cases h2 : i < b
    · rw [if_pos h2, if_pos (by omega)]
    · rw [if_neg h2, if_neg (by omega)]
theorem gfill_stepF {α : Type} {d : α} {l : List α} {n b : Nat} {f : Nat → α} {y : α} (hl : l.length = n) (hb : b < n) (h : ∀ i, i < n → l.getD i d = if i < b then f i else y) : ∀ i, i < n → (l.set b (f b)).getD i d = if i < b + 1 then f i else y := by
  intro i hi
  rw [getD_set _ _ _ _ (by omega), h i hi]
  by_cases h1 : i = b
  · subst h1; simp
  · simp only [h1, if_false]
    by_cases h2 : i < b
    · rw [if_pos h2, if_pos (by omega)]
    · rw [if_neg h2, if_neg (by omega)]

theorem snoc_step {α : Type} {d : α} {m l : List α} {b : Nat} (hm : m.length = b) (h : ∀ i, i < b → m.getD i d = l.getD i d) : ∀ i, i < b + 1 → (m ++ [l.getD b d]).getD i d = l.getD i d := by
  intro i hi
  rcases Nat.lt_succ_iff_lt_or_eq.1 hi with h1 | h1
  · rw [← h i h1, List.getD_eq_getElem?_getD, List.getElem?_append_left (by omega), ← List.getD_eq_getElem?_getD]
  · subst h1
    rw [List.getD_eq_getElem?_getD, List.getElem?_append_right (by omega)]
    simp [hm]

theorem fw_sq {n : Nat} {m : List (List Int)} (h : Sq n m) : Sq n (fw m) := by
  have e := h.1
  subst e
  exact fwOut_sq h _
theorem Sq.le {n k : Nat} {m : List (List Int)} (h : Sq n m) (hk : n ≤ k) (a : Nat) : (m.getD a default).length ≤ k := by
  rcases Nat.lt_or_ge a n with h1 | h1
  · rw [h.2 a h1]; exact hk
  · rw [List.getD_eq_getElem?_getD, List.getElem?_eq_none (by rw [h.1]; exact h1)]
    exact Nat.zero_le _
theorem set_cell_sq {n : Nat} {m : List (List Int)} (h : Sq n m) {i k : Nat} (hi : i < n) {x : Int} : Sq n (m.set i ((m.getD i default).set k x)) := set_sq h hi (by rw [List.length_set]; exact h.2 i hi)

theorem snoc_all {α : Type} {d x : α} {m : List α} {b : Nat} (hm : m.length = b) (h : ∀ i, i < b → m.getD i d = x) : ∀ i, i < b + 1 → (m ++ [x]).getD i d = x := by
  intro i hi
  rcases Nat.lt_succ_iff_lt_or_eq.1 hi with h1 | h1
  · rw [List.getD_eq_getElem?_getD, List.getElem?_append_left (by omega), ← List.getD_eq_getElem?_getD]
    exact h i h1
  · subst h1
    rw [List.getD_eq_getElem?_getD, List.getElem?_append_right (by omega)]
    simp [hm]
end Go.Mv
end

section
namespace Go.Mv
theorem G_relax {n : Nat} {m : List (List Int)} (h : Sq n m) {v i k : Nat} (hi : i < n) (hk : k < n) (a b : Nat) :
    G (relax m v i k) a b = if a = i ∧ b = k then min (G m i k) (max (G m i v) (G m v k)) else G m a b := by
  unfold relax G
  rw [getD_set _ _ _ _ (by rw [h.1]; exact hi)]
  by_cases h1 : a = i
  · subst h1
    rw [if_pos rfl, getD_set _ _ _ _ (by rw [h.2 a hi]; exact hk)]
    by_cases h2 : b = k
    · subst h2; simp
    · simp [h2]
  · rw [if_neg h1, if_neg (by intro h2; exact h1 h2.1)]
def LeG (m m' : List (List Int)) : Prop := ∀ a b, G m a b ≤ G m' a b
theorem LeG.trans {x y z : List (List Int)} (h : LeG x y) (h2 : LeG y z) : LeG x z := fun a b => Int.le_trans (h a b) (h2 a b)
theorem LeG.refl (x : List (List Int)) : LeG x x := fun _ _ => Int.le_refl _
theorem relax_le {n : Nat} {m : List (List Int)} (h : Sq n m) {v i k : Nat} (hi : i < n) (hk : k < n) : LeG (relax m v i k) m := by
  intro a b
  rw [G_relax h hi hk]
  split
  · rename_i h1
    rw [h1.1, h1.2]
    exact Int.min_le_left _ _
  · exact Int.le_refl _
theorem fwIn_le {n : Nat} {m : List (List Int)} (h : Sq n m) {v i : Nat} (hi : i < n) : ∀ k' k, k ≤ k' → k' ≤ n → LeG (fwIn m v i k') (fwIn m v i k)
  | 0, k, h1, _ => by
    have : k = 0 := by omega
    subst this
    exact LeG.refl _
  | k' + 1, k, h1, h2 => by
    rcases Nat.lt_or_ge k' k with h3 | h3
    · have : k = k' + 1 := by omega
      subst this
      exact LeG.refl _
    · exact (relax_le (fwIn_sq h hi k') hi (by omega)).trans (fwIn_le h hi k' k h3 (by omega))
theorem fwMid_le {n : Nat} {m : List (List Int)} (h : Sq n m) {v : Nat} : ∀ k' k, k ≤ k' → k' ≤ n → LeG (fwMid n m v k') (fwMid n m v k)
  | 0, k, h1, _ => by
    have : k = 0 := by omega
    subst this
    exact LeG.refl _
  | k' + 1, k, h1, h2 => by
    rcases Nat.lt_or_ge k' k with h3 | h3
    · have : k = k' + 1 := by omega
      subst this
      exact LeG.refl _
    · exact (fwIn_le (fwMid_sq h k' (by omega)) (by omega) n 0 (by omega) (by omega)).trans (fwMid_le h k' k h3 (by omega))
theorem fwOut_le {n : Nat} {m : List (List Int)} (h : Sq n m) : ∀ k' k, k ≤ k' → LeG (fwOut n m k') (fwOut n m k)
  | 0, k, h1 => by
    have : k = 0 := by omega
    subst this
    exact LeG.refl _
  | k' + 1, k, h1 => by
    rcases Nat.lt_or_ge k' k with h3 | h3
    · have : k = k' + 1 := by omega
      subst this
      exact LeG.refl _
    · exact (fwMid_le (fwOut_sq h k') n 0 (by omega) (by omega)).trans (fwOut_le h k' k h3)
theorem fw_le {n : Nat} {m : List (List Int)} (h : Sq n m) : LeG (fw m) m := by
  have e := h.1
  subst e
  exact fwOut_le h _ 0 (by omega)
end Go.Mv
end

section
/- Functions of the library: what their contracts say, in the words of the relation. -/
namespace Go.Mv
open Go Go.RowKit

section
variable {P : Program} {Γ : Env} {w0 : World} {A O0 : Nat → Prop} {ν0 : Nu} {N : Nat} {F : Fl} {D : Nat → Prop} {st : St} {ν : Nu} {tm : Array Value} {w : World}

theorem leafAt_iV {xs : List Int} {i j : Nat} {l : AV} (h : leafAt (xs.map iV) i j = some l) : ∃ x, xs[i]? = some x ∧ j = 0 ∧ l = iV x := by
  unfold leafAt at h
  rw [List.getElem?_map] at h
  cases hx : xs[i]? with
  | none => simp [hx] at h
  | some x =>
    simp only [hx, Option.map_some] at h
    cases j with
    | zero => simp [leaves] at h; exact ⟨x, rfl, rfl, h.symm⟩
    | succ j => simp [leaves] at h

theorem wstep_below {w' : World} (hmo : Γ.mo → w.drawn ≤ w'.drawn) (h : Below w.heap.size w w') {bt : Nat} : WStep Γ w w' bt :=
  ⟨h.size, h.os, h.tape, h.output, hmo, fun b hb _ => h.block b hb, fun b hb => csize_congr (h.block b hb)⟩

theorem Rel.ownEmpty (R : Rel Γ w0 A O0 ν0 N Fl.emp D st ν tm w) (κ : FK) (s : Nat) : Rel Γ w0 A O0 ν0 N (Fl.emp.set κ (some ⟨fun _ => none, s, []⟩)) D st ν tm w := by
  refine R.ghost (fun _ => rfl) (Ext.refl _ _ _) (fun _ h => h) R.objs R.frozen (fun k f hf => ?_) id ?_ (fun _ _ _ _ h => h) (fun b hb hd => (hd hb).elim) R.io
  · by_cases e : k = κ
    · subst e
      rw [Fl.set_eq] at hf
      cases hf
      exact ⟨rfl, fun i j s' es' h => by simp [leafAt] at h⟩
    · rw [Fl.set_ne _ _ e] at hf; cases hf
  · intro k b o hl hb
    cases k with
    | nd i p => exact ⟨o, hl, hb⟩
    | fl k p =>
      obtain ⟨f, h1, _⟩ := hl
      by_cases e : k = κ
      · subst e
        rw [Fl.set_eq] at h1
        cases h1
        simp [baseOf, Fl.set_eq] at hb
      · rw [Fl.set_ne _ _ e] at h1; cases h1

/-- numbers in a new block -/
theorem Rel.ownNew (R : Rel Γ w0 A O0 ν0 N Fl.emp D st ν tm w) {w' : World} {g : Nat} (W : WStep Γ w w' g) (hg : w.heap.size ≤ g) {c : Array Value} {ety : TypeId}
    (hc : w'.heap[g]? = some (.cells c ety (0, 0))) {xs : List Int} (hsz : xs.length ≤ c.size) (hv : ∀ (i : Nat) (x : Int), xs[i]? = some x → c[i]? = some (Value.int .i64 x)) (κ : FK) :
    Rel Γ w0 A O0 ν0 N (Fl.emp.set κ (some ⟨fun q => match q with | none => some (g, 0) | some _ => none, 1, xs.map iV⟩)) D st ν tm w' := by
  refine R.compose W (fun _ => False) κ (.inl rfl) ⟨fun q => match q with | none => some (g, 0) | some _ => none, 1, xs.map iV⟩ none (fun _ _ => (κ, none)) ⟨0, rfl⟩ (.inl ⟨rfl, hg⟩)
    ?_ ?_ ?_ (fun _ h => by cases h) (Fl.set_eq _ _ _) (fun _ _ h => h.elim) (fun k hk _ => Fl.set_ne _ _ hk)
  · refine ⟨c, ety, hc, by simpa using hsz, fun _ e he => ?_, fun h => h.elim, fun i j l hl => ?_⟩
    · obtain ⟨x, _, rfl⟩ := List.mem_map.1 he
      rfl
    · obtain ⟨x, hx, rfl, rfl⟩ := leafAt_iV hl
      exact ⟨_, by simpa using hv i x hx, RS.data _ _ (.val _)⟩
  · intro i j s' es' hl
    obtain ⟨x, _, _, h⟩ := leafAt_iV hl
    cases h
  · intro i j i' j' s1 e1 s2 e2 hl
    obtain ⟨x, _, _, h⟩ := leafAt_iV hl
    cases h

theorem floOk_one {κ : FK} {f : Flo} {res : AV} (h1 : noRefL f.es = true) (h2 : hasListL f.es = false) : FloOk (Fl.emp.set κ (some f)) res := by
  intro k f' hf
  by_cases e : k = κ
  · subst e
    rw [Fl.set_eq] at hf
    cases hf
    exact ⟨h1, fun _ => h2⟩
  · rw [Fl.set_ne _ _ e] at hf; cases hf

theorem hasListL_map_iV (xs : List Int) : hasListL (xs.map iV) = false := by
  induction xs with
  | nil => rfl
  | cons x xs ih => simp [hasListL, hasList]

/-- the world goes on behind the heap's end -/
theorem Rel.stay (R : Rel Γ w0 A O0 ν0 N F D st ν tm w) {w' : World} {bt : Nat} (W : WStep Γ w w' bt) (hbt : w.heap.size ≤ bt) : Rel Γ w0 A O0 ν0 N F D st ν tm w' := by
  have E := R.extW W
  refine R.world W (.inr hbt) (fun _ => rfl) E (fun id g m s es h => R.objW W (.inr hbt) E h rfl fun p b o hp hb => ?_) R.frozen (fun k f hf => R.floW W (.inr hbt) E hf fun p b o hp hb => ?_) id (fun _ => False)
    (fun k b o hl hb => .inl ⟨fun h => h, o, hl, hb⟩) (fun _ _ _ _ _ _ h => h) (fun _ _ h => h.elim) R.io
  · have := R.hlt h hp hb; omega
  · have := R.live_lt (k := .fl k p) ⟨f, hf, hp⟩ (by simp only [baseOf, hf]; exact hb); omega

/-- slices.Clone -/
theorem contract_clone (hmo : ¬ Γ.mo) {f : Nat} {md : Nat → Nat} (xs : List Int) (hx : xs.length ≤ maxL) {E : TypeId}
    (hcl : ∀ (w : World) (a : Option Addr) (n c : Nat) (news : List Value), news.length = n → n ≤ maxL → (n ≠ 0 → ∃ b o, a = some ⟨b, o, none⟩ ∧ ∀ (j : Nat) u, news[j]? = some u → w.cell? ⟨b, o + j, none⟩ = some u) →
      (∀ u ∈ news, ∃ x, u = Value.int .i64 x) →
      Calls P f #[.slice a n c] w fun e w' => ∃ v', e = .returned v' ∧ w'.ownsRow w.heap.size E 1 v' n news ∧ Below w.heap.size w w') :
    Contract Γ P md f [.list (xs.map iV)] (.own 1 (xs.map iV)) [] := by
  intro w A O0 ν0 D vals hOA R hA
  have h0 := R.slots 0 (by simp)
  have hsz : vals.size = 1 := by simpa using R.size
  obtain ⟨v, rfl⟩ : ∃ v, vals = #[v] := by
    match vals, hsz with
    | ⟨[v]⟩, _ => exact ⟨v, rfl⟩
  have hv : RV w D (.list (xs.map iV)) v := RS.list_inv h0
  cases hv with
  | list _ a cap b o s c hcap ha hs hc hl =>
    have R0 := R.noSlots
    rw [List.length_map] at hcap ⊢
    refine (hcl w a xs.length cap (xs.map (Value.int .i64)) (by simp) hx (fun hne => ?_) (fun u hu => ?_)).mono ?_
    · have hne' : xs.map iV ≠ [] := by
        intro h
        exact hne (by simpa using congrArg List.length h)
      obtain ⟨rfl, _, _⟩ := ha hne'
      refine ⟨b, o, rfl, fun j u hj => ?_⟩
      rw [List.getElem?_map] at hj
      cases hxj : xs[j]? with
      | none => simp [hxj] at hj
      | some x =>
        simp only [hxj, Option.map_some, Option.some.injEq] at hj
        subst hj
        have hlf : leafAt (xs.map iV) j 0 = some (iV x) := by
          unfold leafAt
          rw [List.getElem?_map, hxj]
          rfl
        have h1 := hc j 0 _ hlf
        have h2 := hl j 0 _ hlf
        have hs1 : s = 1 := (hs (iV x) (List.mem_map.2 ⟨x, List.mem_of_getElem? hxj, rfl⟩)).symm
        subst hs1
        have h3 : c j 0 = Value.int .i64 x := by
          generalize c j 0 = u at h2
          cases h2
          rfl
        rw [h3] at h1
        simpa using h1
    · obtain ⟨x, _, rfl⟩ := List.mem_map.1 hu
      exact ⟨x, rfl⟩
    · rintro e w' ⟨v', rfl, ⟨hlen, hown⟩, hB⟩
      have hn1 : noRefL (xs.map iV) = true := noRef_map fun _ => rfl
      rcases hown with ⟨rfl, hn⟩ | ⟨g, cap', cur, rfl, hg, hcell, hcap', _, hcs, htk⟩
      · have hxs : xs = [] := List.length_eq_zero_iff.1 hn
        subst hxs
        refine ⟨_, rfl, _, D, _, ν0, (R0.stay (wstep_below (fun h => (hmo h).elim) hB (bt := w.heap.size)) (Nat.le_refl _)).ownEmpty (5, 0, 0) 1, rfl, .inr (.inr (.inr (.inl ⟨1, [], fun _ => none, rfl, Fl.set_eq _ _ _, rfl, ?_⟩))), floOk_one rfl rfl⟩
        exact ⟨none, 0, rfl, Nat.le_refl _, .inl rfl⟩
      · have hv' : ∀ (i : Nat) (x : Int), xs[i]? = some x → cur[i]? = some (Value.int .i64 x) := by
          intro i x hi
          have h1 : (cur.toList.take (xs.length * 1))[i]? = some (Value.int .i64 x) := by rw [htk, List.getElem?_map, hi]; rfl
          have hlt : i < xs.length := (List.getElem?_eq_some_iff.1 hi).1
          rw [List.getElem?_take, if_pos (by omega)] at h1
          simpa using h1
        refine ⟨_, rfl, _, D, _, ν0, R0.ownNew (wstep_below (fun h => (hmo h).elim) hB) hg hcell (by omega) hv' (5, 0, 0), rfl, .inr (.inr (.inr (.inl ⟨1, xs.map iV, _, rfl, Fl.set_eq _ _ _, hn1, ?_⟩))), floOk_one hn1 (hasListL_map_iV xs)⟩
        refine ⟨_, cap', by rw [List.length_map], by rw [List.length_map]; exact hcap', .inr ⟨g, 0, rfl, by simp, ?_⟩⟩
        have : csize w' g = cur.size := by unfold csize; rw [hcell]
        rw [this, hcs]
        simp

theorem RN.ints {L : AV → Value → Prop} {φ : Path → Base} {b o : Nat} {xs : List Int} {w : World} {bx : Prop} (h : RN w L φ (some (b, o)) bx 1 (xs.map iV)) (hL : ∀ x v, L (iV x) v → v = Value.int .i64 x) :
    ∃ c ety, w.heap[b]? = some (.cells c ety (0, 0)) ∧ o + xs.length ≤ c.size ∧ ∀ (i : Nat) (x : Int), xs[i]? = some x → c[o + i]? = some (Value.int .i64 x) := by
  obtain ⟨c, ety, h1, h2, _, _, h3⟩ := h
  refine ⟨c, ety, h1, by simpa using h2, fun i x hi => ?_⟩
  have hlf : leafAt (xs.map iV) i 0 = some (iV x) := by
    unfold leafAt
    rw [List.getElem?_map, hi]
    rfl
  obtain ⟨v, hv, hr⟩ := h3 i 0 _ hlf
  rw [hL x v hr] at hv
  simpa using hv

theorem putCells_size {α : Type} [Inhabited α] (enc : α → Value) (off : Nat) (d : Array α) (c : Array Value) : (Sort.putCells enc off d c).size = c.size := by simp [Sort.putCells]

/-- slices.Sort at numbers -/
theorem contract_sort {f : Nat} {md : Nat → Nat} (xs ys : List Int) (hx : xs.length ≤ maxL) (hy : ys.length = xs.length) (hmd : md 0 = 1)
    (hnil : ∀ (w : World) (a : Option Addr) (c : Nat), Calls P f #[.slice a 0 c] w fun e w' => e = .returned (.tuple #[]) ∧ w' = w)
    (hrow : ∀ (w : World) (b o c : Nat), Sort.Holds (Value.int .i64) w b o xs.toArray → b < w.heap.size → xs.length ≤ maxL →
      Calls P f #[.slice (some ⟨b, o, none⟩) xs.length c] w fun e w' => e = .returned (.tuple #[]) ∧ ∃ n os, w' = Sort.grow (Sort.putRow (Value.int .i64) (Sort.ahead w n) b o ys.toArray) os) :
    Contract Γ P md f [.own 1 (xs.map iV)] (.tup []) [ys.map iV] := by
  intro w A O0 ν0 D vals hOA R hA
  have h0 := R.slots 0 (by simp)
  have hsz : vals.size = 1 := by simpa using R.size
  obtain ⟨v, rfl⟩ : ∃ v, vals = #[v] := by
    match vals, hsz with
    | ⟨[v]⟩, _ => exact ⟨v, rfl⟩
  have h0' : RS (initLoc md [.own 1 (xs.map iV)]) ν0 w D (.sl 0 1 none 0 (xs.map iV).length) v := h0
  have hob : initLoc md [.own 1 (xs.map iV)] (.h 0) = .obj 1 1 1 (xs.map iV) := by simp [initLoc, hmd]
  have hob2 : noSlots (initLoc md [.own 1 (xs.map iV)]) (.h 0) = .obj 1 1 1 (xs.map iV) := hob
  have hcid : cidAll md 0 [.own 1 (xs.map iV)] = [(0, 1, 1)] := by simp [cidAll, cidArg, hmd]
  have hres : ∀ {F : Fl} {D : Nat → Prop} {w : World}, AllRes F D w (.tup []) (.tuple #[]) := .inl ⟨[], #[], rfl, rfl, rfl, fun k l h => by simp at h⟩
  obtain ⟨⟨a, cap, rfl, hcap⟩, _, _, hS⟩ := h0'.sl_inv
  have hS := hS 1 1 (xs.map iV) (by unfold nodeAt; rw [hob]; simp)
  have R0 := R.noSlots
  rw [List.length_map] at hcap hS ⊢
  by_cases hn : xs = []
  · subst hn
    have hy0 : ys = [] := List.length_eq_zero_iff.1 hy
    subst hy0
    refine (hnil w a cap).mono ?_
    rintro e w' ⟨rfl, rfl⟩
    refine ⟨_, rfl, Fl.emp, D, _, ν0, R0, ?_, hres, fun _ _ h => by cases h⟩
    rw [hcid]
    unfold outsOf
    rw [hob2]
    simp [outsOf, immL]
  · obtain ⟨a', cap', he, _, hb⟩ := hS
    cases he
    have hpos : 0 < xs.length := List.length_pos_iff.2 hn
    rcases hb with hb | ⟨b, o, hν, ha, hbd⟩
    · omega
    · rw [Nat.zero_mul, Nat.add_zero] at ha
      subst ha
      have hRO := R0.objs 0 1 1 1 (xs.map iV) hob2
      have hT := hRO.top
      rw [hν] at hT
      obtain ⟨c, ety, hc1, hc2, hc3⟩ := RN.ints hT (fun x v h => by cases h with | data _ _ h => cases h; rfl)
      have hblt : b < w.heap.size := (Array.getElem?_eq_some_iff.1 hc1).1
      refine (hrow w b o cap (fun j hj => ?_) hblt hx).mono ?_
      · have hj' : j < xs.length := by simpa using hj
        have hget := hc3 j (xs[j]'hj') (List.getElem?_eq_getElem hj')
        refine ⟨?_, ?_⟩
        · unfold World.cell?
          simp only [hc1]
          simp [hget, hj']
        · unfold World.frozen?
          simp only [hc1]
          simp
      · rintro e w' ⟨rfl, n, os, rfl⟩
        have hheap : ∀ k, k < w.heap.size → (Sort.grow (Sort.putRow (Value.int .i64) (Sort.ahead w n) b o ys.toArray) os).heap[k]? =
            if k = b then some (.cells (Sort.putCells (Value.int .i64) o ys.toArray c) ety (0, 0)) else w.heap[k]? := by
          intro k hk
          have h1 : k < (Sort.putRow (Value.int .i64) (Sort.ahead w n) b o ys.toArray).heap.size := by simpa [Sort.ahead] using hk
          simp only [Sort.grow]
          rw [Array.getElem?_append_left h1]
          simp only [Sort.putRow, Sort.mapBlock, Sort.ahead, Array.getElem?_modify]
          by_cases e : b = k
          · subst e
            simp [hc1, Sort.onCells]
          · rw [if_neg e, if_neg (fun h => e h.symm)]
        have W : WStep Γ w (Sort.grow (Sort.putRow (Value.int .i64) (Sort.ahead w n) b o ys.toArray) os) b := by
          refine ⟨by simp [Sort.grow, Sort.ahead], rfl, rfl, rfl, fun _ => by simp [Sort.grow, Sort.putRow, Sort.mapBlock, Sort.ahead], fun k hk hne => ?_, fun k hk => ?_⟩
          · rw [hheap k hk, if_neg hne]
          · unfold csize
            rw [hheap k hk]
            by_cases e : k = b
            · subst e
              rw [if_pos rfl, hc1]
              exact putCells_size _ _ _ _
            · rw [if_neg e]
        have hRN : RN (Sort.grow (Sort.putRow (Value.int .i64) (Sort.ahead w n) b o ys.toArray) os) (RS (noSlots (initLoc md [.own 1 (xs.map iV)])) ν0 w D) (ν0 0) (ν0 0 none) (1 = 3 ∨ 1 = 4) 1 (ys.map iV) := by
          rw [hν]
          refine ⟨_, ety, by rw [hheap b hblt, if_pos rfl], ?_, fun _ e he => ?_, fun h => by simp at h, fun i j l hl => ?_⟩
          · rw [putCells_size, List.length_map, hy]; omega
          · obtain ⟨x, _, rfl⟩ := List.mem_map.1 he
            rfl
          · obtain ⟨x, hx', rfl, rfl⟩ := leafAt_iV hl
            have hi : i < ys.length := (List.getElem?_eq_some_iff.1 hx').1
            refine ⟨.int .i64 x, ?_, RS.data _ _ (.val _)⟩
            have hxi : ys[i] = x := by rw [List.getElem?_eq_getElem hi] at hx'; exact Option.some.inj hx'
            have hlt : o + i < c.size := by omega
            simp only [Sort.putCells, Nat.mul_one, Nat.add_zero, Array.getElem?_mapIdx]
            rw [Array.getElem?_eq_getElem hlt]
            simp [hi, hxi]
        obtain ⟨R1, _⟩ := R0.storeTop W hob2 (by decide) ⟨o, hν⟩ (ν0 0) rfl hRN (fun i j h => by obtain ⟨x, _, _, h⟩ := leafAt_iV h; cases h) (fun _ _ => False) (fun _ _ => (0, 0, 0)) (fun _ => False)
          (fun i j s' es2 h => by obtain ⟨x, _, _, h⟩ := leafAt_iV h; cases h) (fun i j i' j' s1 e1 s2 e2 _ _ h => h.elim) (fun _ => rfl) (F' := Fl.emp) (fun k h => h.elim) (fun k _ => rfl)
        refine ⟨_, rfl, Fl.emp, D, _, _, R1, ?_, hres, fun _ _ h => by cases h⟩
        rw [hcid]
        have hi : immL (ys.map iV) = true := imm_map fun _ => rfl
        simp [outsOf, St.upd_eq, hi]
end
end Go.Mv
end

section
/- A law's call out of the abstract machine's answer, and the statement out of the call. -/
namespace Go.Mv
open Go Go.RowKit Go.ChangeShapes Go.WideShapes Go.ChangeAt

/-- arguments that are data -/
def dataArg : AV → Bool
  | .val _ => true
  | .nil => true
  | .list _ => true
  | .agg _ => true
  | _ => false

theorem initLoc_data {md : Nat → Nat} {av : List AV} (hk : ∀ a ∈ av, dataArg a = true) :
    (∀ i, initLoc md av (.t i) = av.getD i .undef) ∧ ∀ i, initLoc md av (.h i) = .undef := by
  have hk' : ∀ i a, av[i]? = some a → dataArg a = true := fun i a h => hk a (List.mem_of_getElem? h)
  refine ⟨fun i => ?_, fun i => ?_⟩
  · rw [List.getD_eq_getElem?_getD]
    have := hk' i
    unfold initLoc
    show (match av[i]? with
      | some (AV.own s es) => AV.sl i 1 none 0 es.length
      | some (AV.ownp es a b) => AV.ptr i 1 none a b
      | some (AV.clo f caps) => AV.clo f (initCaps i 0 caps)
      | some a => a
      | none => AV.undef) = _
    split <;> rename_i h
    · rw [h] at this; simp [dataArg] at this
    · rw [h] at this; simp [dataArg] at this
    · rw [h] at this; simp [dataArg] at this
    · rw [h]; rfl
    · rw [h]; rfl
  · have h1 := hk' i
    have h2 := hk' (i % 100000)
    unfold initLoc
    simp only
    split
    · split
      · rename_i h; rw [h] at h1; simp [dataArg] at h1
      · rename_i h; rw [h] at h1; simp [dataArg] at h1
      · rfl
    · split
      · rename_i h; rw [h] at h2; simp [dataArg] at h2
      · rfl

theorem law_callsD {Γ : Env} (cx : Cx) (hS : SoundC Γ cx (CW cx)) {f : Nat} {av : List AV} {vals : Array Value} {w : World} {v : Value} (hsz : vals.size = av.length)
    (hd : ∀ i a, av[i]? = some a → RV w (fun b => b < w.heap.size) a (vals.getD i undef)) (hk : ∀ a ∈ av, dataArg a = true) (h : CW cx f av = some (.val v, [])) (hg : ∀ b, Γ.gb b → b < w.heap.size) (hG : Γ.G w) :
    Calls cx.P f vals w fun e w' => e = .returned v ∧ Below w.heap.size w w' ∧ (Γ.mo → w.drawn ≤ w'.drawn) := by
  obtain ⟨hT, hH⟩ := initLoc_data (md := cx.md f) hk
  have nolive : ∀ k, ¬ live (initLoc (cx.md f) av) Fl.emp k := by
    intro k hl
    cases k with
    | nd i p => obtain ⟨g, m, s, es, h1, _⟩ := hl; rw [hH] at h1; cases h1
    | fl k p => obtain ⟨f, h1, _⟩ := hl; cases h1
  have R : Rel Γ w (fun _ => True) (fun _ => False) (fun _ _ => none) av.length Fl.emp (fun b => b < w.heap.size) (initLoc (cx.md f) av) (fun _ _ => none) vals w := by
    refine ⟨hsz, fun i hi => ?_, fun i hi => ?_, fun id g m s es h1 => ?_, fun id g s es h1 => ?_, fun k f h1 => ?_, fun k1 k2 b o1 o2 h1 => (nolive _ h1).elim, fun b hb ⟨k, o, h1, _⟩ => nolive _ h1, fun b hb => .inl trivial, fun b hb => ⟨hb, fun h => by rcases h with h | h; (· have : b < w.heap.size := hb; omega); (· exact h.elim)⟩,
      fun b ⟨k, o, h1, _⟩ => (nolive _ h1).elim, Nat.le_refl _, rfl, rfl, rfl, fun _ => Nat.le_refl _, fun b _ _ => rfl, fun b _ => rfl, fun id g m s es h1 => ?_, fun b hb => ⟨fun h => h, hg b hb⟩, hG⟩
    · rw [hT, List.getD_eq_getElem?_getD, List.getElem?_eq_getElem hi]
      exact .data _ _ (hd i _ (List.getElem?_eq_getElem hi))
    · rw [hT, List.getD_eq_getElem?_getD, List.getElem?_eq_none hi]; rfl
    · rw [hH] at h1; cases h1
    · rw [hH] at h1; cases h1
    · cases h1
    · rw [hH] at h1; cases h1
  obtain ⟨hC, _⟩ := hS f av _ _ h
  refine (hC w _ _ _ _ vals (fun _ h => h.elim) R (fun a ha => ?_)).mono ?_
  · obtain ⟨i, hi⟩ := List.mem_iff_getElem?.1 ha
    have h1 := hd i a hi
    have h2 := hk a ha
    cases a <;> first
      | exact ⟨_, h1⟩
      | simp [dataArg] at h2
  · rintro e w' ⟨v', rfl, F', D', st', ν', R', _, hres, _⟩
    refine ⟨?_, ⟨R'.os, R'.tape, R'.output, R'.le, fun k hk => R'.fr k hk (fun h => h)⟩, R'.dr⟩
    rcases hres with ⟨vs, cs, h1, _⟩ | ⟨fs, cs, h1, _⟩ | ⟨es, j, φ, b, o, h1, _⟩ | ⟨s, es, φ, h1, _⟩ | ⟨_, h1⟩
    · cases h1
    · cases h1
    · cases h1
    · cases h1
    · cases h1; rfl

theorem law_calls {Γ : Env} (cx : Cx) (hS : SoundC Γ cx (CW cx)) {f : Nat} {av : List AV} {vals : Array Value} {w : World} {v : Value} (hsz : vals.size = av.length)
    (hd : ∀ i a, av[i]? = some a → RV w (fun b => b < w.heap.size) a (vals.getD i undef)) (hk : ∀ a ∈ av, dataArg a = true) (h : CW cx f av = some (.val v, [])) (hg : ∀ b, Γ.gb b → b < w.heap.size) (hG : Γ.G w) :
    Calls cx.P f vals w fun e w' => e = .returned v ∧ Below w.heap.size w w' :=
  (law_callsD cx hS hsz hd hk h hg hG).mono fun _ _ h => ⟨h.1, h.2.1⟩

/-- nothing is said of the world; how often the tape is asked (mo) -/
def Env.none (mo : Prop) : Env := ⟨mo, fun _ => False, fun _ => True, fun _ _ _ h => h⟩

section
variable {H : Type} {enc : TypeId × Value → H} {P : Program} {W W' : World}

theorem trodAll_below (hl : laidOutB P = true) (hB : Below W.heap.size W W') : ∀ {ts : List TypeId} {vs : List Value} {ds : List (DataW H)} {ps : List MemPlace},
    (∀ t ∈ ts, P.readableRec t = true ∧ t < P.types.size) → DataW.TrodAll enc P W 0 (fun _ => true) true ts vs ds ps → (∀ x ∈ ps, x.block < W.heap.size) →
    DataW.TrodAll enc P W' 0 (fun b => decide (b < W.heap.size)) true ts vs ds ps
  | [], [], [], _, _, h, _ => h
  | [], [], _ :: _, _, _, h, _ => h.elim
  | [], _ :: _, _, _, _, h, _ => h.elim
  | _ :: _, [], _, _, _, h, _ => h.elim
  | _ :: _, _ :: _, [], _, _, h, _ => h.elim
  | t :: ts, v :: vs, d :: ds, ps, hr, h, hlt => by
    obtain ⟨p, q, h1, h2, rfl⟩ := h
    obtain ⟨hr1, hr2⟩ := hr t (List.mem_cons_self ..)
    exact ⟨p, q, Below.trod hl hr1 hr2 h1 hB (fun x hx => hlt x (List.mem_append_left _ hx)), trodAll_below hl hB (fun t ht => hr t (List.mem_cons_of_mem _ ht)) h2 (fun x hx => hlt x (List.mem_append_right _ hx)), rfl⟩

theorem law_post {f : Func} {s : ChangeSpec} {apart fresh : Bool} {args : Array Value} {ds gs : List (DataW H)} {before : List MemPlace} {tb : TypeId} (hl : laidOutB P = true)
    (hr : ∀ t ∈ f.params.toList, P.readableRec t = true ∧ t < P.types.size) (hW : DataW.Whole enc P f.params.toList s.vars apart W args.toList ds gs before) (hB : Below W.heap.size W W')
    (hv : s.vars = []) (hres : f.resultTypes = #[tb]) (hb : P.underlying tb = some .bool) (h1 : (s.fn H ds).results = [.lit (.bool true)]) (h2 : (s.fn H ds).args = ds) (h3 : (s.fn H ds).vars = []) :
    s.post enc P f apart fresh false false W args (.bool true) W' := by
  have hW0 := hW
  obtain ⟨p, q, hA, hV, rfl, hz, hn⟩ := hW
  rw [hv] at hV
  obtain ⟨rfl, rfl⟩ := trodVars_none hV
  have e : ds ++ [] = ds := List.append_nil _
  refine ⟨ds, [], p ++ [], [], p, [], hW0, ?_, ?_, ?_, hB.frame _, fun h => by cases h⟩
  · rw [e, h1, hres]
    exact trodAll_mk1 (shut_bool hb _)
  · rw [e, h2]
    exact trodAll_below hl hB hr hA fun x hx => hW0.lt x (List.mem_append_left _ hx)
  · rw [e, h3, hv]
    rfl

/-- numbers that came in -/
theorem rv_ints {t e : TypeId} {k : IntKind} {v : Value} {d : DataW H} {p : List MemPlace} (ht : P.underlying t = some (.slice e)) (he : P.underlying e = some (.int k)) (hc : P.cellsOf e = 1)
    (hv : ∃ a n c, v = .slice a n c) (h : DataW.Trod enc P W 0 (fun _ => true) true t v d p) :
    ∃ xs : List Int, RV W (fun b => b < W.heap.size) (.list (xs.map fun x => .val (.int k x))) v ∧ ∀ x ∈ xs, (Lit.int k x).wf = true := by
  obtain ⟨a1, n, c, rfl⟩ := hv
  obtain ⟨fuel, hf⟩ := h
  rcases open_ints ht he hc hf with ⟨hcs, _⟩ | ⟨a, len, cap, zs, hcs, _, hl, _, hz, _, hcell, hwf⟩
  · cases (show [Value.slice a1 n c] = [.slice none 0 0] from hcs)
    exact ⟨[], .list [] none 0 0 0 1 (fun _ _ => undef) (Nat.le_refl _) (fun h => (h rfl).elim) (fun _ h => by simp at h) (fun i j l h => by simp [leafAt] at h) (fun i j l h => by simp [leafAt] at h), fun _ h => by simp at h⟩
  · cases (show [Value.slice a1 n c] = [.slice (some a) len cap] from hcs)
    simp at hz
    refine ⟨zs.take n, ?_, fun x hx => hwf x (List.mem_of_mem_take hx)⟩
    have hlen : (zs.take n).length = n := by simp; omega
    have hleaf : ∀ i j l, leafAt ((zs.take n).map fun x => AV.val (.int k x)) i j = some l → i < n ∧ j = 0 ∧ l = .val (.int k (zs.getD i 0)) := by
      intro i j l h
      unfold leafAt at h
      rw [List.getElem?_map] at h
      cases hx : (zs.take n)[i]? with
      | none => simp [hx] at h
      | some x =>
        have hi : i < n := by have := (List.getElem?_eq_some_iff.1 hx).1; omega
        rw [List.getElem?_take, if_pos hi] at hx
        have hx' : (zs.take n)[i]? = some x := by rw [List.getElem?_take, if_pos hi]; exact hx
        simp only [hx', Option.map_some] at h
        cases j with
        | zero => simp [leaves] at h; exact ⟨hi, rfl, by rw [List.getD_eq_getElem?_getD, hx]; exact h.symm⟩
        | succ j => simp [leaves] at h
    have hsp : 0 < n → a = ⟨a.block, a.off, none⟩ ∧ a.block < W.heap.size := by
      intro hn
      have h0 := hcell 0 (by omega)
      have ea : a.add 0 = a := rfl
      rw [ea] at h0
      unfold World.cell? at h0
      split at h0
      · rename_i cc _ _ hh
        split at h0
        · cases h0
        · rename_i hs
          refine ⟨?_, (Array.getElem?_eq_some_iff.1 hh).1⟩
          obtain ⟨b, o, s⟩ := a
          cases s
          · rfl
          · simp at hs
      · cases h0
    have := RV.list (w := W) (D := fun b => b < W.heap.size) ((zs.take n).map fun x => AV.val (.int k x)) (some a) c a.block a.off 1 (fun i _ => .int k (zs.getD i 0)) (by simp; omega) (fun hne => ?_) (fun e he => ?_) (fun i j l h => ?_) (fun i j l h => ?_)
    · rw [List.length_map, hlen] at this
      exact this
    · have hn : 0 < n := by
        rcases Nat.eq_zero_or_pos n with h | h
        · subst h; simp at hne
        · exact h
      obtain ⟨h1, h2⟩ := hsp hn
      exact ⟨congrArg some h1, h2, h2⟩
    · obtain ⟨x, _, rfl⟩ := List.mem_map.1 he
      rfl
    · obtain ⟨hi, rfl, rfl⟩ := hleaf i j l h
      have h1 := hcell i (by omega)
      have ea := (hsp (by omega)).1
      rw [ea] at h1
      rw [add_eq] at h1
      simpa using h1
    · obtain ⟨hi, rfl, rfl⟩ := hleaf i j l h
      exact .val _
end
end Go.Mv
end

section
/- Function values that have captured variables. -/
namespace Go.Mv
open Go

section
variable {cx : Cx} {keep : List Nat} {ops0 : Array Oper} {A : Asr} {d : Nat} {ty : Nat} {pos : String} {aft : Array Edge} {r : List Oper} {Q : Asr → List Log → Prop}

/-- a call of a function value -/
theorem x_callV {G : Type} {k : Nat} {c : Operand} {caps : List AV} {args : Array Operand} {Ts : Array Nat} {vs as : List AV} {ids : List (Nat × Bool)} {wp wb : Ws} {lp lb li : List Mv.Loc} {res : AV} {outs : List (List AV)} {v : G → AV} {wi : G → Ws}
    (hcl : opd A c = some (.clo k caps))
    (hv : opds A args.toList = some vs) (hp : PassAll (CW cx) A (cx.md k) 0 (vs ++ caps) as ids wp lp) (hC : CW cx k as = some (res, outs))
    (hc : apartIds ids = true ∧ nodupB ((tgAll (cx.md k) 0 (vs ++ caps)).map (·.1)) = true ∧ nodupB ((cidAll (cx.md k) 0 as).map (·.1)) = true ∧ as.length ≤ 1000 ∧ capsOk as = true)
    (hl : ids.all (fun x => x.2) = true ∨ (hasList res = false ∧ outs.any hasListL = false))
    (hb : Back (CW cx) (puts A wp) (tgAll (cx.md k) 0 (vs ++ caps)) outs wb lb) (hi : InstR (CW cx) (puts (puts A wp) wb) d res v wi li)
    (hk : ∀ g, tRefsOk keep (keptWs keep (wp ++ (wb ++ (wi g ++ [(.t d, v g)])))) = true)
    (h : ∀ g, XR cx keep ops0 r (consW A (wp ++ (wb ++ (wi g ++ [(.t d, v g)])))) fun A' lg => Q A' ((rds c ++ (rdsL args.toList ++ (lp ++ (lb ++ li))), wmap (wp ++ (wb ++ (wi g ++ [(.t d, v g)])))) :: lg)) :
    XR cx keep ops0 (⟨some d, .call ⟨.value c, args, Ts⟩, ty, pos, aft, none⟩ :: r) A Q := by
  refine x_opT (G := G) (v := v) (ws := fun g => wp ++ (wb ++ wi g)) (ls := rds c ++ (rdsL args.toList ++ (lp ++ (lb ++ li)))) rfl ?_ (fun g => ?_) (fun g => ?_) (fun g => ?_) (A1 := fun g => consW A (wp ++ (wb ++ (wi g ++ [(.t d, v g)]))))
  · simp only [aopV]
    refine wpW_bind (wpW_rdO hcl (wpW_bind (wpW_up (wpA_rdOs _ hv _ ?_))))
    simp only [callA]
    refine wpW_bind (wpW_mono hp ?_)
    rintro _ _ _ ⟨rfl, rfl, rfl⟩
    refine wpW_bind (wpW_need hc (wpW_bind (wpW_up ?_)))
    refine ⟨res, outs, hC, ?_⟩
    refine wpW_bind (wpW_need hl (wpW_bind (wpW_mono hb ?_)))
    rintro _ _ _ ⟨rfl, rfl⟩
    refine wpW_mono hi ?_
    rintro _ _ _ ⟨g, rfl, rfl, rfl⟩
    exact ⟨g, rfl, by simp, by simp⟩
  · have := hk g
    simpa [setD] using this
  · have := wk_consW A (wp ++ (wb ++ (wi g ++ [(.t d, v g)])))
    simpa [setD] using this
  · have := h g
    simpa [setD] using this

/-- captured variables, handed over to be read -/
def PassCaps (C : Caller) (A : Asr) (vs as : List AV) (ids : List (Nat × Bool)) (ls : List Mv.Loc) : Prop :=
  wpA C A (passCaps vs) fun x l => x = (as, ids) ∧ l = ls

theorem pc_nil {C : Caller} : PassCaps C A [] [] [] [] := ⟨rfl, rfl⟩

def plainCap : AV → Bool
  | .val _ => true
  | .list _ => true
  | _ => false

theorem pc_box {C : Caller} {id g m s j : Nat} {e : AV} {vs as : List AV} {ids : List (Nat × Bool)} {ls : List Mv.Loc} (ho : look A (.h id) = some (.obj g m s [e])) (he : plainCap e = true) (h : PassCaps C A vs as ids ls) :
    PassCaps C A (.ptr id g none 0 j :: vs) (.ipt e j :: as) ((id, false) :: ids) (.h id :: ls) := by
  unfold PassCaps at h ⊢
  cases e <;> first
    | (simp [plainCap] at he; done)
    | (simp only [passCaps, passCap, wpA_bind, rdNode, wpA_read ho, wpA_need, wpA_ret, List.getElem?_cons_zero, passLeaf, slIds, List.filterMap_nil, List.filterMap_cons, and_true, true_and]
       refine wpA_mono ?_ h
       rintro x l ⟨rfl, rfl⟩
       simp)

theorem pc_ipt {C : Caller} {j : Nat} {e : AV} {vs as : List AV} {ids : List (Nat × Bool)} {ls : List Mv.Loc} (h : PassCaps C A vs as ids ls) : PassCaps C A (.ipt e j :: vs) (.ipt e j :: as) ids ls := by
  unfold PassCaps at h ⊢
  simp only [passCaps, passCap, wpA_bind, wpA_ret]
  refine wpA_mono ?_ h
  rintro x l ⟨rfl, rfl⟩
  simp

theorem pa_clo {C : Caller} {md k : Nat} {vs as : List AV} {ids : List (Nat × Bool)} {ls : List Mv.Loc} (hmd : md = 0) (h : PassCaps C A vs as ids ls) : PassArg C A md (.clo k vs) (.clo k as) ids [] ls := by
  subst hmd
  unfold PassArg passA
  unfold PassCaps at h
  simp only [Nat.zero_ne_one, if_false, show ¬ (0 = 3) by decide]
  refine wpW_bind (wpW_up (wpA_mono ?_ h))
  rintro x l ⟨rfl, rfl⟩
  exact wpW_pure ⟨rfl, by simp, by simp⟩
theorem pa_ipt {C : Caller} {md : Nat} {e : AV} {j : Nat} : PassArg C A md (.ipt e j) (.ipt e j) [] [] [] := by
  unfold PassArg passA
  exact wpW_pure ⟨rfl, rfl, rfl⟩
end
end Go.Mv
end

section
/- Loops with what stays, several results. -/
namespace Go.Mv
open Go

section
variable {cx : Cx} {keep : List Nat} {A : Asr} {Q : AExit → Asr → Prop}
/-- a loop: K is what no round changes -/
theorem xa_loopK {β : Type} {body : Code} (K : Asr) (I : β → Asr) (P : β → Prop) (m : β → Nat) (b0 : β) (hA : HasL A (K ++ I b0)) (h0 : P b0)
    (hs : ∀ b, P b → XA cx keep body (K ++ I b) fun r A' => match r with
      | .normal => ∃ b', P b' ∧ m b' < m b ∧ HasL A' (K ++ I b')
      | r => Q r A') : XA cx keep (.loop body) A Q := xa_loop (fun b => K ++ I b) P m b0 hA h0 hs
end

theorem viewLeaves_id {id g i : Nat} {p : Option (Nat × Nat)} : ∀ (ls : List AV) (j : Nat), (ls.all fun l => !isOwn l) = true → viewLeaves id g p i j ls = ls := by
  intro ls
  induction ls with
  | nil => intro j _; rfl
  | cons l ls ih =>
    intro j h
    simp only [List.all_cons, Bool.and_eq_true] at h
    simp only [viewLeaves, ih _ h.2]
    have : viewLeaf id g p i j l = l := by
      unfold viewLeaf
      split
      · simp [isOwn] at h
      · rfl
    rw [this]
theorem all_drop {ls : List AV} (h : (ls.all fun l => !isOwn l) = true) (j : Nat) : ((ls.drop j).all fun l => !isOwn l) = true := by
  rw [List.all_eq_true] at h ⊢
  exact fun l hl => h l (List.mem_of_mem_drop hl)
/-! ### several results -/
section
variable {cx : Cx} {cids : List Cid} {outs : List (List AV)}
def RetL (cx : Cx) (cids : List Cid) (outs : List (List AV)) (rs : List ResultVar) (A : Asr) (vs : List AV) : Prop :=
  wpW (CW cx) A (retAll cx.P rs) fun us ws _ => us = vs ∧ OutsA (puts A ws) cids outs
theorem rl_nil {A : Asr} (ho : OutsA A cids outs) : RetL cx cids outs [] A [] := wpW_pure ⟨rfl, ho⟩
theorem rl_val {A : Asr} {t : Nat} {v : AV} {rs : List ResultVar} {vs : List AV} (hv : look A (.t t) = some v) (hi : immR v = true) (h : RetL cx cids outs rs A vs) : RetL cx cids outs (.tmp t :: rs) A (v :: vs) := by
  refine wpW_all (wpW_retTmp hv (wpW_ret1 hi ?_))
  refine wpW_mono h ?_
  rintro us ws ls ⟨rfl, h2⟩
  exact ⟨rfl, h2⟩
theorem puts_append (A : Asr) : ∀ (a b : Ws), puts A (a ++ b) = puts (puts A a) b := by
  intro a
  induction a generalizing A with
  | nil => intro b; rfl
  | cons x a ih => intro b; obtain ⟨l, v⟩ := x; exact ih _ b
theorem rl_own {A : Asr} {t id g s n : Nat} {es : List AV} {rs : List ResultVar} {vs : List AV} (hv : look A (.t t) = some (.sl id g none 0 n)) (hob : look A (.h id) = some (.obj g 0 s es)) (hn : n = es.length) (hi : noRefL es = true)
    (h : RetL cx cids outs rs (put A (.h id) (.dead g)) vs) : RetL cx cids outs (.tmp t :: rs) A (.own s es :: vs) := by
  refine wpW_all (wpW_retTmp hv (wpW_ret1Own hob hn hi ?_))
  refine wpW_mono h ?_
  rintro us ws ls ⟨rfl, h2⟩
  refine ⟨rfl, ?_⟩
  rw [puts_append]
  exact h2
/-- a result that lies in a box -/
theorem rl_cell {A : Asr} {a T id g s : Nat} {e : AV} {rs : List ResultVar} {vs : List AV} (hv : look A (.t a) = some (.ptr id g none 0 0)) (ho : look A (.h id) = some (.obj g 3 s [e])) (hn : ((leaves e).all fun l => !isOwn l) = true)
    (hp : partF cx.P T (leaves e) = some e) (hi : immR e = true) (h : RetL cx cids outs rs A vs) : RetL cx cids outs (.cell a T :: rs) A (e :: vs) := by
  refine wpW_all ?_
  unfold retVar
  refine wpW_bind (wpW_up ?_)
  rw [wpA_rd hv]
  refine wpW_bind (wpW_up ?_)
  simp only [loadA, rdNode, wpA_bind]
  rw [wpA_read (by exact ho)]
  simp only [wpA_bind, wpA_need, wpA_ret, true_and, List.getElem?_cons_zero, List.drop_zero]
  rw [viewLeaves_id _ _ hn, wpA_partOf hp]
  refine wpW_ret1 hi ?_
  refine wpW_mono h ?_
  rintro us ws ls ⟨rfl, h2⟩
  exact ⟨rfl, h2⟩
theorem ret_tup {A : Asr} {rs : List ResultVar} {us : List AV} {res : AV} (h : RetL cx cids outs rs A us) (he : wrapRes us = res) : RetA cx rs cids A res outs := by
  refine ret_of (wpW_mono h ?_)
  rintro us' ws _ ⟨rfl, h2⟩
  exact ⟨he, h2⟩

/-- what comes back of a call, one behind the other -/
def InstL (C : Caller) (A : Asr) (d k : Nat) (vs : List AV) {G : Type} (us : G → List AV) (ws : G → Ws) (ls : List Mv.Loc) : Prop := wpW C A (instAll d k vs) fun a w l => ∃ g, a = us g ∧ w = ws g ∧ l = ls
variable {C : Caller} {A : Asr} {d k : Nat}
theorem il_nil : InstL C A d k [] (fun _ : Unit => []) (fun _ => []) [] := wpW_pure ⟨(), rfl, rfl, rfl⟩
theorem il_val {G : Type} {v : AV} {vs : List AV} {us : G → List AV} {ws : G → Ws} {ls : List Mv.Loc} (h : immEl v = true) (t : InstL C A d (k + 16) vs us ws ls) : InstL C A d k (v :: vs) (fun g => v :: us g) ws ls := by
  refine wpW_bind (wpW_inst1 h (wpW_bind (wpW_mono t ?_)))
  rintro _ _ _ ⟨g, rfl, rfl, rfl⟩
  exact wpW_pure ⟨g, rfl, by simp, by simp⟩
theorem il_own {G : Type} {s : Nat} {es : List AV} {vs : List AV} {us : G → List AV} {ws : G → Ws} {ls : List Mv.Loc} (t : ∀ g0, InstL C (put A (.h (tid d k)) (.obj g0 0 s es)) d (k + 16) vs us ws ls) :
    InstL C A d k (.own s es :: vs) (fun g : Nat × G => .sl (tid d k) g.1 none 0 es.length :: us g.2) (fun g => (.h (tid d k), .obj g.1 0 s es) :: ws g.2) (.h (tid d k) :: ls) := by
  refine wpW_bind (wpW_inst1Own fun g0 => wpW_bind (wpW_mono (t g0) ?_))
  rintro _ _ _ ⟨g, rfl, rfl, rfl⟩
  exact wpW_pure ⟨(g0, g), rfl, by simp, by simp⟩
theorem inst_tupL {G : Type} {vs : List AV} {us : G → List AV} {ws : G → Ws} {ls : List Mv.Loc} (h : InstL C A d 16 vs us ws ls) : InstR C A d (.tup vs) (fun g => .tup (us g)) ws ls := by
  refine wpW_bind (wpW_mono h ?_)
  rintro _ _ _ ⟨g, rfl, rfl, rfl⟩
  exact wpW_pure ⟨g, rfl, by simp, by simp⟩
end

section
variable {cx : Cx} {keep : List Nat} {ops0 : Array Oper} {r : List Oper} {A : Asr} {Q : Asr → List Log → Prop} {d : Nat} {ty : Nat} {pos : String} {aft : Array Edge}

/-- a part of an element of an object -/
theorem x_load_mapJ {α : Type} [Inhabited α] {f : α → AV} {xs : List α} {a : Operand} {T id g m s i j : Nat} {v : AV} (ha : opd A a = some (.ptr id g none i j)) (ho : look A (.h id) = some (.obj g m s (xs.map f))) (hi : i < xs.length)
    (hp : partF cx.P T (viewLeaves id g none i j ((leaves (f (xs.getD i default))).drop j)) = some v) (hk : slotOk keep (.t d) v = true)
    (h : XR cx keep ops0 r ((.t d, v) :: A) fun A' lg => Q A' ((rds a ++ [.h id], [.t d]) :: lg)) : XR cx keep ops0 (⟨some d, .load T a, ty, pos, aft, none⟩ :: r) A Q :=
  x_load_ptr (e := f (xs.getD i default)) ha ho (by rw [List.getElem?_map, List.getElem?_eq_getElem hi, List.getD_eq_getElem?_getD, List.getElem?_eq_getElem hi]; rfl) hp hk h

/-- the same, where no part is owned -/
theorem x_load_ptrN {a : Operand} {T id g m s i j : Nat} {es : List AV} {e v : AV} (ha : opd A a = some (.ptr id g none i j)) (ho : look A (.h id) = some (.obj g m s es)) (he : es[i]? = some e) (hn : ((leaves e).all fun l => !isOwn l) = true)
    (hp : partF cx.P T ((leaves e).drop j) = some v) (hk : slotOk keep (.t d) v = true)
    (h : XR cx keep ops0 r ((.t d, v) :: A) fun A' lg => Q A' ((rds a ++ [.h id], [.t d]) :: lg)) : XR cx keep ops0 (⟨some d, .load T a, ty, pos, aft, none⟩ :: r) A Q :=
  x_load_ptr ha ho he (by rw [viewLeaves_id _ _ (all_drop hn j)]; exact hp) hk h
theorem x_load_mapN {α : Type} [Inhabited α] {f : α → AV} {xs : List α} {a : Operand} {T id g m s i j : Nat} {v : AV} (ha : opd A a = some (.ptr id g none i j)) (ho : look A (.h id) = some (.obj g m s (xs.map f))) (hi : i < xs.length)
    (hn : ∀ a, ((leaves (f a)).all fun l => !isOwn l) = true) (hp : partF cx.P T ((leaves (f (xs.getD i default))).drop j) = some v) (hk : slotOk keep (.t d) v = true)
    (h : XR cx keep ops0 r ((.t d, v) :: A) fun A' lg => Q A' ((rds a ++ [.h id], [.t d]) :: lg)) : XR cx keep ops0 (⟨some d, .load T a, ty, pos, aft, none⟩ :: r) A Q :=
  x_load_ptrN (e := f (xs.getD i default)) ha ho (by rw [List.getElem?_map, List.getElem?_eq_getElem hi, List.getD_eq_getElem?_getD, List.getElem?_eq_getElem hi]; rfl) (hn _) hp hk h
/-- a whole element -/
theorem x_load_mapV {α : Type} [Inhabited α] {f : α → AV} {xs : List α} {a : Operand} {T id g m s i : Nat} (ha : opd A a = some (.ptr id g none i 0)) (ho : look A (.h id) = some (.obj g m s (xs.map f))) (hi : i < xs.length)
    (hn : ∀ a, ((leaves (f a)).all fun l => !isOwn l) = true) (hp : ∀ a, partF cx.P T (leaves (f a)) = some (f a)) (hk : slotOk keep (.t d) (f (xs.getD i default)) = true)
    (h : XR cx keep ops0 r ((.t d, f (xs.getD i default)) :: A) fun A' lg => Q A' ((rds a ++ [.h id], [.t d]) :: lg)) : XR cx keep ops0 (⟨some d, .load T a, ty, pos, aft, none⟩ :: r) A Q :=
  x_load_mapN ha ho hi hn (hp _) hk h
theorem x_load_boxV {a : Operand} {T id g m s : Nat} {e : AV} (ha : opd A a = some (.ptr id g none 0 0)) (ho : look A (.h id) = some (.obj g m s [e])) (hn : ((leaves e).all fun l => !isOwn l) = true)
    (hp : partF cx.P T (leaves e) = some e) (hk : slotOk keep (.t d) e = true)
    (h : XR cx keep ops0 r ((.t d, e) :: A) fun A' lg => Q A' ((rds a ++ [.h id], [.t d]) :: lg)) : XR cx keep ops0 (⟨some d, .load T a, ty, pos, aft, none⟩ :: r) A Q :=
  x_load_ptrN ha ho rfl hn hp hk h
theorem x_load_iptV {a : Operand} {T : Nat} {e : AV} (ha : opd A a = some (.ipt e 0)) (hp : partF cx.P T (leaves e) = some e) (hk : slotOk keep (.t d) e = true)
    (h : XR cx keep ops0 r ((.t d, e) :: A) fun A' lg => Q A' ((rds a, [.t d]) :: lg)) : XR cx keep ops0 (⟨some d, .load T a, ty, pos, aft, none⟩ :: r) A Q :=
  x_load_ipt ha hp hk h

theorem x_store_mapO {α : Type} [Inhabited α] {f : α → AV} {xs : List α} {y : α} {T id g m s i : Nat} {a x : Operand} (ha : opd A a = some (.ptr id g none i 0)) (ho : look A (.h id) = some (.obj g m s (xs.map f))) (hx : opd A x = some (f y)) (hi : i < xs.length)
    (hl : ∀ a b, layV (leaves (f b)) (f a) = true ∧ (leaves (f a)).length = (tyS cx.P T).size ∧ 0 < (leaves (f a)).length ∧ (leaves (f a)).length ≤ (leaves (f b)).length ∧ ownsFit (leaves (f a)) (leaves (f b)) = true ∧ putAt (f b) 0 (f a) = f a) (hm : m ≠ 2)
    (hko : slotOk keep (.h id) (.obj g m s ((xs.set i y).map f)) = true)
    (h : XR cx keep ops0 r ((.h id, .obj g m s ((xs.set i y).map f)) :: A) fun A' lg => Q A' ((rds a ++ (rds x ++ [.h id, .h id, .h id]), [.h id]) :: lg)) :
    XR cx keep ops0 (⟨none, .store T a x, ty, pos, aft, none⟩ :: r) A Q := x_store_map ha hx ho hi hl hm hko h

/-- the whole of a box -/
theorem x_store_boxV {T id g m s : Nat} {a x : Operand} {e v : AV} (ha : opd A a = some (.ptr id g none 0 0)) (hx : opd A x = some v) (ho : look A (.h id) = some (.obj g m s [e]))
    (hl : layV (leaves e) v = true) (hc : m ≠ 2 ∧ (leaves v).length = (tyS cx.P T).size ∧ 0 < (leaves v).length ∧ (leaves v).length ≤ (leaves e).length ∧ ownsFit (leaves v) (leaves e) = true) (hp : putAt e 0 v = v)
    (hko : slotOk keep (.h id) (.obj g m s [v]) = true)
    (h : XR cx keep ops0 r ((.h id, .obj g m s [v]) :: A) fun A' lg => Q A' ((rds a ++ (rds x ++ [.h id, .h id, .h id]), [.h id]) :: lg)) :
    XR cx keep ops0 (⟨none, .store T a x, ty, pos, aft, none⟩ :: r) A Q :=
  x_store (i := 0) (j := 0) ha hx ho rfl hl ⟨hc.1, hc.2.1, hc.2.2.1, by have := hc.2.2.2.1; omega, hc.2.2.2.2⟩ (by rw [hp]; exact hko) (by rw [hp]; exact h)
/-- a part of a box -/
theorem x_store_boxP {T id g m s j : Nat} {a x : Operand} {e e' v : AV} (ha : opd A a = some (.ptr id g none 0 j)) (hx : opd A x = some v) (ho : look A (.h id) = some (.obj g m s [e]))
    (hl : layV ((leaves e).drop j) v = true) (hc : m ≠ 2 ∧ (leaves v).length = (tyS cx.P T).size ∧ 0 < (leaves v).length ∧ j + (leaves v).length ≤ (leaves e).length ∧ ownsFit (leaves v) ((leaves e).drop j) = true) (hp : putAt e j v = e')
    (hko : slotOk keep (.h id) (.obj g m s [e']) = true)
    (h : XR cx keep ops0 r ((.h id, .obj g m s [e']) :: A) fun A' lg => Q A' ((rds a ++ (rds x ++ [.h id, .h id, .h id]), [.h id]) :: lg)) :
    XR cx keep ops0 (⟨none, .store T a x, ty, pos, aft, none⟩ :: r) A Q :=
  x_store (i := 0) (j := j) ha hx ho rfl hl hc (by rw [hp]; exact hko) (by rw [hp]; exact h)

/-- a part of an object is appended, and stays -/
theorem x_append_rdM {α : Type} {f : α → AV} {xs ys : List α} {T T' E s id g n id2 g2 m2 off n2 : Nat} {x y : Operand} {z : AV} (hx : opd A x = some (.sl id g none 0 n)) (hy : opd A y = some (.sl id2 g2 none off n2)) (ho : look A (.h id) = some (.obj g 0 s (xs.map f))) (ho2 : look A (.h id2) = some (.obj g2 m2 s (ys.map f)))
    (hid : id2 < 1000000) (hb2 : bxB m2 none = false) (hn : n = (xs.map f).length) (hn2 : off + n2 ≤ ys.length) (hT : elemT cx.P T = some (E, s)) (hT' : isSliceK (tyS cx.P T').k = true) (hz : zeroT cx.P E = some (z, s)) (hb : (tyS cx.P E).bytes ≤ 4096)
    (hf : ∀ a, (leaves (f a)).all cellLeaf = true ∧ noRefEl (f a) = true ∧ immEl (f a) = true)
    (hle : xs.length + n2 ≤ maxL) (hk : ∀ g, slotOk keep (.t d) (.sl (tid d 0) g none 0 (xs ++ (ys.drop off).take n2).length) = true)
    (h : ∀ g', XR cx keep ops0 r ((.t d, .sl (tid d 0) g' none 0 (xs ++ (ys.drop off).take n2).length) :: (.h (tid d 0), .obj g' 0 s ((xs ++ (ys.drop off).take n2).map f)) :: (.h id, .dead g) :: A) fun A' lg => Q A' ((rds x ++ (rds y ++ [.h id2, .h id2, .h id, .h (tid d 0)]), [.h id, .h (tid d 0), .t d]) :: lg)) :
    XR cx keep ops0 (⟨some d, .call ⟨.builtin .append, #[x, y], #[T, T']⟩, ty, pos, aft, none⟩ :: r) A Q := by
  obtain ⟨h1, h2, h3, h4⟩ := zeroT_ok hz
  have hl2 : ((ys.drop off).take n2).length = n2 := by simp; omega
  have el : (xs ++ (ys.drop off).take n2).length = xs.length + n2 := by rw [List.length_append, hl2]
  have em : (((ys.map f).drop off).take n2) = ((ys.drop off).take n2).map f := by rw [List.map_take, List.map_drop]
  subst hn
  refine x_opG (v := fun g' => .sl (tid d 0) g' none 0 (xs ++ (ys.drop off).take n2).length) (ws := fun g' => [(.h id, .dead g), (.h (tid d 0), .obj g' 0 s ((xs ++ (ys.drop off).take n2).map f))]) (ls := rds x ++ (rds y ++ [.h id2, .h id2, .h id, .h (tid d 0)])) rfl ?_
    (fun g => tRefs_cons (by simp [slotOk, refOkV]) (tRefs_cons (slot_obj (noRef_map fun a => (hf a).2.1)) (tRefs_one (hk g)))) (fun g => rfl) (fun g => wk_put3 _ _ _ _ _ _ _) h
  simp only [aopV, dstOf]
  refine wpW_bind (wpW_up (show wpA (CW cx) A (.ret d) _ from ?_))
  show wpW (CW cx) (puts A []) _ _
  refine wpW_bind (wpW_need hT' (wpW_bind (wpW_rdO hx (wpW_bind (wpW_rdO hy ?_)))))
  unfold appendA
  refine wpW_bind (wpW_elem hT (wpW_bind (wpW_need ⟨hb, h3, h4⟩ (wpW_bind ?_))))
  simp only [srcA]
  refine wpW_bind (wpW_node ho2 (wpW_bind (wpW_need h2.symm ?_)))
  rw [if_neg (by omega)]
  refine wpW_bind (wpW_up ?_)
  simp only [slc, rdNode, wpA_bind]
  rw [wpA_read (by exact ho2)]
  simp only [wpA_bind, wpA_need, wpA_ret, hb2, List.length_map, hn2, true_and, and_true, List.append_nil, List.nil_append]
  rw [em, if_pos (imm_map fun a => (hf a).2.2)]
  refine wpW_pure ?_
  refine wpW_bind (wpW_need (cellL_map fun a => (hf a).1) ?_)
  refine wpW_bind (wpW_node ho (wpW_bind (wpW_need ⟨rfl, by simp, h2.symm, by simp only [List.length_map, hl2]; exact hle⟩ (wpW_bind (wpW_wr (wpW_bind (wpW_stamp fun o => wpW_bind (wpW_wr (wpW_pure ?_)))))))))
  have e3 : xs.length + (((ys.drop off).take n2).map f).length = (xs ++ (ys.drop off).take n2).length := by rw [el, List.length_map, hl2]
  have e4 : List.take xs.length (xs.map f) = xs.map f := by rw [← List.length_map (f := f), List.take_length]
  exact ⟨stamp o + 1, by rw [e3], by simp only [e4, List.map_append]; simp, by simp⟩

/-- a slice of an object, from its beginning -/
theorem x_slice_sl {x : Operand} {T E id g n m : Nat} {p : Option (Nat × Nat)} {off : Nat} {hi : Option Operand} {ls1 : List Mv.Loc} (hx : opd A x = some (.sl id g p off n)) (hT : (tyS cx.P T).k = .slice E) (hb : isBad (tyS cx.P E).k = false)
    (hh : wpA (CW cx) A (optNat hi n) fun k ls => k = m ∧ ls = ls1) (hc : m ≤ n) (hk : slotOk keep (.t d) (.sl id g p off m) = true)
    (h : XR cx keep ops0 r ((.t d, .sl id g p off m) :: A) fun A' lg => Q A' ((rds x ++ ls1, [.t d]) :: lg)) : XR cx keep ops0 (⟨some d, .slice T x none hi none, ty, pos, aft, none⟩ :: r) A Q := by
  refine x_val (fun o ho => by simp only [aopV, ho]) ?_ hk h
  simp only [opV, wpA_bind, wpA_rdO hx, sliceA, hT, optNat, wpA_ret, List.nil_append]
  refine wpA_mono ?_ hh
  rintro _ _ ⟨rfl, rfl⟩
  simp only [wpA_need, hb, wpA_ret, ne_eq, not_true_eq_false, false_and, if_false, if_true, List.append_nil, List.nil_append, and_self, and_true, true_and, true_or, Nat.le_refl, Nat.zero_le, hc]

/-- .. from elsewhere -/
theorem x_slice_slo {x : Operand} {T E id g n m l k0 s : Nat} {off : Nat} {lo hi : Option Operand} {es : List AV} {ls1 ls2 : List Mv.Loc} (hx : opd A x = some (.sl id g none off n)) (ho : look A (.h id) = some (.obj g k0 s es)) (hT : elemT cx.P T = some (E, s))
    (hh : wpA (CW cx) A (optNat hi n) fun k ls => k = m ∧ ls = ls1) (hl : wpA (CW cx) A (optNat lo 0) fun k ls => k = l ∧ ls = ls2) (hc : l ≤ m ∧ m ≤ n) (hl0 : l ≠ 0) (hk : slotOk keep (.t d) (.sl id g none (off + l) (m - l)) = true)
    (h : XR cx keep ops0 r ((.t d, .sl id g none (off + l) (m - l)) :: A) fun A' lg => Q A' ((rds x ++ (ls1 ++ (ls2 ++ [.h id])), [.t d]) :: lg)) : XR cx keep ops0 (⟨some d, .slice T x lo hi none, ty, pos, aft, none⟩ :: r) A Q := by
  refine x_val (fun o ho => by simp only [aopV, ho]) ?_ hk h
  unfold elemT at hT
  split at hT
  · rename_i E' hE
    split at hT
    · rename_i hbad'
      simp only [Option.some.injEq, Prod.mk.injEq] at hT
      obtain ⟨rfl, hs⟩ := hT
      simp only [opV, wpA_bind, wpA_rdO hx, sliceA, hE, optNat, wpA_ret, List.nil_append]
      refine wpA_mono ?_ hh
      rintro _ _ ⟨rfl, rfl⟩
      refine wpA_mono ?_ hl
      rintro _ _ ⟨rfl, rfl⟩
      simp only [wpA_need, hbad', ne_eq, not_true_eq_false, false_and, if_false, and_self, and_true, true_and, true_or, Nat.le_refl, hc, hl0, wpA_bind, rdNode, wpA_read ho, wpA_ret, hs, List.nil_append, List.append_nil, List.append_assoc, List.singleton_append]
    · cases hT
  · cases hT

theorem optNat_someN {C : Caller} {A : Asr} {x : Operand} {k : IntKind} {n : Nat} {dflt : Nat} (h : opd A x = some (.val (.int k (n : Int)))) : wpA C A (optNat (some x) dflt) fun m ls => m = n ∧ ls = rds x := by
  have := optNat_some (C := C) (dflt := dflt) h (Int.natCast_nonneg n)
  simpa using this
theorem wpW_upS {α : Type} {C : Caller} {A : Asr} {x : Rd α} {R : α → Ws → List Mv.Loc → Prop} {ls0 : List Mv.Loc} (h : wpA C A x fun a ls => (∀ l ∈ ls, l ∈ ls0) ∧ R a [] ls0) : wpW C A (up x) R := by
  intro st hs
  obtain ⟨a, ls, h1, h2, h3⟩ := wpA_sound hs _ _ h
  exact ⟨a, [], ls, ls0, run_up x h1, h2, h3⟩
/-- .. from any place -/
theorem x_slice_slx {x : Operand} {T E id g n m l k0 s : Nat} {off : Nat} {lo hi : Option Operand} {es : List AV} {ls1 ls2 : List Mv.Loc} (hx : opd A x = some (.sl id g none off n)) (ho : look A (.h id) = some (.obj g k0 s es)) (hT : elemT cx.P T = some (E, s))
    (hh : wpA (CW cx) A (optNat hi n) fun k ls => k = m ∧ ls = ls1) (hl : wpA (CW cx) A (optNat lo 0) fun k ls => k = l ∧ ls = ls2) (hc : l ≤ m ∧ m ≤ n) (hk : slotOk keep (.t d) (.sl id g none (off + l) (m - l)) = true)
    (h : XR cx keep ops0 r ((.t d, .sl id g none (off + l) (m - l)) :: A) fun A' lg => Q A' ((rds x ++ (ls1 ++ (ls2 ++ [.h id])), [.t d]) :: lg)) : XR cx keep ops0 (⟨some d, .slice T x lo hi none, ty, pos, aft, none⟩ :: r) A Q := by
  by_cases hl0 : l = 0
  · refine x_op (v := .sl id g none (off + l) (m - l)) (ws := []) (ls := rds x ++ (ls1 ++ (ls2 ++ [.h id]))) rfl ?_ (tRefs_one hk) (fun k b hb => by rw [← hb]; exact (look_cons_eq A _ _ k).symm) h
    show wpW (CW cx) A (up (opV cx (.slice T x lo hi none))) _
    refine wpW_upS (ls0 := rds x ++ (ls1 ++ (ls2 ++ [.h id]))) ?_
    unfold elemT at hT
    split at hT
    · rename_i E' hE
      split at hT
      · rename_i hbad'
        simp only [opV, wpA_bind, wpA_rdO hx, sliceA, hE, optNat, wpA_ret, List.nil_append]
        refine wpA_mono ?_ hh
        rintro _ _ ⟨rfl, rfl⟩
        refine wpA_mono ?_ hl
        rintro _ _ ⟨rfl, rfl⟩
        simp only [wpA_need, hbad', ne_eq, not_true_eq_false, false_and, if_false, and_self, and_true, true_and, true_or, Nat.le_refl, hc, hl0, if_true, wpA_ret, Nat.add_zero, Nat.sub_zero, List.append_nil]
        refine ⟨Nat.zero_le _, fun q hq => ?_⟩
        simp only [List.mem_append] at hq ⊢
        rcases hq with hq | hq | hq
        · exact .inl hq
        · exact .inr (.inl hq)
        · exact .inr (.inr (.inl hq))
      · cases hT
    · cases hT
  · exact x_slice_slo hx ho hT hh hl hc hl0 hk h

/-- s[:len(s):len(s)] -/
theorem x_clip {x : Operand} {T E id g n : Nat} {hi mx : Operand} {k k' : IntKind} (hx : opd A x = some (.sl id g none 0 n)) (hT : (tyS cx.P T).k = .slice E) (hb : isBad (tyS cx.P E).k = false)
    (hh : opd A hi = some (.val (.int k n))) (hm : opd A mx = some (.val (.int k' n))) (hk : slotOk keep (.t d) (.sl id g none 0 n) = true)
    (h0 : n = 0 → XR cx keep ops0 r ((.t d, .nil) :: A) fun A' lg => Q A' ((rds x ++ (rds mx ++ rds hi), [.t d]) :: lg))
    (h : n ≠ 0 → XR cx keep ops0 r ((.t d, .sl id g none 0 n) :: A) fun A' lg => Q A' ((rds x ++ (rds mx ++ rds hi), [.t d]) :: lg)) : XR cx keep ops0 (⟨some d, .slice T x none (some hi) (some mx), ty, pos, aft, none⟩ :: r) A Q := by
  have e : (n : Int).toNat = n := by simp
  by_cases hn : n = 0
  · refine x_val (v := .nil) (fun o ho => by simp only [aopV, ho]) ?_ (by simp [slotOk, refOkV, refsOk]) (h0 hn)
    simp only [opV, wpA_bind, wpA_rdO hx, sliceA, hT, optNat, wpA_rdO hh, wpA_rdO hm, wpA_asNat (Int.natCast_nonneg n), e, wpA_ret, wpA_need, hb]
    simp [hn, wpA]
  · refine x_val (v := .sl id g none 0 n) (fun o ho => by simp only [aopV, ho]) ?_ hk (h hn)
    simp only [opV, wpA_bind, wpA_rdO hx, sliceA, hT, optNat, wpA_rdO hh, wpA_rdO hm, wpA_asNat (Int.natCast_nonneg n), e, wpA_ret, wpA_need, hb]
    simp [hn, wpA]

/-- an owned slice goes over to a variable, its end cut off -/
theorem x_assign_selfT {x : Operand} {g s n : Nat} {es : List AV} (hx : opd A x = some (.sl d g none 0 n)) (ho : look A (.h d) = some (.obj g 0 s es)) (hn : n ≤ es.length)
    (hko : slotOk keep (.h d) (.obj g 0 s (es.take n)) = true) (hk : slotOk keep (.t d) (.sl d g none 0 n) = true)
    (h : XR cx keep ops0 r ((.t d, .sl d g none 0 n) :: (.h d, .obj g 0 s (es.take n)) :: A) fun A' lg => Q A' ((rds x ++ [.h d], [.h d, .t d]) :: lg)) :
    XR cx keep ops0 (⟨some d, .assign x, ty, pos, aft, none⟩ :: r) A Q := by
  refine x_op (v := .sl d g none 0 n) (ws := [(.h d, .obj g 0 s (es.take n))]) (ls := rds x ++ [.h d]) rfl ?_ (tRefs_cons hko (tRefs_one hk)) (wk_put2 _ _ _ _ _) h
  simp only [aopV]
  refine wpW_bind (wpW_rdO hx ?_)
  simp only [assignA]
  refine wpW_bind (wpW_node ho ?_)
  simp only [if_true]
  refine wpW_bind (wpW_need hn (wpW_bind (wpW_wr (wpW_pure ?_))))
  exact ⟨rfl, by simp, by simp⟩
end

theorem hasListL_mapF {α : Type} {f : α → AV} {xs : List α} (h : ∀ a, hasList (f a) = false) : hasListL (xs.map f) = false := by
  induction xs with
  | nil => rfl
  | cons x xs ih => simp [hasListL, h, ih]
theorem outs1 {α : Type} {f : α → AV} {xs : List α} (h : ∀ a, hasList (f a) = false) : [xs.map f].any hasListL = false := by
  simp [hasListL_mapF h]
/-! ### joins -/
abbrev Jn := Nat × Nat × Int
abbrev F_Join (j : Jn) : AV := .agg [iV j.1, iV j.2.1, iV j.2.2]
end Go.Mv
end

section
/- Distances: the least greatest steps, and joins. -/
namespace Go.Mv
open Classical

/-- a square with nothing from each to itself -/
def ZD (n : Nat) (m : List (List Int)) : Prop := Sq n m ∧ (∀ i, i < n → G m i i = 0) ∧ ∀ i k, i < n → k < n → 0 ≤ G m i k
def nw (m : List (List Int)) (v a b : Nat) : Int := min (G m a b) (max (G m a v) (G m v b))

theorem nw_row {n : Nat} {m : List (List Int)} (h : ZD n m) {v b : Nat} (hv : v < n) (hb : b < n) : nw m v v b = G m v b := by
  have h1 := h.2.1 v hv
  have h2 := h.2.2 v b hv hb
  unfold nw; omega
theorem nw_col {n : Nat} {m : List (List Int)} (h : ZD n m) {v a : Nat} (hv : v < n) (ha : a < n) : nw m v a v = G m a v := by
  have h1 := h.2.1 v hv
  have h2 := h.2.2 a v ha hv
  unfold nw; omega

theorem fwIn_G {n : Nat} {m X : List (List Int)} (hz : ZD n m) {v i : Nat} (hv : v < n) (hi : i < n) (hX : Sq n X)
    (h : ∀ a b, a < n → b < n → G X a b = if a < i then nw m v a b else G m a b) :
    ∀ k, k ≤ n → ∀ a b, a < n → b < n → G (fwIn X v i k) a b = if a < i ∨ (a = i ∧ b < k) then nw m v a b else G m a b
  | 0, _, a, b, ha, hb => by
    rw [show fwIn X v i 0 = X from rfl, h a b ha hb]
    by_cases h1 : a < i
    · rw [if_pos h1, if_pos (.inl h1)]
    · rw [if_neg h1, if_neg (by omega)]
  | k + 1, hk, a, b, ha, hb => by
    have ih := fwIn_G hz hv hi hX h k (by omega)
    have hs := fwIn_sq hX (v := v) hi k
    rw [show fwIn X v i (k + 1) = relax (fwIn X v i k) v i k from rfl, G_relax hs hi (by omega)]
    by_cases h1 : a = i ∧ b = k
    · obtain ⟨rfl, rfl⟩ := h1
      rw [if_pos ⟨rfl, rfl⟩, if_pos (by omega), ih a b ha hb, ih a v ha hv, ih v b hv hb, if_neg (by omega)]
      have e1 : (if a < a ∨ (a = a ∧ v < b) then nw m v a v else G m a v) = G m a v := by
        split
        · exact nw_col hz hv ha
        · rfl
      have e2 : (if v < a ∨ (v = a ∧ b < b) then nw m v v b else G m v b) = G m v b := by
        split
        · exact nw_row hz hv hb
        · rfl
      rw [e1, e2]
      rfl
    · rw [if_neg h1, ih a b ha hb]
      by_cases h2 : a < i ∨ (a = i ∧ b < k)
      · rw [if_pos h2, if_pos (by omega)]
      · rw [if_neg h2, if_neg (by omega)]

theorem fwMid_G {n : Nat} {m : List (List Int)} (hz : ZD n m) {v : Nat} (hv : v < n) :
    ∀ i, i ≤ n → ∀ a b, a < n → b < n → G (fwMid n m v i) a b = if a < i then nw m v a b else G m a b
  | 0, _, a, b, _, _ => by rw [if_neg (by omega)]; rfl
  | i + 1, hi, a, b, ha, hb => by
    rw [show fwMid n m v (i + 1) = fwIn (fwMid n m v i) v i n from rfl, fwIn_G hz hv (by omega) (fwMid_sq hz.1 i (by omega)) (fwMid_G hz hv i (by omega)) n (Nat.le_refl _) a b ha hb]
    by_cases h2 : a < i + 1
    · rw [if_pos h2, if_pos (by omega)]
    · rw [if_neg h2, if_neg (by omega)]

theorem fwOut_succ {n : Nat} {m : List (List Int)} {v : Nat} (hz : ZD n (fwOut n m v)) (hv : v < n) {a b : Nat} (ha : a < n) (hb : b < n) : G (fwOut n m (v + 1)) a b = nw (fwOut n m v) v a b := by
  rw [show fwOut n m (v + 1) = fwMid n (fwOut n m v) v n from rfl, fwMid_G hz hv n (Nat.le_refl _) a b ha hb, if_pos ha]

theorem fwOut_zd {n : Nat} {m : List (List Int)} (hz : ZD n m) : ∀ v, v ≤ n → ZD n (fwOut n m v)
  | 0, _ => hz
  | v + 1, hv => by
    have ih := fwOut_zd hz v (by omega)
    refine ⟨fwOut_sq hz.1 _, fun i hi => ?_, fun i k hi hk => ?_⟩
    · rw [fwOut_succ ih (by omega) hi hi]
      have h1 := ih.2.1 i hi
      have h2 := ih.2.2 i v hi (by omega)
      unfold nw; omega
    · rw [fwOut_succ ih (by omega) hi hk]
      have h1 := ih.2.2 i k hi hk
      have h2 := ih.2.2 i v hi (by omega)
      unfold nw; omega

theorem fwOut_tri {n : Nat} {m : List (List Int)} (hz : ZD n m) : ∀ v, v ≤ n → ∀ i k u, i < n → k < n → u < v → G (fwOut n m v) i k ≤ max (G (fwOut n m v) i u) (G (fwOut n m v) u k)
  | 0, _, _, _, _, _, _, hu => by omega
  | v + 1, hv, i, k, u, hi, hk, hu => by
    have ih := fwOut_tri hz v (by omega)
    have zd := fwOut_zd hz v (by omega)
    have hvn : v < n := by omega
    rw [fwOut_succ zd hvn hi hk, fwOut_succ zd hvn hi (by omega), fwOut_succ zd hvn (by omega) hk]
    rcases Nat.lt_succ_iff_lt_or_eq.1 hu with h | h
    · have e1 := ih i k u hi hk h
      have e2 := ih v k u hvn hk h
      have e3 := ih i v u hi hvn h
      have e4 := ih v v u hvn hvn h
      unfold nw; omega
    · subst h
      rw [nw_col zd hvn hi, nw_row zd hvn hk]
      unfold nw; omega

theorem VG.zd {gs : List (List Int)} (h : VG gs) : ZD gs.length gs := ⟨h.sq, fun i hi => (h.1 i hi).2.1, fun i k hi hk => (h.pos hi hk).1⟩
theorem fw_len {n : Nat} {m : List (List Int)} (h : Sq n m) : (fw m).length = n := (fw_sq h).1
theorem fw_tri {gs : List (List Int)} (h : ZD gs.length gs) {i k u : Nat} (hi : i < gs.length) (hk : k < gs.length) (hu : u < gs.length) : G (fw gs) i k ≤ max (G (fw gs) i u) (G (fw gs) u k) :=
  fwOut_tri h gs.length (Nat.le_refl _) i k u hi hk hu
theorem fw_zd {gs : List (List Int)} (h : ZD gs.length gs) : ZD gs.length (fw gs) := fwOut_zd h _ (Nat.le_refl _)
theorem fwOut_sym {n : Nat} {m : List (List Int)} (hz : ZD n m) (hs : ∀ i k, i < n → k < n → G m i k = G m k i) : ∀ v, v ≤ n → ∀ i k, i < n → k < n → G (fwOut n m v) i k = G (fwOut n m v) k i
  | 0, _, i, k, hi, hk => hs i k hi hk
  | v + 1, hv, i, k, hi, hk => by
    have ih := fwOut_sym hz hs v (by omega)
    have zd := fwOut_zd hz v (by omega)
    rw [fwOut_succ zd (by omega) hi hk, fwOut_succ zd (by omega) hk hi]
    unfold nw
    rw [ih i k hi hk, ih i v hi (by omega), ih v k (by omega) hk]
    omega
/-- what is below all distances, and a tree, is below the least steps -/
theorem fwOut_low {n : Nat} {m : List (List Int)} (hz : ZD n m) {U : Nat → Nat → Int} (hU : ∀ i k u, i < n → k < n → u < n → U i k ≤ max (U i u) (U u k)) (hm : ∀ i k, i < n → k < n → U i k ≤ G m i k) :
    ∀ v, v ≤ n → ∀ i k, i < n → k < n → U i k ≤ G (fwOut n m v) i k
  | 0, _, i, k, hi, hk => hm i k hi hk
  | v + 1, hv, i, k, hi, hk => by
    have ih := fwOut_low hz hU hm v (by omega)
    have zd := fwOut_zd hz v (by omega)
    rw [fwOut_succ zd (by omega) hi hk]
    have h1 := ih i k hi hk
    have h2 := ih i v hi (by omega)
    have h3 := ih v k (by omega) hk
    have h4 := hU i k v hi hk (by omega)
    unfold nw; omega
theorem fw_low {gs : List (List Int)} (hz : ZD gs.length gs) {U : Nat → Nat → Int} (hU : ∀ i k u, i < gs.length → k < gs.length → u < gs.length → U i k ≤ max (U i u) (U u k)) (hm : ∀ i k, i < gs.length → k < gs.length → U i k ≤ G gs i k)
    {i k : Nat} (hi : i < gs.length) (hk : k < gs.length) : U i k ≤ G (fw gs) i k := fwOut_low hz hU hm gs.length (Nat.le_refl _) i k hi hk
/-! ### joins -/
def Lab (g : List Int) (i k : Nat) : Prop := g.getD i default = g.getD k default
def mergeL (g : List Int) (a b : Nat) : List Int := g.map fun x => if x = g.getD b default then g.getD a default else x
def SameP (n : Nat) (g g2 : List Int) : Prop := ∀ i k, i < n → k < n → (Lab g i k ↔ Lab g2 i k)
def JnOk (gs : List (List Int)) (n : Nat) (g : List Int) (j : Jn) : Prop :=
  j.1 < n ∧ j.2.1 < n ∧ ¬ Lab g j.1 j.2.1 ∧ j.2.2 = G gs j.1 j.2.1 ∧ ∀ i k, i < n → k < n → ¬ Lab g i k → j.2.2 ≤ G gs i k
def JSteps (gs : List (List Int)) (n : Nat) : List Int → List Jn → List Int → Prop
  | g, [], g2 => SameP n g g2
  | g, j :: r, g2 => JnOk gs n g j ∧ JSteps gs n (mergeL g j.1 j.2.1) r g2

theorem getD_map_lt {g : List Int} {f : Int → Int} {i : Nat} (hi : i < g.length) : (g.map f).getD i default = f (g.getD i default) := by
  rw [List.getD_eq_getElem?_getD, List.getD_eq_getElem?_getD, List.getElem?_map, List.getElem?_eq_getElem hi]
  rfl
theorem Lab_merge {g : List Int} {n a b i k : Nat} (hg : g.length = n) (hi : i < n) (hk : k < n) : Lab (mergeL g a b) i k ↔ Lab g i k ∨ (Lab g i a ∧ Lab g b k) ∨ (Lab g i b ∧ Lab g a k) := by
  unfold Lab mergeL
  rw [getD_map_lt (by omega), getD_map_lt (by omega)]
  split <;> split <;> omega
@[simp] theorem mergeL_length (g : List Int) (a b : Nat) : (mergeL g a b).length = g.length := by simp [mergeL]
theorem SameP.merge {n : Nat} {g g2 : List Int} (h : SameP n g g2) (hg : g.length = n) (hg2 : g2.length = n) {a b : Nat} (ha : a < n) (hb : b < n) : SameP n (mergeL g a b) (mergeL g2 a b) := by
  intro i k hi hk
  rw [Lab_merge hg hi hk, Lab_merge hg2 hi hk, h i k hi hk, h i a hi ha, h b k hb hk, h i b hi hb, h a k ha hk]
theorem SameP.trans {n : Nat} {g g2 g3 : List Int} (h : SameP n g g2) (h2 : SameP n g2 g3) : SameP n g g3 := fun i k hi hk => (h i k hi hk).trans (h2 i k hi hk)
theorem JnOk.same {gs : List (List Int)} {n : Nat} {g g2 : List Int} {j : Jn} (h : JnOk gs n g2 j) (hs : SameP n g g2) : JnOk gs n g j := by
  obtain ⟨h1, h2, h3, h4, h5⟩ := h
  exact ⟨h1, h2, fun h => h3 ((hs _ _ h1 h2).1 h), h4, fun i k hi hk hne => h5 i k hi hk fun h => hne ((hs i k hi hk).2 h)⟩
theorem JSteps.snoc {gs : List (List Int)} {n : Nat} : ∀ {js : List Jn} {g g2 g3 : List Int} {j : Jn}, g.length = n → g2.length = n → JSteps gs n g js g2 → JnOk gs n g2 j → SameP n (mergeL g2 j.1 j.2.1) g3 → JSteps gs n g (js ++ [j]) g3
  | [], g, g2, g3, j, hg, hg2, h, hj, h3 => ⟨hj.same h, SameP.trans (SameP.merge h hg hg2 hj.1 hj.2.1) h3⟩
  | j0 :: r, g, g2, g3, j, hg, hg2, h, hj, h3 => ⟨h.1, JSteps.snoc (by rw [mergeL_length]; exact hg) hg2 h.2 hj h3⟩

/-- what is known of the distances in groups -/
def KI (gs : List (List Int)) (g : List Int) (out : List (List Int)) : Prop :=
  Sq gs.length out ∧ g.length = gs.length ∧ ∀ i k, i < gs.length → k < gs.length → Lab g i k → G out i k = G (fw gs) i k ∧ ∀ i' k', i' < gs.length → k' < gs.length → ¬ Lab g i' k' → G (fw gs) i k ≤ G gs i' k'

theorem KI.step {gs : List (List Int)} (hv : VG gs) {g : List Int} {out out' : List (List Int)} {j : Jn} (h : KI gs g out) (hj : JnOk gs gs.length g j) (hs : Sq gs.length out')
    (ho : ∀ i k, i < gs.length → k < gs.length → G out' i k = if (Lab g i j.1 ∧ Lab g k j.2.1) ∨ (Lab g k j.1 ∧ Lab g i j.2.1) then j.2.2 else G out i k) : KI gs (mergeL g j.1 j.2.1) out' := by
  obtain ⟨a, b, hh⟩ := j
  obtain ⟨ha, hb, hne, hgap, hmin⟩ := hj
  simp only at ha hb hne hgap hmin ho ⊢
  obtain ⟨h1, h2, h3⟩ := h
  have sy : ∀ {i k : Nat}, Lab g i k → Lab g k i := fun h => h.symm
  have tr : ∀ {i k l : Nat}, Lab g i k → Lab g k l → Lab g i l := fun h h' => Eq.trans h h'
  -- the step between two groups
  have key : ∀ i k, i < gs.length → k < gs.length → Lab g i a → Lab g k b → G (fw gs) i k = hh ∧ G (fw gs) k i = hh := by
    intro i k hi hk hia hkb
    have low : ∀ {x0 y0 : Nat}, x0 < gs.length → y0 < gs.length → (if Lab g x0 y0 then 0 else hh) ≤ G (fw gs) x0 y0 := fun {x0 y0} hx0 hy0 => fw_low hv.zd (U := fun x y => if Lab g x y then 0 else hh) (fun x y u hx hy hu => by
      have hpos : 0 ≤ hh := by rw [hgap]; exact (hv.pos ha hb).1
      show (if Lab g x y then 0 else hh) ≤ max (if Lab g x u then 0 else hh) (if Lab g u y then 0 else hh)
      by_cases e1 : Lab g x u
      · by_cases e2 : Lab g u y
        · rw [if_pos (tr e1 e2), if_pos e1, if_pos e2]; omega
        · rw [if_neg e2]; split <;> (try split) <;> omega
      · rw [if_neg e1]; split <;> (try split) <;> omega) (fun x y hx hy => by
      show (if Lab g x y then 0 else hh) ≤ _
      by_cases e : Lab g x y
      · rw [if_pos e]; exact (hv.pos hx hy).1
      · rw [if_neg e]; exact hmin x y hx hy e) hx0 hy0
    have hik : ¬ Lab g i k := fun e => hne (tr (tr (sy hia) e) hkb)
    have l1 := low hi hk
    rw [if_neg hik] at l1
    have hsym : G (fw gs) i k = G (fw gs) k i := fwOut_sym hv.zd (fun i k hi hk => hv.sym hi hk) gs.length (Nat.le_refl _) i k hi hk
    have u1 := (h3 i a hi ha hia).2 a b ha hb hne
    have u2 := (h3 b k hb hk (sy hkb)).2 a b ha hb hne
    have u3 := fw_le hv.sq a b
    have t1 := fw_tri hv.zd hi hk ha
    have t2 := fw_tri hv.zd ha hk hb
    omega
  refine ⟨hs, by rw [mergeL_length]; exact h2, fun i k hi hk hl => ?_⟩
  have hl' := (Lab_merge h2 hi hk).1 hl
  have cross : ∀ i' k', i' < gs.length → k' < gs.length → ¬ Lab (mergeL g a b) i' k' → ¬ Lab g i' k' := fun i' k' hi' hk' hn e => hn ((Lab_merge h2 hi' hk').2 (.inl e))
  rcases hl' with e | ⟨e1, e2⟩ | ⟨e1, e2⟩
  · have hno : ¬ ((Lab g i a ∧ Lab g k b) ∨ (Lab g k a ∧ Lab g i b)) := by
      rintro (⟨q1, q2⟩ | ⟨q1, q2⟩)
      · exact hne (tr (tr (sy q1) e) q2)
      · exact hne (tr (tr (sy q1) (sy e)) q2)
    rw [ho i k hi hk, if_neg hno]
    obtain ⟨p1, p2⟩ := h3 i k hi hk e
    exact ⟨p1, fun i' k' hi' hk' hn => p2 i' k' hi' hk' (cross i' k' hi' hk' hn)⟩
  · rw [ho i k hi hk, if_pos (.inl ⟨e1, sy e2⟩)]
    have p := (key i k hi hk e1 (sy e2)).1
    exact ⟨p.symm, fun i' k' hi' hk' hn => by rw [p]; exact hmin i' k' hi' hk' (cross i' k' hi' hk' hn)⟩
  · rw [ho i k hi hk, if_pos (.inr ⟨sy e2, e1⟩)]
    have p := (key k i hk hi (sy e2) e1).2
    exact ⟨p.symm, fun i' k' hi' hk' hn => by rw [p]; exact hmin i' k' hi' hk' (cross i' k' hi' hk' hn)⟩
theorem KI.start {gs : List (List Int)} (hv : VG gs) {g : List Int} (hg : g.length = gs.length) (hd : ∀ i, i < gs.length → g.getD i default = (i : Int)) {out : List (List Int)} (hs : Sq gs.length out) (ho : ∀ i k, i < gs.length → k < gs.length → G out i k = 0) : KI gs g out := by
  refine ⟨hs, hg, fun i k hi hk hl => ?_⟩
  unfold Lab at hl
  rw [hd i hi, hd k hk] at hl
  have e : i = k := by omega
  subst e
  rw [ho i i hi hi, (fw_zd hv.zd).2.1 i hi]
  refine ⟨rfl, fun i' k' hi' hk' _ => (hv.pos hi' hk').1⟩
theorem KI.fin {gs : List (List Int)} (hv : VG gs) {g : List Int} {out : List (List Int)} (h : KI gs g out) (ha : ∀ i k, i < gs.length → k < gs.length → Lab g i k) : out = fw gs := by
  have hl := fw_len hv.sq
  refine list_ext_getD (d := default) (by rw [h.1.1, hl]) fun i hi => list_ext_getD (d := default) ?_ fun k hk => ?_
  · rw [h.1.1] at hi
    rw [h.1.2 i hi, (fw_zd hv.zd).1.2 i hi]
  · rw [h.1.1] at hi
    rw [h.1.2 i hi] at hk
    exact (h.2.2 i k hi hk (ha i k hi hk)).1
end Go.Mv
end

section
/- Joins: groups, the least pair, the pairs seen. -/
namespace Go.Mv

def idn (n : Nat) : List Int := (List.range n).map Int.ofNat
@[simp] theorem idn_length (n : Nat) : (idn n).length = n := by simp [idn]
theorem idn_getD {n i : Nat} (h : i < n) : (idn n).getD i default = (i : Int) := by
  unfold idn
  rw [List.getD_eq_getElem?_getD, List.getElem?_map, List.getElem?_range h]; rfl
/-- the groups' names -/
def Al (n : Nat) (g : List Int) (k : Nat) : Prop := ∃ al : List Int, al.Nodup ∧ al.length = k ∧ (∀ i, i < n → g.getD i default ∈ al) ∧ (∀ v ∈ al, ∃ i, i < n ∧ g.getD i default = v)
theorem Al.start (n : Nat) : Al n (idn n) n := by
  refine ⟨idn n, ?_, by simp, fun i hi => ?_, fun v hv => ?_⟩
  · unfold idn
    rw [List.nodup_iff_pairwise_ne, List.pairwise_map]
    exact (List.nodup_iff_pairwise_ne.1 List.nodup_range).imp fun h e => h (Int.ofNat.inj e)
  · exact getD_mem (by simpa using hi)
  · unfold idn at hv
    obtain ⟨i, hi, rfl⟩ := List.mem_map.1 hv
    exact ⟨i, by simpa using hi, idn_getD (by simpa using hi)⟩
theorem Al.merge {n k : Nat} {g : List Int} (h : Al n g k) (hg : g.length = n) {a b : Nat} (ha : a < n) (hb : b < n) (hne : ¬ Lab g a b) : Al n (mergeL g a b) (k - 1) ∧ 1 ≤ k := by
  obtain ⟨al, h1, h2, h3, h4⟩ := h
  have hbm := h3 b hb
  have hpos : 1 ≤ al.length := List.length_pos_of_mem hbm
  refine ⟨⟨al.erase (g.getD b default), h1.erase _, by rw [List.length_erase_of_mem hbm, h2], fun i hi => ?_, fun v hv => ?_⟩, by omega⟩
  · unfold mergeL
    rw [getD_map_lt (by omega), List.Nodup.mem_erase_iff h1]
    split
    · exact ⟨hne, h3 a ha⟩
    · rename_i h5; exact ⟨h5, h3 i hi⟩
  · rw [List.Nodup.mem_erase_iff h1] at hv
    obtain ⟨i, hi, hiv⟩ := h4 v hv.2
    refine ⟨i, hi, ?_⟩
    unfold mergeL
    rw [getD_map_lt (by omega), hiv, if_neg hv.1]
theorem Al.two {n k : Nat} {g : List Int} (h : Al n g k) (hk : 2 ≤ k) : ∃ x y, x < y ∧ y < n ∧ ¬ Lab g x y := by
  obtain ⟨al, h1, h2, h3, h4⟩ := h
  match al, h2 with
  | v1 :: v2 :: r, _ =>
    obtain ⟨i, hi, hiv⟩ := h4 v1 (by simp)
    obtain ⟨j, hj, hjv⟩ := h4 v2 (by simp)
    have hne : v1 ≠ v2 := by
      have := (List.nodup_cons.1 h1).1
      intro e; subst e; simp at this
    rcases Nat.lt_trichotomy i j with h5 | h5 | h5
    · exact ⟨i, j, h5, hj, fun e => hne (by unfold Lab at e; rw [← hiv, ← hjv, e])⟩
    · subst h5; exact absurd (hiv.symm.trans hjv) hne
    · exact ⟨j, i, h5, hi, fun e => hne (by unfold Lab at e; rw [← hiv, ← hjv, e])⟩
  | [_], h2 => simp at h2; omega
  | [], h2 => simp at h2; omega
theorem Al.one {n k : Nat} {g : List Int} (h : Al n g k) (hk : k ≤ 1) {i j : Nat} (hi : i < n) (hj : j < n) : Lab g i j := by
  obtain ⟨al, h1, h2, h3, h4⟩ := h
  match al, h2 with
  | [v], _ =>
    have a1 := h3 i hi
    have a2 := h3 j hj
    simp only [List.mem_singleton] at a1 a2
    unfold Lab; rw [a1, a2]
  | [], _ => exact absurd (h3 i hi) (by simp)
  | _ :: _ :: _, h2 => simp at h2; omega

/-- the least pair so far -/
def Bst (gs : List (List Int)) (n : Nat) (g : List Int) (a b : Nat) (j : Jn) : Prop :=
  (∀ x y, x < y → y < n → (x < a ∨ (x = a ∧ y < b)) → ¬ Lab g x y → j.2.2 ≤ G gs x y) ∧ (j.2.2 = 41 ∨ (j.1 < n ∧ j.2.1 < n ∧ ¬ Lab g j.1 j.2.1 ∧ j.2.2 = G gs j.1 j.2.1))
theorem Bst.start (gs : List (List Int)) (n : Nat) (g : List Int) : Bst gs n g 0 0 (0, 0, 41) := ⟨fun x y _ _ h => by omega, .inl rfl⟩
theorem Bst.row {gs : List (List Int)} {n : Nat} {g : List Int} {a : Nat} {j : Jn} (h : Bst gs n g a 0 j) : Bst gs n g a (a + 1) j := ⟨fun x y h1 h2 h3 => h.1 x y h1 h2 (by omega), h.2⟩
theorem Bst.take {gs : List (List Int)} {n : Nat} {g : List Int} {a b : Nat} {j : Jn} (h : Bst gs n g a b j) (hab : a < b) (hb : b < n) (hne : ¬ Lab g a b) (hlt : G gs a b < j.2.2) : Bst gs n g a (b + 1) (a, b, G gs a b) := by
  refine ⟨fun x y h1 h2 h3 h4 => ?_, .inr ⟨by simp only; omega, hb, hne, rfl⟩⟩
  by_cases e : x = a ∧ y = b
  · obtain ⟨rfl, rfl⟩ := e; exact Int.le_refl _
  · have := h.1 x y h1 h2 (by omega) h4
    simp only; omega
theorem Bst.ok {gs : List (List Int)} (hv : VG gs) {g : List Int} {k : Nat} {a : Nat} {j : Jn} (h : Bst gs gs.length g a 0 j) (ha : gs.length ≤ a) (hk : Al gs.length g k) (h2 : 2 ≤ k) : JnOk gs gs.length g j := by
  obtain ⟨x, y, hxy, hy, hne⟩ := hk.two h2
  have h1 := h.1 x y hxy hy (by omega) hne
  have h3 := (hv.pos (a := x) (b := y) (by omega) hy).2
  rcases h.2 with h4 | ⟨p1, p2, p3, p4⟩
  · omega
  · refine ⟨p1, p2, p3, p4, fun i k hi hk hn => ?_⟩
    rcases Nat.lt_trichotomy i k with h5 | h5 | h5
    · exact h.1 i k h5 hk (by omega) hn
    · subst h5; exact absurd rfl hn
    · have := h.1 k i h5 hi (by omega) (fun e => hn e.symm)
      rw [hv.sym hi hk]; exact this

/-- the pairs that are joined already -/
def Seen (gs : List (List Int)) (n : Nat) (g : List Int) (h : Int) (a b : Nat) : Prop :=
  ∀ x y, x < y → y < n → (G gs x y < h ∨ (G gs x y = h ∧ (x < a ∨ (x = a ∧ y < b)))) → Lab g x y
theorem Seen.row {gs : List (List Int)} {n : Nat} {g : List Int} {h : Int} {a : Nat} (hs : Seen gs n g h a 0) : Seen gs n g h a (a + 1) := fun x y h1 h2 h3 => hs x y h1 h2 (by omega)
theorem Seen.next {gs : List (List Int)} {n : Nat} {g : List Int} {h : Int} {a : Nat} (hs : Seen gs n g h a 0) (ha : n ≤ a) : Seen gs n g (h + 1) 0 0 := fun x y h1 h2 h3 => hs x y h1 h2 (by omega)
theorem Seen.ok {gs : List (List Int)} (hv : VG gs) {g : List Int} {h : Int} {a b : Nat} (hs : Seen gs gs.length g h a b) (hab : a < b) (hb : b < gs.length) (hh : G gs a b = h) (hne : ¬ Lab g a b) : JnOk gs gs.length g (a, b, h) := by
  refine ⟨by simp only; omega, hb, hne, hh.symm, fun i k hi hk hn => ?_⟩
  rcases Nat.lt_trichotomy i k with h5 | h5 | h5
  · exact Int.not_lt.1 fun h6 => hn (hs i k h5 hk (.inl h6))
  · subst h5; exact absurd rfl hn
  · refine Int.not_lt.1 fun h6 => hn (hs k i h5 hi (.inl ?_)).symm
    rw [hv.sym hk hi]; exact h6
/-- the lesser name for the greater -/
def mergeM (g : List Int) (a b : Nat) : List Int := g.map fun x => if x = max (g.getD a default) (g.getD b default) then min (g.getD a default) (g.getD b default) else x
theorem mergeM_or (g : List Int) (a b : Nat) : mergeM g a b = mergeL g a b ∨ mergeM g a b = mergeL g b a := by
  unfold mergeM mergeL
  rcases Int.le_total (g.getD a default) (g.getD b default) with h | h
  · left; rw [Int.max_eq_right h, Int.min_eq_left h]
  · right; rw [Int.max_eq_left h, Int.min_eq_right h]
@[simp] theorem mergeM_length (g : List Int) (a b : Nat) : (mergeM g a b).length = g.length := by simp [mergeM]
theorem mergeM_same {g : List Int} {n a b : Nat} (hg : g.length = n) : SameP n (mergeL g a b) (mergeM g a b) := by
  intro i k hi hk
  rcases mergeM_or g a b with e | e <;> rw [e]
  rw [Lab_merge hg hi hk, Lab_merge hg hi hk]
  unfold Lab; omega
theorem Al.mergeM {n k : Nat} {g : List Int} (h : Al n g k) (hg : g.length = n) {a b : Nat} (ha : a < n) (hb : b < n) (hne : ¬ Lab g a b) : Al n (mergeM g a b) (k - 1) ∧ 1 ≤ k := by
  rcases mergeM_or g a b with e | e <;> rw [e]
  · exact h.merge hg ha hb hne
  · exact h.merge hg hb ha fun e => hne e.symm
theorem Seen.merge {gs : List (List Int)} {g : List Int} {h : Int} {a b : Nat} (hs : Seen gs gs.length g h a b) (hg : g.length = gs.length) (ha : a < gs.length) (hb : b < gs.length) : Seen gs gs.length (mergeM g a b) h a (b + 1) := by
  intro x y h1 h2 h3
  refine (mergeM_same hg x y (by omega) h2).1 ((Lab_merge hg (by omega) h2).2 ?_)
  by_cases e : x = a ∧ y = b
  · obtain ⟨rfl, rfl⟩ := e
    exact .inr (.inl ⟨rfl, rfl⟩)
  · exact .inl (hs x y h1 h2 (by omega))
theorem Seen.all {gs : List (List Int)} (hv : VG gs) {g : List Int} (hs : Seen gs gs.length g 41 0 0) {i k : Nat} (hi : i < gs.length) (hk : k < gs.length) : Lab g i k := by
  have h0 := (hv.pos hi hk).2
  rcases Nat.lt_trichotomy i k with h5 | h5 | h5
  · exact hs i k h5 hk (.inl (by omega))
  · subst h5; rfl
  · exact (hs k i h5 hi (.inl (by rw [hv.sym hk hi]; omega))).symm
theorem Seen.start {gs : List (List Int)} (hv : VG gs) (g : List Int) : Seen gs gs.length g 1 0 0 := by
  intro x y h1 h2 h3
  have := (hv.1 y h2).2.2 x h1
  obtain ⟨q1, q2, q3⟩ := this
  omega
theorem map_upto {g m : List Int} {n : Nat} {f : Int → Int} (hg : g.length = n) (hm : m.length = n) (h : ∀ j, j < n → m.getD j default = f (g.getD j default)) : m = g.map f :=
  list_ext_getD (d := default) (by simp [hg, hm]) fun j hj => by rw [h j (by omega), getD_map_lt (by omega)]
end Go.Mv
end

section
/- Loops that relabel, and that put a number into some cells. -/
namespace Go.Mv

/-- the first i are changed -/
def Upto (f : Int → Int) (g m : List Int) (i : Nat) : Prop := i ≤ g.length ∧ m.length = g.length ∧ ∀ j, j < g.length → m.getD j default = if j < i then f (g.getD j default) else g.getD j default
theorem Upto.start (f : Int → Int) (g : List Int) : Upto f g g 0 := ⟨Nat.zero_le _, rfl, fun j _ => by rw [if_neg (by omega)]⟩
theorem Upto.cur {f : Int → Int} {g m : List Int} {i : Nat} (h : Upto f g m i) (hi : i < g.length) : m.getD i default = g.getD i default := by rw [h.2.2 i hi, if_neg (by omega)]
theorem Upto.set {f : Int → Int} {g m : List Int} {i : Nat} (h : Upto f g m i) (hi : i < g.length) {v : Int} (hv : v = f (g.getD i default)) : Upto f g (m.set i v) (i + 1) := by
  refine ⟨by omega, by simp [h.2.1], fun j hj => ?_⟩
  rw [getD_set _ _ _ _ (by rw [h.2.1]; exact hi)]
  by_cases e : j = i
  · subst e; rw [if_pos rfl, if_pos (by omega), hv]
  · rw [if_neg e, h.2.2 j hj]
    by_cases h2 : j < i
    · rw [if_pos h2, if_pos (by omega)]
    · rw [if_neg h2, if_neg (by omega)]
theorem Upto.skip {f : Int → Int} {g m : List Int} {i : Nat} (h : Upto f g m i) (hi : i < g.length) (hv : f (g.getD i default) = g.getD i default) : Upto f g m (i + 1) := by
  refine ⟨by omega, h.2.1, fun j hj => ?_⟩
  rw [h.2.2 j hj]
  by_cases e : j = i
  · subst e; rw [if_neg (by omega), if_pos (by omega), hv]
  · by_cases h2 : j < i
    · rw [if_pos h2, if_pos (by omega)]
    · rw [if_neg h2, if_neg (by omega)]
theorem Upto.fin {f : Int → Int} {g m : List Int} {i : Nat} (h : Upto f g m i) (hi : g.length ≤ i) : m = g.map f := map_upto rfl h.2.1 fun j hj => by rw [h.2.2 j hj, if_pos (by omega)]
/-- a number in some cells -/
def Put (n : Nat) (c : Nat → Nat → Prop) (h : Int) (m m' : List (List Int)) : Prop := Sq n m' ∧ ∀ i k, i < n → k < n → (c i k → G m' i k = h) ∧ (¬ c i k → G m' i k = G m i k)
theorem Put.congr {n : Nat} {c c' : Nat → Nat → Prop} {h : Int} {m m' : List (List Int)} (hp : Put n c h m m') (he : ∀ i k, i < n → k < n → (c i k ↔ c' i k)) : Put n c' h m m' :=
  ⟨hp.1, fun i k hi hk => ⟨fun hc => (hp.2 i k hi hk).1 ((he i k hi hk).2 hc), fun hc => (hp.2 i k hi hk).2 fun h => hc ((he i k hi hk).1 h)⟩⟩
theorem G_set {n : Nat} {m : List (List Int)} (h : Sq n m) {i k : Nat} (hi : i < n) (hk : k < n) (x : Int) (a b : Nat) :
    G (m.set i ((m.getD i default).set k x)) a b = if a = i ∧ b = k then x else G m a b := by
  unfold G
  rw [getD_set _ _ _ _ (by rw [h.1]; exact hi)]
  by_cases h1 : a = i
  · subst h1
    rw [if_pos rfl, getD_set _ _ _ _ (by rw [h.2 a hi]; exact hk)]
    by_cases h2 : b = k
    · subst h2; simp
    · simp [h2]
  · rw [if_neg h1, if_neg (by intro h2; exact h1 h2.1)]
theorem Put.cell {n : Nat} {c : Nat → Nat → Prop} {h : Int} {m m' : List (List Int)} (hp : Put n c h m m') {i k : Nat} (hi : i < n) (hk : k < n) :
    Put n (fun x y => c x y ∨ (x = i ∧ y = k)) h m (m'.set i ((m'.getD i default).set k h)) := by
  refine ⟨set_cell_sq hp.1 hi, fun a b ha hb => ?_⟩
  rw [G_set hp.1 hi hk]
  by_cases e : a = i ∧ b = k
  · rw [if_pos e]
    exact ⟨fun _ => rfl, fun hn => absurd (.inr e) hn⟩
  · rw [if_neg e]
    have := hp.2 a b ha hb
    exact ⟨fun h => this.1 (h.resolve_right e), fun hn => this.2 fun h => hn (.inl h)⟩
theorem Put.start {n : Nat} {m : List (List Int)} (hs : Sq n m) (C : Nat → Nat → Prop) (h : Int) : Put n (fun x y => x < 0 ∧ C x y) h m m := ⟨hs, fun i k _ _ => ⟨fun h => absurd h.1 (by omega), fun _ => rfl⟩⟩
abbrev C2 (a b : Nat) (C : Nat → Nat → Prop) : Nat → Nat → Prop := fun x y => (x < a ∨ (x = a ∧ y < b)) ∧ C x y
theorem Put.row {n a : Nat} {C : Nat → Nat → Prop} {h : Int} {m m' : List (List Int)} (hp : Put n (fun x y => x < a ∧ C x y) h m m') : Put n (C2 a 0 C) h m m' :=
  hp.congr fun i k _ _ => ⟨fun h => ⟨.inl h.1, h.2⟩, fun h => ⟨by omega, h.2⟩⟩
/-- both ways at once -/
abbrev D1 (a : Nat) (D : Nat → Nat → Prop) : Nat → Nat → Prop := fun x y => (x < a ∧ D x y) ∨ (y < a ∧ D y x)
abbrev D2 (a b : Nat) (D : Nat → Nat → Prop) : Nat → Nat → Prop := fun x y => C2 a b D x y ∨ C2 a b D y x
/-- the pairs that a join joins -/
abbrev JC (g : List Int) (j : Jn) : Nat → Nat → Prop := fun x y => Lab g x j.1 ∧ Lab g y j.2.1
theorem KI.put {gs : List (List Int)} (hv : VG gs) {g : List Int} {out out' : List (List Int)} {j : Jn} (h : KI gs g out) (hj : JnOk gs gs.length g j) (hp : Put gs.length (fun x y => JC g j x y ∨ JC g j y x) j.2.2 out out') : KI gs (mergeL g j.1 j.2.1) out' :=
  h.step hv hj hp.1 fun i k hi hk => by
    have := hp.2 i k hi hk
    split
    · rename_i hc; exact this.1 (hc.elim .inl fun h => .inr h)
    · rename_i hc; exact this.2 fun h => hc (h.elim .inl fun h => .inr h)
theorem KI.sq {gs : List (List Int)} {g : List Int} {out : List (List Int)} (h : KI gs g out) : Sq gs.length out ∧ g.length = gs.length := ⟨h.1, h.2.1⟩
end Go.Mv
end

section
/- Sorted lists, bits of sets, sets of odds. -/
namespace Go.Mv
open Go

theorem insI_perm (x : Int) (r : List Int) : (insI x r).Perm (x :: r) := by
  induction r with
  | nil => exact .refl _
  | cons y r ih =>
    simp only [insI]
    split
    · exact .refl _
    · exact (List.Perm.cons y ih).trans (List.Perm.swap x y r)
theorem sortI_perm (xs : List Int) : (sortI xs).Perm xs := by
  induction xs with
  | nil => exact .refl _
  | cons x r ih => exact (insI_perm x (sortI r)).trans (List.Perm.cons x ih)
theorem insI_sorted (x : Int) (r : List Int) (h : r.Pairwise (· ≤ ·)) : (insI x r).Pairwise (· ≤ ·) := by
  induction r with
  | nil => simp [insI]
  | cons y r ih =>
    simp only [insI]
    have h2 := List.pairwise_cons.1 h
    split
    · rename_i hxy
      refine List.pairwise_cons.2 ⟨fun z hz => ?_, h⟩
      rcases List.mem_cons.1 hz with rfl | hz
      · exact hxy
      · have := h2.1 z hz; omega
    · rename_i hxy
      refine List.pairwise_cons.2 ⟨fun z hz => ?_, ih h2.2⟩
      rcases List.mem_cons.1 ((insI_perm x r).mem_iff.1 hz) with rfl | hz
      · omega
      · exact h2.1 z hz
theorem sortI_sorted (xs : List Int) : (sortI xs).Pairwise (· ≤ ·) := by
  induction xs with
  | nil => exact .nil
  | cons x r ih => exact insI_sorted x _ ih
theorem sortI_of {xs ys : List Int} (hp : ys.Perm xs) (hs : ys.Pairwise (· ≤ ·)) : ys = sortI xs :=
  List.Perm.eq_of_pairwise (le := (· ≤ ·)) (fun a b _ _ h1 h2 => by omega) hs (sortI_sorted xs) (hp.trans (sortI_perm xs).symm)
theorem sorted_getD {s : List Int} (h : s.Pairwise (· ≤ ·)) {i j : Nat} (hij : i ≤ j) (hj : j < s.length) : s.getD i default ≤ s.getD j default := by
  rw [List.getD_eq_getElem?_getD, List.getD_eq_getElem?_getD, List.getElem?_eq_getElem (by omega), List.getElem?_eq_getElem hj]
  rcases Nat.lt_or_ge i j with h1 | h1
  · exact List.pairwise_iff_getElem.1 h i j (by omega) hj h1
  · have : i = j := by omega
    subst this
    exact Int.le_refl _
theorem mem_getD {xs : List Int} {x : Int} (h : x ∈ xs) : ∃ i, i < xs.length ∧ xs.getD i default = x := by
  obtain ⟨i, hi, rfl⟩ := List.getElem_of_mem h
  exact ⟨i, hi, by rw [List.getD_eq_getElem?_getD, List.getElem?_eq_getElem hi]; rfl⟩
/-- put in behind those that are not greater -/
theorem insert_sorted {out : List Int} {x : Int} {k : Nat} (hs : out.Pairwise (· ≤ ·)) (hk : k ≤ out.length) (h1 : ∀ j, j < k → out.getD j default ≤ x) (h2 : k < out.length → x ≤ out.getD k default) :
    out.take k ++ [x] ++ out.drop k = insI x out := by
  have hp : (out.take k ++ [x] ++ out.drop k).Perm (x :: out) := by
    have := (List.perm_middle (l₁ := out.take k) (l₂ := out.drop k) (a := x))
    rw [List.take_append_drop] at this
    rw [List.append_assoc]; exact this
  have hsrt : (out.take k ++ [x] ++ out.drop k).Pairwise (· ≤ ·) := by
    rw [List.append_assoc, List.pairwise_append]
    refine ⟨hs.take, ?_, ?_⟩
    · rw [List.singleton_append, List.pairwise_cons]
      refine ⟨fun b hb => ?_, hs.drop⟩
      obtain ⟨i, hi, rfl⟩ := mem_getD hb
      rw [List.length_drop] at hi
      have e : (out.drop k).getD i default = out.getD (k + i) default := by rw [List.getD_eq_getElem?_getD, List.getD_eq_getElem?_getD, List.getElem?_drop]
      rw [e]
      exact Int.le_trans (h2 (by omega)) (sorted_getD hs (by omega) (by omega))
    · intro a ha b hb
      obtain ⟨i, hi, rfl⟩ := mem_getD ha
      rw [List.length_take] at hi
      have e : (out.take k).getD i default = out.getD i default := by rw [List.getD_eq_getElem?_getD, List.getD_eq_getElem?_getD, List.getElem?_take, if_pos (by omega)]
      rw [e]
      rw [List.singleton_append, List.mem_cons] at hb
      rcases hb with rfl | hb
      · exact h1 i (by omega)
      · obtain ⟨j, hj, rfl⟩ := mem_getD hb
        rw [List.length_drop] at hj
        have e2 : (out.drop k).getD j default = out.getD (k + j) default := by rw [List.getD_eq_getElem?_getD, List.getD_eq_getElem?_getD, List.getElem?_drop]
        rw [e2]
        exact sorted_getD hs (by omega) (by omega)
  exact List.Perm.eq_of_pairwise (le := (· ≤ ·)) (fun a b _ _ h1 h2 => by omega) hsrt (insI_sorted x out hs) (hp.trans (insI_perm x out).symm)
/-! ### bits -/
def bitN (s i : Nat) : Nat := s / 2 ^ i % 2
theorem bitN_test (s i : Nat) : bitN s i = 1 ↔ s.testBit i = true := by
  unfold bitN
  rw [Nat.testBit_eq_decide_div_mod_eq, decide_eq_true_eq]
theorem bitN_01 (s i : Nat) : bitN s i = 0 ∨ bitN s i = 1 := by unfold bitN; omega
theorem bitN_or (a b i : Nat) : bitN (a ||| b) i = 1 ↔ bitN a i = 1 ∨ bitN b i = 1 := by
  rw [bitN_test, bitN_test, bitN_test, Nat.testBit_or, Bool.or_eq_true]
theorem bitN_pow (i j : Nat) : bitN (2 ^ i) j = 1 ↔ j = i := by
  rw [bitN_test, Nat.testBit_two_pow]
  simp [eq_comm]
theorem wrap_nat {n : Nat} (h : n < 2 ^ 63) : IntKind.i64.wrap (n : Int) = (n : Int) := wrap_in (inI64 (by omega))
theorem bv_nat {a : Nat} (h : a < 2 ^ 63) : (BitVec.ofInt IntKind.i64.bits (a : Int)).toNat = a := by
  rw [BitVec.toNat_ofInt]; simp only [IntKind.bits]; omega
theorem and_nat {a b : Nat} (ha : a < 2 ^ 63) (hb : b < 2 ^ 63) : IntKind.i64.wrap ((BitVec.ofInt IntKind.i64.bits (a : Int) &&& BitVec.ofInt IntKind.i64.bits (b : Int)).toNat) = ((a &&& b : Nat) : Int) := by
  rw [BitVec.toNat_and, bv_nat ha, bv_nat hb]
  exact wrap_nat (Nat.lt_of_le_of_lt Nat.and_le_left ha)
theorem or_nat {a b : Nat} (ha : a < 2 ^ 63) (hb : b < 2 ^ 63) : IntKind.i64.wrap ((BitVec.ofInt IntKind.i64.bits (a : Int) ||| BitVec.ofInt IntKind.i64.bits (b : Int)).toNat) = ((a ||| b : Nat) : Int) := by
  rw [BitVec.toNat_or, bv_nat ha, bv_nat hb]
  exact wrap_nat (Nat.or_lt_two_pow ha hb)
theorem pow_cast (i : Nat) : ((2 : Int) ^ i) = ((2 ^ i : Nat) : Int) := by simp

section
variable {cx : Cx} {keep : List Nat} {ops0 : Array Oper} {r : List Oper} {A : Asr} {Q : Asr → List Log → Prop} {d : Nat} {ty : Nat} {pos : String} {aft : Array Edge}
theorem x_shrN {T z : Nat} {a b : Operand} {x y : Nat} (ha : opd A a = some (iV (x : Int))) (hb : opd A b = some (iV (y : Int))) (hi : y < 64)
    (h : XR cx keep ops0 r ((.t d, iV ((x / 2 ^ y : Nat) : Int)) :: A) fun A' lg => Q A' ((rds a ++ rds b, [.t d]) :: lg)) : XR cx keep ops0 (⟨some d, .binOp .shr T a b z, ty, pos, aft, none⟩ :: r) A Q := by
  refine x_shr ha hb (by simp only [IntKind.bits]; omega) ?_
  have e : (x : Int).fdiv (2 ^ (y : Int).toNat) = ((x / 2 ^ y : Nat) : Int) := by
    rw [Int.toNat_natCast, pow_cast, Int.fdiv_eq_ediv_of_nonneg _ (Int.natCast_nonneg _)]
    simp
  rw [e]
  exact h
theorem x_shlN {T z : Nat} {a b : Operand} {x y : Nat} (ha : opd A a = some (iV (x : Int))) (hb : opd A b = some (iV (y : Int))) (hi : y < 64 ∧ x * 2 ^ y < 2 ^ 63)
    (h : XR cx keep ops0 r ((.t d, iV ((x * 2 ^ y : Nat) : Int)) :: A) fun A' lg => Q A' ((rds a ++ rds b, [.t d]) :: lg)) : XR cx keep ops0 (⟨some d, .binOp .shl T a b z, ty, pos, aft, none⟩ :: r) A Q := by
  have e : (x : Int) * 2 ^ (y : Int).toNat = ((x * 2 ^ y : Nat) : Int) := by
    rw [Int.toNat_natCast, pow_cast]
    simp
  refine x_shl ha hb ⟨by omega, by simp only [IntKind.bits]; omega, by rw [e]; exact inI64 (by omega)⟩ ?_
  rw [e]
  exact h
theorem x_and1 {T z : Nat} {a b : Operand} {x : Nat} (ha : opd A a = some (iV (x : Int))) (hb : opd A b = some (iV 1)) (hi : x < 2 ^ 63)
    (h : XR cx keep ops0 r ((.t d, iV ((x % 2 : Nat) : Int)) :: A) fun A' lg => Q A' ((rds a ++ rds b, [.t d]) :: lg)) : XR cx keep ops0 (⟨some d, .binOp .and T a b z, ty, pos, aft, none⟩ :: r) A Q := by
  refine x_and ha hb ?_
  have e := and_nat hi (show 1 < 2 ^ 63 by decide)
  rw [Nat.and_one_is_mod] at e
  have e' : IntKind.i64.wrap ((BitVec.ofInt IntKind.i64.bits (x : Int) &&& BitVec.ofInt IntKind.i64.bits 1).toNat) = ((x % 2 : Nat) : Int) := e
  rw [e']
  exact h
theorem x_orN {T z : Nat} {a b : Operand} {x y : Nat} (ha : opd A a = some (iV (x : Int))) (hb : opd A b = some (iV (y : Int))) (hi : x < 2 ^ 63 ∧ y < 2 ^ 63)
    (h : XR cx keep ops0 r ((.t d, iV ((x ||| y : Nat) : Int)) :: A) fun A' lg => Q A' ((rds a ++ rds b, [.t d]) :: lg)) : XR cx keep ops0 (⟨some d, .binOp .or T a b z, ty, pos, aft, none⟩ :: r) A Q := by
  refine x_or ha hb ?_
  rw [or_nat hi.1 hi.2]
  exact h
end
end Go.Mv
end

section
/- Sets of odds: what is closed. -/
namespace Go.Mv
open Go Classical

section
variable {cx : Cx} {keep : List Nat} {ops0 : Array Oper} {r : List Oper} {A : Asr} {Q : Asr → List Log → Prop} {d : Nat} {ty : Nat} {pos : String} {aft : Array Edge}
/-- texts compared, the answer known -/
theorem x_seqV {T z : Nat} {a b : Operand} {x y : ByteArray} {t : Bool} (ha : opd A a = some (.val (.string x))) (hb : opd A b = some (.val (.string y))) (ht : (x.toList == y.toList) = t)
    (h : XR cx keep ops0 r ((.t d, bV t) :: A) fun A' lg => Q A' ((rds a ++ rds b, [.t d]) :: lg)) : XR cx keep ops0 (⟨some d, .binOp .eql T a b z, ty, pos, aft, none⟩ :: r) A Q := by
  subst ht; exact x_seq ha hb h
theorem x_sneV {T z : Nat} {a b : Operand} {x y : ByteArray} {t : Bool} (ha : opd A a = some (.val (.string x))) (hb : opd A b = some (.val (.string y))) (ht : (!(x.toList == y.toList)) = t)
    (h : XR cx keep ops0 r ((.t d, bV t) :: A) fun A' lg => Q A' ((rds a ++ rds b, [.t d]) :: lg)) : XR cx keep ops0 (⟨some d, .binOp .neq T a b z, ty, pos, aft, none⟩ :: r) A Q := by
  subst ht; exact x_sne ha hb h
end

def kO : Option Bool → ByteArray
  | some true => ⟨#[101, 97, 99, 104]⟩
  | some false => ⟨#[108, 101, 97, 115, 116]⟩
  | none => ⟨#[]⟩

/-- all in a range -/
def allB (lo hi : Int) (xs : List Int) : Bool := xs.all fun x => decide (lo ≤ x) && decide (x ≤ hi)
theorem allB_iff {lo hi : Int} {xs : List Int} : allB lo hi xs = true ↔ ∀ i, i < xs.length → lo ≤ xs.getD i default ∧ xs.getD i default ≤ hi := by
  unfold allB
  rw [List.all_eq_true]
  constructor
  · intro h i hi'
    have := h _ (getD_mem hi')
    simpa using this
  · intro h x hx
    obtain ⟨i, hi', rfl⟩ := mem_getD hx
    simpa using h i hi'
theorem allB_mem {lo hi : Int} {xs : List Int} (h : allB lo hi xs = true) {x : Int} (hx : x ∈ xs) : lo ≤ x ∧ x ≤ hi := by
  obtain ⟨i, hi', rfl⟩ := mem_getD hx
  exact allB_iff.1 h i hi'
def vo (l : List Int) : Bool := decide (1 ≤ l.length) && decide (l.length ≤ 6) && allB 0 1000 l
theorem vo_iff {l : List Int} : vo l = true ↔ 1 ≤ l.length ∧ l.length ≤ 6 ∧ allB 0 1000 l = true := by
  unfold vo; simp only [Bool.and_eq_true, decide_eq_true_eq, and_assoc]

/-! ### sets -/
def selU (l : List Int) (s : Nat) : Nat → List Int
  | 0 => []
  | k + 1 => if bitN s k = 1 then selU l s k ++ [l.getD k default] else selU l s k
def sel (l : List Int) (s : Nat) : List Int := selU l s l.length
theorem selU_len (l : List Int) (s : Nat) : ∀ k, (selU l s k).length ≤ k
  | 0 => Nat.le_refl _
  | k + 1 => by
    have := selU_len l s k
    unfold selU; split
    · simp; exact this
    · omega
theorem selU_mem {l : List Int} {s : Nat} {x : Int} : ∀ {k}, k ≤ l.length → x ∈ selU l s k → ∃ i, i < k ∧ bitN s i = 1 ∧ l.getD i default = x
  | 0, _, h => by simp [selU] at h
  | k + 1, hk, h => by
    unfold selU at h
    split at h
    · rename_i hb
      rcases List.mem_append.1 h with h | h
      · obtain ⟨i, h1, h2, h3⟩ := selU_mem (by omega) h
        exact ⟨i, by omega, h2, h3⟩
      · exact ⟨k, by omega, hb, (List.mem_singleton.1 h).symm⟩
    · obtain ⟨i, h1, h2, h3⟩ := selU_mem (by omega) h
      exact ⟨i, by omega, h2, h3⟩
theorem selU_in {l : List Int} {s i : Nat} (hb : bitN s i = 1) : ∀ {k}, i < k → l.getD i default ∈ selU l s k
  | 0, h => by omega
  | k + 1, h => by
    unfold selU
    by_cases e : i = k
    · subst e; rw [if_pos hb]; simp
    · have := selU_in (l := l) hb (k := k) (by omega)
      split
      · exact List.mem_append_left _ this
      · exact this
theorem sel_in {l : List Int} {s i : Nat} (hb : bitN s i = 1) (hi : i < l.length) : l.getD i default ∈ sel l s := selU_in hb hi
theorem set_bit {s n : Nat} (h1 : 1 ≤ s) (h2 : s < 2 ^ n) : ∃ i, i < n ∧ bitN s i = 1 := by
  obtain ⟨i, hi⟩ := Nat.exists_testBit_of_ne_zero (x := s) (by omega)
  refine ⟨i, ?_, (bitN_test s i).2 hi⟩
  refine Classical.byContradiction fun h => ?_
  have := Nat.testBit_lt_two_pow (x := s) (i := i) (Nat.lt_of_lt_of_le h2 (Nat.pow_le_pow_right (by decide) (by omega)))
  rw [this] at hi; cases hi
theorem sel_pos {l : List Int} {s : Nat} (h1 : 1 ≤ s) (h2 : s < 2 ^ l.length) : 0 < (sel l s).length := by
  obtain ⟨i, hi, hb⟩ := set_bit h1 h2
  exact List.length_pos_of_mem (sel_in hb hi)
theorem sel_mem {l : List Int} {s : Nat} {x : Int} (h : x ∈ sel l s) : x ∈ l := by
  obtain ⟨i, hi, _, rfl⟩ := selU_mem (Nat.le_refl _) h
  exact getD_mem hi
theorem selU_pow (l : List Int) (i : Nat) : ∀ k, selU l (2 ^ i) k = if i < k then [l.getD i default] else []
  | 0 => by simp [selU]
  | k + 1 => by
    unfold selU
    rw [selU_pow l i k]
    by_cases e : k = i
    · subst e; rw [if_pos ((bitN_pow k k).2 rfl)]; simp
    · rw [if_neg (fun h => e ((bitN_pow i k).1 h))]
      by_cases h : i < k
      · rw [if_pos h, if_pos (by omega)]
      · rw [if_neg h, if_neg (by omega)]
theorem sel_pow {l : List Int} {i : Nat} (hi : i < l.length) : sel l (2 ^ i) = [l.getD i default] := by
  unfold sel; rw [selU_pow, if_pos hi]

/-- a sorted set is found -/
def Fnd (e : Bool) (s : List Int) (lev : Int) : Prop := ∃ i, i < s.length ∧ s.getD i default * s.length ≤ if e then ((i : Int) + 1) * lev else lev
noncomputable def fnd (e : Bool) (s : List Int) (lev : Int) : Bool := decide (Fnd e s lev)
theorem fnd_t {e : Bool} {s : List Int} {lev : Int} (h : Fnd e s lev) : fnd e s lev = true := decide_eq_true h
theorem fnd_f {e : Bool} {s : List Int} {lev : Int} (h : ¬ Fnd e s lev) : fnd e s lev = false := decide_eq_false h
theorem fnd_iff {e : Bool} {s : List Int} {lev : Int} : fnd e s lev = true ↔ Fnd e s lev := decide_eq_true_iff
theorem fnd_least {xs : List Int} {lev : Int} (hp : 0 < xs.length) : fnd false (sortI xs) lev = decide ((sortI xs).getD 0 default * ((sortI xs).length : Int) ≤ lev) := by
  rw [Bool.eq_iff_iff, fnd_iff, decide_eq_true_iff]
  constructor
  · rintro ⟨i, hi, h⟩
    have h0 := sorted_getD (sortI_sorted xs) (Nat.zero_le i) hi
    have := Int.mul_le_mul_of_nonneg_right h0 (Int.natCast_nonneg (sortI xs).length)
    simp only [Bool.false_eq_true, if_false] at h
    omega
  · intro h
    exact ⟨0, by simpa using hp, by simpa using h⟩
theorem Fnd.mono {e : Bool} {s : List Int} {lev lev' : Int} (h : Fnd e s lev) (hl : lev ≤ lev') : Fnd e s lev' := by
  obtain ⟨i, hi, h⟩ := h
  refine ⟨i, hi, ?_⟩
  cases e
  · simp only [Bool.false_eq_true, if_false] at h ⊢; omega
  · simp only [if_true] at h ⊢
    have := Int.mul_le_mul_of_nonneg_left hl (show (0 : Int) ≤ (i : Int) + 1 by omega)
    omega
theorem Fnd.each {e : Bool} {s : List Int} {lev : Int} (h : Fnd e s lev) (h0 : 0 ≤ lev) : Fnd true s lev := by
  obtain ⟨i, hi, h⟩ := h
  refine ⟨i, hi, ?_⟩
  cases e
  · simp only [Bool.false_eq_true, if_false, if_true] at h ⊢
    have := Int.mul_le_mul_of_nonneg_right (show (1 : Int) ≤ (i : Int) + 1 by omega) h0
    omega
  · exact h
def CPr (l : List Int) (lev : Int) (e : Bool) (i : Nat) : Prop := ∀ s, 1 ≤ s → s < 2 ^ l.length → bitN s i = 1 → Fnd e (sortI (sel l s)) lev
noncomputable def cloU (l : List Int) (lev : Int) (e : Bool) (k : Nat) : List Int := ((List.range k).filter fun i => decide (CPr l lev e i)).map Int.ofNat
noncomputable def clo (l : List Int) (lev : Int) (e : Bool) : List Int := cloU l lev e l.length
theorem cloU_t {l : List Int} {lev : Int} {e : Bool} {k : Nat} (h : CPr l lev e k) : cloU l lev e (k + 1) = cloU l lev e k ++ [(k : Int)] := by
  unfold cloU
  rw [List.range_succ, List.filter_append]
  simp [h]
theorem cloU_f {l : List Int} {lev : Int} {e : Bool} {k : Nat} (h : ¬ CPr l lev e k) : cloU l lev e (k + 1) = cloU l lev e k := by
  unfold cloU
  rw [List.range_succ, List.filter_append]
  simp [h]
theorem cloU_len (l : List Int) (lev : Int) (e : Bool) (k : Nat) : (cloU l lev e k).length ≤ k := by
  unfold cloU
  rw [List.length_map]
  exact Nat.le_trans (List.length_filter_le _ _) (by simp)
theorem clo_mem {l : List Int} {lev : Int} {e : Bool} {x : Int} : x ∈ clo l lev e ↔ ∃ i : Nat, x = i ∧ i < l.length ∧ CPr l lev e i := by
  unfold clo cloU
  rw [List.mem_map]
  constructor
  · rintro ⟨i, hi, rfl⟩
    rw [List.mem_filter, List.mem_range, decide_eq_true_iff] at hi
    exact ⟨i, rfl, hi.1, hi.2⟩
  · rintro ⟨i, rfl, h1, h2⟩
    exact ⟨i, by rw [List.mem_filter, List.mem_range, decide_eq_true_iff]; exact ⟨h1, h2⟩, rfl⟩
theorem CPr.le {l : List Int} {lev : Int} {e : Bool} {i : Nat} (h : CPr l lev e i) (hi : i < l.length) : l.getD i default ≤ lev := by
  have := h (2 ^ i) (Nat.one_le_two_pow) (Nat.pow_lt_pow_right (by decide) hi) ((bitN_pow i i).2 rfl)
  rw [sel_pow hi] at this
  obtain ⟨j, hj, h2⟩ := this
  have : j = 0 := by simp [sortI, insI] at hj; omega
  subst this
  cases e <;> simp [sortI, insI] at h2 <;> simpa using h2
noncomputable def cbR (l : List Int) (lev : Int) (o : Option Bool) : List Int := match o with
  | some e => if vo l = true ∧ 0 ≤ lev ∧ lev ≤ 1000 then clo l lev e else []
  | none => []
/-- sets that are missed -/
def Mis (l : List Int) (lev : Int) (e : Bool) (s mi : Nat) : Prop := 1 ≤ s ∧ s ≤ 2 ^ l.length ∧ mi < 2 ^ l.length ∧ ∀ i, i < l.length → (bitN mi i = 1 ↔ ∃ s', 1 ≤ s' ∧ s' < s ∧ bitN s' i = 1 ∧ ¬ Fnd e (sortI (sel l s')) lev)
theorem Mis.start (l : List Int) (lev : Int) (e : Bool) : Mis l lev e 1 0 := by
  refine ⟨Nat.le_refl _, Nat.one_le_two_pow, Nat.two_pow_pos _, fun i hi => ⟨fun h => ?_, fun ⟨s', h1, h2, _⟩ => by omega⟩⟩
  unfold bitN at h; simp at h
theorem Mis.hit {l : List Int} {lev : Int} {e : Bool} {s mi : Nat} (h : Mis l lev e s mi) (hs : s < 2 ^ l.length) (hf : fnd e (sortI (sel l s)) lev = true) : Mis l lev e (s + 1) mi := by
  obtain ⟨h1, h2, h3, h4⟩ := h
  refine ⟨by omega, by omega, h3, fun i hi => (h4 i hi).trans ⟨fun ⟨s', q1, q2, q3⟩ => ⟨s', q1, by omega, q3⟩, fun ⟨s', q1, q2, q3, q4⟩ => ?_⟩⟩
  by_cases e : s' = s
  · subst e; exact absurd (fnd_iff.1 hf) q4
  · exact ⟨s', q1, by omega, q3, q4⟩
theorem Mis.miss {l : List Int} {lev : Int} {e : Bool} {s mi : Nat} (h : Mis l lev e s mi) (hs : s < 2 ^ l.length) (hf : fnd e (sortI (sel l s)) lev = false) : Mis l lev e (s + 1) (mi ||| s) := by
  obtain ⟨h1, h2, h3, h4⟩ := h
  have hf' : ¬ Fnd e (sortI (sel l s)) lev := fun h => by rw [fnd_t h] at hf; cases hf
  refine ⟨by omega, by omega, Nat.or_lt_two_pow h3 hs, fun i hi => ?_⟩
  rw [bitN_or, h4 i hi]
  constructor
  · rintro (⟨s', q1, q2, q3⟩ | q)
    · exact ⟨s', q1, by omega, q3⟩
    · exact ⟨s, h1, by omega, q, hf'⟩
  · rintro ⟨s', q1, q2, q3, q4⟩
    by_cases e : s' = s
    · subst e; exact .inr q3
    · exact .inl ⟨s', q1, by omega, q3, q4⟩
theorem Mis.fin {l : List Int} {lev : Int} {e : Bool} {s mi : Nat} (h : Mis l lev e s mi) (hs : 2 ^ l.length ≤ s) {i : Nat} (hi : i < l.length) : bitN mi i = 0 ↔ CPr l lev e i := by
  obtain ⟨h1, h2, h3, h4⟩ := h
  have := h4 i hi
  have h5 := bitN_01 mi i
  constructor
  · intro h0 s' q1 q2 q3
    refine Classical.byContradiction fun hn => ?_
    have := this.2 ⟨s', q1, by omega, q3, hn⟩
    omega
  · intro hc
    rcases h5 with h5 | h5
    · exact h5
    · obtain ⟨s', q1, q2, q3, q4⟩ := this.1 h5
      exact absurd (hc s' q1 (by omega) q3) q4
theorem pow6 {n : Nat} (h : n ≤ 6) : 2 ^ n ≤ 64 := Nat.pow_le_pow_right (n := 2) (by decide) h
theorem any_hit {xs : List Int} {q : Int → Bool} {i : Nat} (hi : i < xs.length) (h : q (xs.getD i default) = true) : decide (0 ≤ (i : Int)) = xs.any q := by
  rw [decide_eq_true (Int.natCast_nonneg i)]
  exact (List.any_eq_true.2 ⟨_, getD_mem hi, h⟩).symm
theorem any_miss {xs : List Int} {q : Int → Bool} (h : ∀ j, j < xs.length → q (xs.getD j default) = false) : decide (0 ≤ (-1 : Int)) = xs.any q := by
  have : xs.any q = false := by
    rw [List.any_eq_false]
    intro x hx
    obtain ⟨i, hi, rfl⟩ := mem_getD hx
    rw [h i hi]; decide
  rw [this]; rfl
theorem allB_any (lo hi : Int) (xs : List Int) : (!(xs.any fun x => !(decide (lo ≤ x) && decide (x ≤ hi)))) = allB lo hi xs := by
  unfold allB
  rw [List.not_any_eq_all_not]
  simp
theorem vo_bad {xs : List Int} {i : Nat} (hi : i < xs.length) (h : ¬ (0 ≤ xs.getD i default ∧ xs.getD i default ≤ 1000)) : vo xs = false := by
  rw [Bool.eq_false_iff]
  exact fun hv => h (allB_iff.1 (vo_iff.1 hv).2.2 i hi)
theorem vo_good {xs : List Int} (h : ∀ j, j < xs.length → 0 ≤ xs.getD j default ∧ xs.getD j default ≤ 1000) : vo xs = (decide (1 ≤ (xs.length : Int)) && decide ((xs.length : Int) ≤ 6)) := by
  unfold vo
  rw [allB_iff.2 h, Bool.and_true]
  congr 1 <;> rw [decide_eq_decide] <;> omega
theorem getD_memG {α : Type} [Inhabited α] {xs : List α} {i : Nat} (h : i < xs.length) : xs.getD i default ∈ xs := by
  rw [List.getD_eq_getElem?_getD, List.getElem?_eq_getElem h]
  exact List.getElem_mem h
theorem sorted_bound {xs : List Int} {a b : Int} (h : ∀ x ∈ xs, a ≤ x ∧ x ≤ b) (i : Nat) (hi : i < xs.length) : a ≤ (sortI xs).getD i default ∧ (sortI xs).getD i default ≤ b :=
  h _ ((sortI_perm xs).mem_iff.1 (getD_mem (by rw [sortI_length]; exact hi)))
theorem mul_bound {x n b m : Int} (h : 0 ≤ x ∧ x ≤ b) (hn : n ≤ m) (h0 : 0 ≤ n) : 0 ≤ x * n ∧ x * n ≤ b * m := by
  refine ⟨Int.mul_nonneg h.1 h0, ?_⟩
  exact Int.le_trans (Int.mul_le_mul_of_nonneg_right h.2 h0) (Int.mul_le_mul_of_nonneg_left hn (by omega))
theorem closed_in {l : List Int} {lev : Int} {o : Option Bool} (h1 : vo l = true) (h2 : 0 ≤ lev ∧ lev ≤ 1000) (h3 : o = some false ∨ o = some true) : ∃ e, o = some e ∧ vo l = true ∧ (0 ≤ lev ∧ lev ≤ 1000) := by
  rcases h3 with h3 | h3
  · exact ⟨false, h3, h1, h2⟩
  · exact ⟨true, h3, h1, h2⟩
theorem cbR_none {l : List Int} {lev : Int} {o : Option Bool} (h : ¬ (vo l = true ∧ (0 ≤ lev ∧ lev ≤ 1000) ∧ (o = some false ∨ o = some true))) : cbR l lev o = [] := by
  cases o with
  | none => rfl
  | some e =>
    unfold cbR
    dsimp only
    rw [if_neg]
    intro hc
    exact h ⟨hc.1, hc.2, by cases e <;> simp⟩
theorem cbR_ok {l : List Int} {lev : Int} {e : Bool} (h1 : vo l = true) (h2 : 0 ≤ lev ∧ lev ≤ 1000) : cbR l lev (some e) = clo l lev e := by
  unfold cbR; dsimp only; rw [if_pos ⟨h1, h2.1, h2.2⟩]
/-- the reference's word for one place -/
def FndAt (e : Bool) (s : List Int) (lev : Int) (j : Nat) : Prop := (e = true ∧ s.getD j default * (s.length : Int) ≤ lev * ((j : Int) + 1)) ∨ s.getD j default * (s.length : Int) ≤ lev
theorem FndAt.hit {e : Bool} {s : List Int} {lev : Int} {j : Nat} (hj : j < s.length) (h : FndAt e s lev j) (hl : 0 ≤ lev ∧ lev ≤ 1000) : Fnd e s lev := by
  rcases h with ⟨rfl, h⟩ | h
  · exact ⟨j, hj, by rw [if_pos rfl, Int.mul_comm]; rw [Int.mul_comm lev] at h; rw [Int.mul_comm] at h; exact h⟩
  · refine ⟨j, hj, ?_⟩
    cases e
    · exact h
    · rw [if_pos rfl]
      have := Int.mul_le_mul_of_nonneg_right (show (1 : Int) ≤ (j : Int) + 1 by omega) hl.1
      omega
theorem FndAt.none {e : Bool} {s : List Int} {lev : Int} (hl : 0 ≤ lev ∧ lev ≤ 1000) (h : ∀ j, j < s.length → ¬ FndAt e s lev j) : ¬ Fnd e s lev := by
  rintro ⟨j, hj, hf⟩
  refine h j hj ?_
  cases e
  · exact .inr hf
  · rw [if_pos rfl] at hf
    exact .inl ⟨rfl, by rw [Int.mul_comm lev]; exact hf⟩
theorem CPr.each {l : List Int} {lev : Int} {e : Bool} {i : Nat} (h : CPr l lev e i) (h0 : 0 ≤ lev) : CPr l lev true i := fun s h1 h2 h3 => (h s h1 h2 h3).each h0
theorem CPr.mono {l : List Int} {lev lev' : Int} {e : Bool} {i : Nat} (h : CPr l lev e i) (h0 : lev ≤ lev') : CPr l lev' e i := fun s h1 h2 h3 => (h s h1 h2 h3).mono h0
theorem cbR_len (l : List Int) (lev : Int) (o : Option Bool) : (cbR l lev o).length ≤ l.length := by
  cases o with
  | none => exact Nat.zero_le _
  | some e =>
    unfold cbR; dsimp only
    split
    · exact cloU_len _ _ _ _
    · exact Nat.zero_le _
end Go.Mv
end

section
/- Odds set right from the least one on: the order by size, and what is closed by the least. -/
namespace Go.Mv
open Go Classical

abbrev nV (x : Nat) : AV := iV (x : Int)
/-- less by size, and then by index -/
def LTl (l : List Int) (a b : Nat) : Prop := l.getD a default < l.getD b default ∨ (l.getD a default = l.getD b default ∧ a < b)
theorem LTl.trans {l : List Int} {a b c : Nat} (h : LTl l a b) (h2 : LTl l b c) : LTl l a c := by unfold LTl at *; omega
theorem LTl.irr {l : List Int} {a : Nat} : ¬ LTl l a a := by unfold LTl; omega
theorem LTl.le {l : List Int} {a b : Nat} (h : LTl l a b) : l.getD a default ≤ l.getD b default := by unfold LTl at h; omega
/-- the first i places are in order -/
def Ord (l : List Int) (i : Nat) (d : List Nat) : Prop := d.length = l.length ∧ i ≤ l.length ∧ (∀ x, i ≤ x → x < l.length → d.getD x default = x) ∧ (∀ x, x < i → d.getD x default < i) ∧
  (∀ x y, x < y → y < i → LTl l (d.getD x default) (d.getD y default)) ∧ ∀ v, v < i → ∃ x, x < i ∧ d.getD x default = v
/-- on the way: place j holds i -/
def OrdIn (l : List Int) (i : Nat) (d0 : List Nat) (j : Nat) (d : List Nat) : Prop := j ≤ i ∧ d.length = l.length ∧
  (∀ x, x < l.length → d.getD x default = if x < j then d0.getD x default else if x = j then i else if x ≤ i then d0.getD (x - 1) default else x) ∧ ∀ x, j ≤ x → x < i → l.getD i default < l.getD (d0.getD x default) default
theorem getD_setN {l : List Nat} {i j x : Nat} (hi : i < l.length) : (l.set i x).getD j default = if j = i then x else l.getD j default := getD_set l i x j hi
theorem OrdIn.start {l : List Int} {i : Nat} {d0 : List Nat} (h : Ord l i d0) (hi : i < l.length) : OrdIn l i d0 i d0 := by
  refine ⟨Nat.le_refl _, h.1, fun x hx => ?_, fun x h1 h2 => by omega⟩
  by_cases h1 : x < i
  · rw [if_pos h1]
  · rw [if_neg h1]
    by_cases h2 : x = i
    · subst h2; rw [if_pos rfl, h.2.2.1 x (Nat.le_refl _) hx]
    · rw [if_neg h2, if_neg (by omega), h.2.2.1 x (by omega) hx]
theorem OrdIn.step {l : List Int} {i j : Nat} {d0 d : List Nat} (h : OrdIn l i d0 j d) (hi : i < l.length) (hj : 0 < j) (hlt : l.getD (d.getD j default) default < l.getD (d.getD (j - 1) default) default) :
    OrdIn l i d0 (j - 1) ((d.set j (d.getD (j - 1) default)).set (j - 1) (d.getD j default)) := by
  obtain ⟨h1, h2, h3, h4⟩ := h
  have e1 : d.getD j default = i := by rw [h3 j (by omega), if_neg (by omega), if_pos rfl]
  have e2 : d.getD (j - 1) default = d0.getD (j - 1) default := by rw [h3 (j - 1) (by omega), if_pos (by omega)]
  rw [e1, e2] at hlt
  refine ⟨by omega, by simp [h2], fun x hx => ?_, fun x q1 q2 => ?_⟩
  · rw [getD_setN (by rw [List.length_set]; omega), getD_setN (by omega), e1, e2]
    by_cases a1 : x = j - 1
    · rw [if_pos a1, if_neg (by omega), if_pos a1]
    · rw [if_neg a1]
      by_cases a2 : x = j
      · rw [if_pos a2, if_neg (by omega), if_neg a1, if_pos (by omega), a2]
      · rw [if_neg a2, h3 x hx]
        by_cases a3 : x < j
        · rw [if_pos a3, if_pos (by omega)]
        · simp only [a1, a2, a3, if_false, show ¬ x < j - 1 by omega]
  · by_cases a1 : x = j - 1
    · subst a1; exact hlt
    · exact h4 x (by omega) q2
theorem OrdIn.fin {l : List Int} {i j : Nat} {d0 d : List Nat} (h0 : Ord l i d0) (h : OrdIn l i d0 j d) (hi : i < l.length) (he : j = 0 ∨ ¬ l.getD (d.getD j default) default < l.getD (d.getD (j - 1) default) default) : Ord l (i + 1) d := by
  obtain ⟨h1, h2, h3, h4⟩ := h
  obtain ⟨g1, g2, g3, g4, g5, g6⟩ := h0
  have e1 : d.getD j default = i := by rw [h3 j (by omega), if_neg (by omega), if_pos rfl]
  have hlow : ∀ x, x < j → LTl l (d0.getD x default) i := by
    intro x hx
    have hle : l.getD (d0.getD (j - 1) default) default ≤ l.getD i default := by
      rcases he with he | he
      · omega
      · rw [e1, h3 (j - 1) (by omega), if_pos (by omega)] at he; omega
    have hx2 := g4 x (by omega)
    by_cases e : x = j - 1
    · subst e; unfold LTl; omega
    · have := (g5 x (j - 1) (by omega) (by omega)).le
      unfold LTl; omega
  have hhigh : ∀ x, j ≤ x → x < i → LTl l i (d0.getD x default) := fun x q1 q2 => .inl (h4 x q1 q2)
  refine ⟨h2, by omega, fun x q1 q2 => ?_, fun x q1 => ?_, fun x y q1 q2 => ?_, fun v hv => ?_⟩
  · rw [h3 x q2, if_neg (by omega), if_neg (by omega), if_neg (by omega)]
  · rw [h3 x (by omega)]
    split
    · have := g4 x (by omega); omega
    · split
      · omega
      · have := g4 (x - 1) (by omega)
        rw [if_pos (by omega)]; omega
  · rw [h3 x (by omega), h3 y (by omega)]
    by_cases a1 : y < j
    · rw [if_pos (show x < j by omega), if_pos a1]; exact g5 x y q1 (by omega)
    · rw [if_neg a1]
      by_cases a2 : y = j
      · rw [if_pos a2, if_pos (show x < j by omega)]; exact hlow x (by omega)
      · rw [if_neg a2, if_pos (show y ≤ i by omega)]
        by_cases b1 : x < j
        · rw [if_pos b1]; exact g5 x (y - 1) (by omega) (by omega)
        · rw [if_neg b1]
          by_cases b2 : x = j
          · rw [if_pos b2]; exact hhigh (y - 1) (by omega) (by omega)
          · rw [if_neg b2, if_pos (show x ≤ i by omega)]; exact g5 (x - 1) (y - 1) (by omega) (by omega)
  · by_cases e : v = i
    · exact ⟨j, by omega, by rw [e1, e]⟩
    · obtain ⟨x, hx, hxv⟩ := g6 v (by omega)
      by_cases a1 : x < j
      · exact ⟨x, by omega, by rw [h3 x (by omega), if_pos a1, hxv]⟩
      · refine ⟨x + 1, by omega, ?_⟩
        rw [h3 (x + 1) (by omega), if_neg (by omega), if_neg (by omega), if_pos (by omega)]
        simpa using hxv
theorem Ord.start {l : List Int} {d : List Nat} (h : d.length = l.length) (hd : ∀ x, x < l.length → d.getD x default = x) : Ord l 0 d := ⟨h, Nat.zero_le _, fun x _ hx => hd x hx, fun x h => by omega, fun x y _ h => by omega, fun v h => by omega⟩
theorem Ord.one {l : List Int} {d : List Nat} (h : d.length = l.length) (hd : ∀ x, x < l.length → d.getD x default = x) (hp : 1 ≤ l.length) : Ord l 1 d := by
  refine ⟨h, hp, fun x _ hx => hd x hx, fun x hx => ?_, fun x y h1 h2 => by omega, fun v hv => ⟨0, by omega, ?_⟩⟩
  · rw [hd x (by omega)]; exact hx
  · rw [hd 0 (by omega)]; omega

/-- places -/
noncomputable def pl (l : List Int) (i k : Nat) : Nat := (List.range k).countP fun x => decide (LTl l x i)
theorem pl_succ (l : List Int) (i k : Nat) : pl l i (k + 1) = if LTl l k i then pl l i k + 1 else pl l i k := by
  unfold pl
  rw [List.range_succ, List.countP_append]
  by_cases h : LTl l k i <;> simp [h]
theorem pl_le (l : List Int) (i k : Nat) : pl l i k ≤ k := by
  unfold pl
  exact Nat.le_trans List.countP_le_length (by simp)
noncomputable def at' (l : List Int) (i : Nat) : Nat := pl l i l.length
theorem countP_split {α : Type} {p : α → Bool} {d : List α} {r : Nat} (hr : r ≤ d.length) (h1 : ∀ x ∈ d.take r, p x = true) (h2 : ∀ x ∈ d.drop r, p x = false) : d.countP p = r := by
  conv => lhs; rw [← List.take_append_drop r d]
  rw [List.countP_append, List.countP_eq_length.2 h1, List.countP_eq_zero.2 (fun x hx => by simp [h2 x hx])]
  simp [hr]
theorem mem_getDN {xs : List Nat} {x : Nat} (h : x ∈ xs) : ∃ i, i < xs.length ∧ xs.getD i default = x := by
  obtain ⟨i, hi, rfl⟩ := List.getElem_of_mem h
  exact ⟨i, hi, by rw [List.getD_eq_getElem?_getD, List.getElem?_eq_getElem hi]; rfl⟩
theorem Ord.perm {l : List Int} {d : List Nat} (h : Ord l l.length d) : (List.range l.length).Perm d := by
  obtain ⟨g1, g2, g3, g4, g5, g6⟩ := h
  have hnd : d.Nodup := by
    rw [List.nodup_iff_pairwise_ne, List.pairwise_iff_getElem]
    intro i j hi hj hij e
    have := g5 i j hij (by omega)
    rw [List.getD_eq_getElem?_getD, List.getD_eq_getElem?_getD, List.getElem?_eq_getElem hi, List.getElem?_eq_getElem hj] at this
    simp only [Option.getD_some, e] at this
    exact LTl.irr this
  rw [List.perm_ext_iff_of_nodup List.nodup_range hnd]
  intro a
  rw [List.mem_range]
  constructor
  · intro ha
    obtain ⟨x, hx, rfl⟩ := g6 a ha
    exact getD_memG (by omega)
  · intro ha
    obtain ⟨x, hx, rfl⟩ := mem_getDN ha
    exact g4 x (by omega)
theorem Ord.count {l : List Int} {d : List Nat} (h : Ord l l.length d) {p : Nat → Bool} {r : Nat} (hr : r ≤ l.length) (h1 : ∀ x, x < r → p (d.getD x default) = true) (h2 : ∀ x, r ≤ x → x < l.length → p (d.getD x default) = false) : (List.range l.length).countP p = r := by
  rw [h.perm.countP_eq]
  refine countP_split (by rw [h.1]; exact hr) (fun y hy => ?_) (fun y hy => ?_)
  · obtain ⟨x, hx, rfl⟩ := mem_getDN hy
    rw [List.length_take] at hx
    have e : (d.take r).getD x default = d.getD x default := by rw [List.getD_eq_getElem?_getD, List.getD_eq_getElem?_getD, List.getElem?_take, if_pos (by omega)]
    rw [e]; exact h1 x (by omega)
  · obtain ⟨x, hx, rfl⟩ := mem_getDN hy
    rw [List.length_drop, h.1] at hx
    have e : (d.drop r).getD x default = d.getD (r + x) default := by rw [List.getD_eq_getElem?_getD, List.getD_eq_getElem?_getD, List.getElem?_drop]
    rw [e]; exact h2 (r + x) (by omega) (by omega)
theorem Ord.at {l : List Int} {d : List Nat} (h : Ord l l.length d) {r : Nat} (hr : r < l.length) : at' l (d.getD r default) = r := by
  obtain ⟨g1, g2, g3, g4, g5, g6⟩ := id h
  refine h.count (Nat.le_of_lt hr) (fun x hx => decide_eq_true (g5 x r hx hr)) (fun x h1 h2 => decide_eq_false fun hc => ?_)
  by_cases e : x = r
  · subst e; exact LTl.irr hc
  · exact LTl.irr (hc.trans (g5 r x (by omega) h2))
theorem Ord.ix {l : List Int} {d : List Nat} (h : Ord l l.length d) {k : Nat} (hk : k < l.length) : at' l k < l.length ∧ d.getD (at' l k) default = k := by
  obtain ⟨x, hx, rfl⟩ := h.2.2.2.2.2 k hk
  rw [h.at hx]; exact ⟨hx, rfl⟩
theorem Ord.mono {l : List Int} {d : List Nat} (h : Ord l l.length d) {a b : Nat} (ha : a < l.length) (hb : b < l.length) (hab : at' l a ≤ at' l b) : l.getD a default ≤ l.getD b default := by
  obtain ⟨a1, a2⟩ := h.ix ha
  obtain ⟨b1, b2⟩ := h.ix hb
  by_cases e : at' l a = at' l b
  · rw [← a2, ← b2, e]; exact Int.le_refl _
  · have := (h.2.2.2.2.1 (at' l a) (at' l b) (by omega) b1).le
    rwa [a2, b2] at this

/-- what the least ones ask for -/
noncomputable def mxU (l : List Int) (i : Nat) : Nat → Int
  | 0 => 0
  | k + 1 => if at' l k ≤ at' l i then max (mxU l i k) (l.getD k default * ((l.length : Int) - (at' l k : Int))) else mxU l i k
theorem mxU_le {l : List Int} {i : Nat} {V : Int} (h0 : 0 ≤ V) : ∀ k, (mxU l i k ≤ V ↔ ∀ x, x < k → at' l x ≤ at' l i → l.getD x default * ((l.length : Int) - (at' l x : Int)) ≤ V)
  | 0 => ⟨fun _ x h => by omega, fun _ => h0⟩
  | k + 1 => by
    unfold mxU
    have ih := mxU_le (l := l) (i := i) h0 k
    by_cases c : at' l k ≤ at' l i
    · rw [if_pos c]
      constructor
      · intro h x hx hc
        by_cases e : x = k
        · subst e; omega
        · exact ih.1 (by omega) x (by omega) hc
      · intro h
        have h1 := ih.2 fun x hx => h x (by omega)
        have h2 := h k (by omega) c
        omega
    · rw [if_neg c, ih]
      constructor
      · intro h x hx hc
        by_cases e : x = k
        · subst e; exact absurd hc c
        · exact h x (by omega) hc
      · exact fun h x hx => h x (by omega)
noncomputable def sdv (l : List Int) (i : Nat) : Int := min (mxU l i l.length) 1000
noncomputable def sdU (l : List Int) (k : Nat) : List Int := (List.range k).map (sdv l)
@[simp] theorem sdU_length (l : List Int) (k : Nat) : (sdU l k).length = k := by simp [sdU]
theorem sdU_getD {l : List Int} {k i : Nat} (h : i < k) : (sdU l k).getD i default = sdv l i := by
  unfold sdU
  rw [List.getD_eq_getElem?_getD, List.getElem?_map, List.getElem?_range h]; rfl
/-- in the order: the greatest so far -/
noncomputable def mR (l : List Int) (d : List Nat) : Nat → Int
  | 0 => 0
  | r + 1 => max (mR l d r) (min 1000 (l.getD (d.getD r default) default * ((l.length : Int) - (r : Int))))
theorem mR_le {l : List Int} {d : List Nat} {V : Int} (h0 : 0 ≤ V) : ∀ r, (mR l d r ≤ V ↔ ∀ x, x < r → min 1000 (l.getD (d.getD x default) default * ((l.length : Int) - (x : Int))) ≤ V)
  | 0 => ⟨fun _ x h => by omega, fun _ => h0⟩
  | r + 1 => by
    unfold mR
    have ih := mR_le (l := l) (d := d) h0 r
    constructor
    · intro h x hx
      by_cases e : x = r
      · subst e; omega
      · exact ih.1 (by omega) x (by omega)
    · intro h
      have h1 := ih.2 fun x hx => h x (by omega)
      have h2 := h r (by omega)
      omega
theorem mR_pos {l : List Int} {d : List Nat} : ∀ r, 0 ≤ mR l d r
  | 0 => Int.le_refl _
  | r + 1 => by have := mR_pos (l := l) (d := d) r; unfold mR; omega
theorem mxU_pos {l : List Int} {i : Nat} : ∀ k, 0 ≤ mxU l i k
  | 0 => Int.le_refl _
  | k + 1 => by have := mxU_pos (l := l) (i := i) k; unfold mxU; split <;> omega
theorem Ord.mR {l : List Int} {d : List Nat} (h : Ord l l.length d) {r : Nat} (hr : r < l.length) : Mv.mR l d (r + 1) = sdv l (d.getD r default) := by
  have key : ∀ V : Int, 0 ≤ V → (Mv.mR l d (r + 1) ≤ V ↔ sdv l (d.getD r default) ≤ V) := by
    intro V h0
    rw [mR_le h0]
    unfold sdv
    constructor
    · intro hx
      by_cases hv : 1000 ≤ V
      · omega
      · have : mxU l (d.getD r default) l.length ≤ V := (mxU_le h0 _).2 fun k hk hc => by
          obtain ⟨a1, a2⟩ := h.ix hk
          rw [h.at hr] at hc
          have := hx (at' l k) (by omega)
          rw [a2] at this
          omega
        omega
    · intro hm x hx
      by_cases hv : 1000 ≤ V
      · omega
      · have hm' : mxU l (d.getD r default) l.length ≤ V := by omega
        have := (mxU_le h0 _).1 hm' (d.getD x default) (h.2.2.2.1 x (by omega)) (by rw [h.at hr, h.at (by omega)]; omega)
        rw [h.at (by omega)] at this
        omega
  have p1 := mR_pos (l := l) (d := d) (r + 1)
  have p2 : 0 ≤ sdv l (d.getD r default) := by have := mxU_pos (l := l) (i := d.getD r default) l.length; unfold sdv; omega
  have k1 := (key _ p2).2 (Int.le_refl _)
  have k2 := (key _ p1).1 (Int.le_refl _)
  omega

theorem selU_count (l : List Int) (s : Nat) : ∀ k, (selU l s k).length = (List.range k).countP fun i => decide (bitN s i = 1)
  | 0 => rfl
  | k + 1 => by
    rw [List.range_succ, List.countP_append, ← selU_count l s k, selU]
    by_cases h : bitN s k = 1 <;> simp [h]
theorem Ord.from {l : List Int} {d : List Nat} (h : Ord l l.length d) {r : Nat} (hr : r ≤ l.length) : (List.range l.length).countP (fun k => decide (r ≤ at' l k)) = l.length - r := by
  have h1 : (List.range l.length).countP (fun k => !decide (r ≤ at' l k)) = r := h.count hr (fun x hx => by rw [h.at (by omega)]; simp; omega) (fun x h1 h2 => by rw [h.at h2]; simp; omega)
  have h2 := List.length_eq_countP_add_countP (fun k => decide (r ≤ at' l k)) (l := List.range l.length)
  rw [List.length_range] at h2
  have h3 : (fun k => decide (¬ decide (r ≤ at' l k) = true)) = fun k => !decide (r ≤ at' l k) := by
    funext k
    by_cases c : r ≤ at' l k <;> simp [c]
  rw [h3, h1] at h2
  omega
/-- found at a level -/
def foU (l : List Int) (lev : Int) (k : Nat) : List Int := ((List.range k).filter fun i => decide (l.getD i default ≤ lev)).map Int.ofNat
noncomputable def foR (l : List Int) (lev : Int) : List Int := if vo l = true ∧ 0 ≤ lev ∧ lev ≤ 1000 then foU l lev l.length else []
theorem foU_t {l : List Int} {lev : Int} {k : Nat} (h : l.getD k default ≤ lev) : foU l lev (k + 1) = foU l lev k ++ [(k : Int)] := by
  unfold foU
  rw [List.range_succ, List.filter_append]
  have : ([k].filter fun i => decide (l.getD i default ≤ lev)) = [k] := by rw [List.filter_cons, decide_eq_true h]; rfl
  rw [this, List.map_append]; rfl
theorem foU_f {l : List Int} {lev : Int} {k : Nat} (h : ¬ l.getD k default ≤ lev) : foU l lev (k + 1) = foU l lev k := by
  unfold foU
  rw [List.range_succ, List.filter_append]
  have : ([k].filter fun i => decide (l.getD i default ≤ lev)) = [] := by rw [List.filter_cons, decide_eq_false h]; rfl
  rw [this, List.append_nil]
theorem foU_len (l : List Int) (lev : Int) (k : Nat) : (foU l lev k).length ≤ k := by
  unfold foU
  rw [List.length_map]
  exact Nat.le_trans (List.length_filter_le _ _) (by simp)
end Go.Mv
namespace Go.Mv
open Go Classical
def cmpC (x y : Int) : Int := if x < y then -1 else if y < x then 1 else 0
theorem cmpC_neg {x y : Int} : cmpC x y < 0 ↔ x < y := by unfold cmpC; split <;> (try split) <;> omega
theorem cmpC_bd (x y : Int) : -1 ≤ cmpC x y ∧ cmpC x y ≤ 1 := by unfold cmpC; split <;> (try split) <;> omega
theorem OrdIn.lt {l : List Int} {i j : Nat} {d0 d : List Nat} (h0 : Ord l i d0) (h : OrdIn l i d0 j d) (hi : i < l.length) {x : Nat} (hx : x < l.length) : d.getD x default < l.length := by
  rw [h.2.2.1 x hx]
  have h4 := h0.2.2.2.1
  split
  · have := h4 x (by have := h.1; omega); omega
  · split
    · exact hi
    · split
      · have := h4 (x - 1) (by omega); omega
      · exact hx
theorem iota_of {l : List Int} {d : List Nat} (h : d.length = l.length) (hd : ∀ x, x < l.length → d.getD x default = x) (hp : 1 ≤ l.length) : Ord l 1 d := Ord.one h hd hp
noncomputable def plU (l : List Int) (k : Nat) : List Nat := (List.range k).map (at' l)
theorem plU_succ (l : List Int) (k : Nat) : plU l (k + 1) = plU l k ++ [at' l k] := by unfold plU; rw [List.range_succ, List.map_append]; rfl
@[simp] theorem plU_length (l : List Int) (k : Nat) : (plU l k).length = k := by simp [plU]
theorem plU_getD {l : List Int} {k i : Nat} (h : i < k) : (plU l k).getD i default = at' l i := by
  unfold plU
  rw [List.getD_eq_getElem?_getD, List.getElem?_map, List.getElem?_range h]; rfl
/-- the first r places are filled -/
def Fil (l : List Int) (d : List Nat) (r : Nat) (out : List Int) : Prop := r ≤ l.length ∧ out.length = l.length ∧ ∀ x, x < r → out.getD (d.getD x default) default = mR l d (x + 1)
theorem Fil.set {l : List Int} {d : List Nat} (h : Ord l l.length d) {r : Nat} {out : List Int} (hf : Fil l d r out) (hr : r < l.length) : Fil l d (r + 1) (out.set (d.getD r default) (mR l d (r + 1))) := by
  obtain ⟨h1, h2, h3⟩ := hf
  have hdr := h.2.2.2.1 r hr
  refine ⟨by omega, by simp [h2], fun x hx => ?_⟩
  rw [getD_set _ _ _ _ (by omega)]
  by_cases e : x = r
  · subst e; rw [if_pos rfl]
  · rw [if_neg, h3 x (by omega)]
    intro he
    have := h.2.2.2.2.1 x r (by omega) hr
    rw [he] at this
    exact LTl.irr this
theorem Fil.fin {l : List Int} {d : List Nat} (h : Ord l l.length d) {r : Nat} {out : List Int} (hf : Fil l d r out) (hr : l.length ≤ r) : out = sdU l l.length := by
  obtain ⟨h1, h2, h3⟩ := hf
  refine list_ext_getD (d := default) (by simp [h2]) fun i hi => ?_
  obtain ⟨a1, a2⟩ := h.ix (k := i) (by omega)
  rw [sdU_getD (by omega)]
  have := h3 (at' l i) (by omega)
  rw [a2, h.mR a1, a2] at this
  exact this
end Go.Mv
namespace Go.Mv
theorem nilFit_nV (ys : List Nat) (es : List AV) : nilFit es (ys.map nV) = true := by
  have := nilFit_int (ys.map Int.ofNat) es
  rwa [List.map_map] at this
end Go.Mv
namespace Go.Mv
end Go.Mv
end

section
/- Fractions. -/
namespace Go.Mv
open Go

abbrev qV (q : Rat) : AV := .agg [iV q.num, iV (q.den : Int)]
theorem tdiv_dvd {u g : Int} (h : g ∣ u) : u.tdiv g = u / g := Int.tdiv_eq_ediv_of_dvd h
theorem fr_pos {u d : Int} (hd : 0 < d) : (Rat.divInt u d).num = u.tdiv (Int.gcd u d : Int) ∧ ((Rat.divInt u d).den : Int) = d.tdiv (Int.gcd u d : Int) := by
  rw [tdiv_dvd (Int.gcd_dvd_left ..), tdiv_dvd (Int.gcd_dvd_right ..), Rat.num_divInt, Rat.den_divInt, if_neg (by omega), Int.gcd_comm d u, Int.sign_eq_one_of_pos hd, Int.one_mul]
  refine ⟨rfl, ?_⟩
  have e : ((d.natAbs : Nat) : Int) = d := by omega
  rw [Int.natCast_ediv, e]
theorem den_posI (q : Rat) : 0 < (q.den : Int) := by have := q.den_nz; omega
/-- small fractions -/
def Sm (b : Int) (q : Rat) : Prop := -b ≤ q.num ∧ q.num ≤ b ∧ (q.den : Int) ≤ b
theorem natAbs_div_le (u : Int) (g : Nat) : (u.tdiv (g : Int)).natAbs ≤ u.natAbs := by
  rw [Int.natAbs_tdiv]
  exact Nat.div_le_self _ _
theorem fr_bd {u d : Int} (hd : d ≠ 0) : (Rat.divInt u d).num.natAbs ≤ u.natAbs ∧ (Rat.divInt u d).den ≤ d.natAbs := by
  have key : ∀ (u d : Int), 0 < d → (Rat.divInt u d).num.natAbs ≤ u.natAbs ∧ (Rat.divInt u d).den ≤ d.natAbs := by
    intro u d hd
    have h := fr_pos (u := u) hd
    have h1 := natAbs_div_le u (Int.gcd u d)
    have h2 := natAbs_div_le d (Int.gcd u d)
    rw [← h.1] at h1
    rw [← h.2] at h2
    exact ⟨h1, by omega⟩
  by_cases h : 0 < d
  · exact key u d h
  · have := key (-u) (-d) (by omega)
    rw [Rat.neg_divInt_neg] at this
    omega
theorem Sm.fr {u d b : Int} (hd : d ≠ 0) (hu : -b ≤ u ∧ u ≤ b) (hd2 : -b ≤ d ∧ d ≤ b) : Sm b (Rat.divInt u d) := by
  have := fr_bd (u := u) hd
  unfold Sm; omega
theorem mulB {x y a b : Int} (hx : -a ≤ x ∧ x ≤ a) (hy : -b ≤ y ∧ y ≤ b) : -(a * b) ≤ x * y ∧ x * y ≤ a * b := by
  have h1 : (x * y).natAbs ≤ (a * b).natAbs := by
    rw [Int.natAbs_mul, Int.natAbs_mul]
    exact Nat.mul_le_mul (by omega) (by omega)
  have h2 : 0 ≤ a * b := Int.mul_nonneg (by omega) (by omega)
  omega
theorem add_fr (p q : Rat) : p + q = Rat.divInt (p.num * q.den + q.num * p.den) ((p.den : Int) * q.den) := by
  rw [Rat.add_def', ← Rat.divInt_ofNat]; simp
theorem mul_fr (p q : Rat) : p * q = Rat.divInt (p.num * q.num) ((p.den : Int) * q.den) := by
  rw [Rat.mul_def', ← Rat.divInt_ofNat]; simp
theorem den_mul_ne (p q : Rat) : ((p.den : Int) * q.den) ≠ 0 := by
  have h1 := den_posI p; have h2 := den_posI q
  have := Int.mul_pos h1 h2
  omega
theorem lt_num (p q : Rat) : (p - q).num < 0 ↔ p < q := by
  have h : 0 ≤ (p - q).num ↔ 0 ≤ p - q := Rat.num_nonneg
  constructor
  · intro h1
    have h2 : ¬ 0 ≤ p - q := fun h3 => by have := h.2 h3; omega
    grind
  · intro h1
    have h2 : ¬ 0 ≤ p - q := by grind
    have h3 : ¬ 0 ≤ (p - q).num := fun h4 => h2 (h.1 h4)
    omega
theorem neg_num (q : Rat) : (-q).num = -q.num ∧ (-q).den = q.den := ⟨rfl, rfl⟩
end Go.Mv
namespace Go.Mv
end Go.Mv
end

section
/- Distances from the middle. -/
namespace Go.Mv
open Go

def vs (l : List Int) : Bool := decide (1 ≤ l.length) && decide (l.length ≤ 8) && allB (-30) 30 l
end Go.Mv
end

section
/- Rounds over slices.Backward, and slices.Compact, in plain words. -/
namespace Go.Mv
open Go

/-- what slices.Backward hands out -/
def bItems (zs : List Int) : List (Nat × Int) := (List.range zs.length).map fun j => (zs.length - 1 - j, zs.getD (zs.length - 1 - j) 0)
def bEnc (x : Nat × Int) : List Value := [.int .i64 (x.1 : Int), .int .i64 x.2]
theorem bEnc_len (z : Nat × Int) : (bEnc z).length = 2 := rfl
theorem bItems_length (zs : List Int) : (bItems zs).length = zs.length := by simp [bItems]
theorem bItems_snd (zs : List Int) : (bItems zs).map (·.2) = zs.reverse := by
  apply List.ext_getElem
  · simp [bItems]
  · intro i h1 h2
    simp only [bItems, List.map_map, List.getElem_map, List.getElem_range, Function.comp, List.getElem_reverse]
    simp only [List.length_reverse] at h2
    rw [List.getD_eq_getElem?_getD, List.getElem?_eq_getElem (by omega), Option.getD_some]
theorem bItems_mem {zs : List Int} {z : Nat × Int} (h : z ∈ bItems zs) : z.2 ∈ zs := by
  have : z.2 ∈ (bItems zs).map (·.2) := List.mem_map.2 ⟨z, h, rfl⟩
  rw [bItems_snd] at this
  exact List.mem_reverse.1 this
/-- each run once -/
def compactI (xs : List Int) : List Int := xs.foldl (fun a x => if a.getLast? = some x then a else a ++ [x]) []
theorem compactI_snoc (xs : List Int) (x : Int) : compactI (xs ++ [x]) = if (compactI xs).getLast? = some x then compactI xs else compactI xs ++ [x] := by
  unfold compactI
  rw [List.foldl_append]
  rfl
@[simp] theorem compactI_nil : compactI [] = [] := rfl
theorem list_snoc {α : Type} {P : List α → Prop} (h0 : P []) (hs : ∀ xs x, P xs → P (xs ++ [x])) : ∀ xs, P xs := by
  intro xs
  have : ∀ n (xs : List α), xs.length = n → P xs := by
    intro n
    induction n with
    | zero => intro xs h; rw [List.length_eq_zero_iff.1 h]; exact h0
    | succ n ih =>
      intro xs h
      have hne : xs ≠ [] := by intro e; rw [e] at h; simp at h
      rw [← List.dropLast_concat_getLast hne]
      exact hs _ _ (ih _ (by simp [h]))
  exact this _ xs rfl
theorem compactI_last (xs : List Int) : (compactI xs).getLast? = xs.getLast? := by
  induction xs using list_snoc with
  | h0 => rfl
  | hs xs x ih =>
    rw [compactI_snoc]
    split
    · rename_i h; rw [h]; simp
    · simp
theorem mem_compactI {xs : List Int} {y : Int} : y ∈ compactI xs ↔ y ∈ xs := by
  induction xs using list_snoc with
  | h0 => simp
  | hs xs x ih =>
    rw [compactI_snoc]
    split
    · rename_i h
      have hx : x ∈ compactI xs := List.mem_of_getLast? h
      simp only [List.mem_append, List.mem_singleton, ih]
      constructor
      · exact Or.inl
      · rintro (h | rfl)
        · exact h
        · exact ih.1 hx
    · simp [ih]
theorem compactI_length_le (xs : List Int) : (compactI xs).length ≤ xs.length := by
  induction xs using list_snoc with
  | h0 => simp
  | hs xs x ih => rw [compactI_snoc]; split <;> simp <;> omega
theorem compactI_sorted {xs : List Int} (h : xs.Pairwise (· ≤ ·)) : (compactI xs).Pairwise (· < ·) := by
  induction xs using list_snoc with
  | h0 => simp
  | hs xs x ih =>
    rw [List.pairwise_append] at h
    have ih := ih h.1
    rw [compactI_snoc]
    split
    · exact ih
    · rename_i hne
      rw [List.pairwise_append]
      refine ⟨ih, List.pairwise_singleton _ _, fun y hy z hz => ?_⟩
      rw [List.mem_singleton] at hz
      subst hz
      have hle := h.2.2 y (mem_compactI.1 hy) z (List.mem_singleton_self _)
      rcases Int.lt_or_eq_of_le hle with h1 | rfl
      · exact h1
      · exfalso
        apply hne
        cases hl : (compactI xs).getLast? with
        | none => rw [List.getLast?_eq_none_iff] at hl; rw [hl] at hy; cases hy
        | some u =>
          have hu : u ∈ compactI xs := List.mem_of_getLast? hl
          have h2 := h.2.2 u (mem_compactI.1 hu) y (List.mem_singleton_self _)
          -- y is at or below the last one
          obtain ⟨ys, hys⟩ : ∃ ys, compactI xs = ys ++ [u] := by
            rw [List.getLast?_eq_some_iff] at hl
            exact hl
          rw [hys] at hy ih
          rcases List.mem_append.1 hy with h3 | h3
          · have := (List.pairwise_append.1 ih).2.2 y h3 u (List.mem_singleton_self _)
            omega
          · rw [List.mem_singleton] at h3; rw [h3]
def extCompact : List AV → Option (AV × List (List AV))
  | [.own 1 es] => if es.length ≤ maxL then (unI es).map fun xs => (.own 1 ((compactI xs).map iV), []) else none
  | _ => none
def extBwd (k : Nat) : List AV → Option (AV × List (List AV))
  | [.list es] => some (.clo k [.ipt (.list es) 0], [])
  | _ => none
def itBwd : List AV → Option (List (List Value))
  | [.ipt (.list es) 0] => if es.length ≤ maxL then (unI es).map fun xs => (bItems xs).map bEnc else none
  | _ => none
end Go.Mv
end

section
/- Arrays in boxes; rounds with what stays. -/
namespace Go.Mv
open Go

section
variable {cx : Cx} {keep : List Nat} {ops0 : Array Oper} {r : List Oper} {A : Asr} {Q : Asr → List Log → Prop} {d : Nat} {ty : Nat} {pos : String} {aft : Array Edge}

theorem x_index_arr {x i : Operand} {T E id g a ln : Nat} {n : Int} {k : IntKind} (hx : opd A x = some (.ptr id g none a 0)) (hi : opd A i = some (.val (.int k n))) (hT : (tyS cx.P T).k = .array ln E) (hb : isBad (tyS cx.P E).k = false) (hs : (tyS cx.P E).size = 1) (hn : 0 ≤ n ∧ n < ln)
    (hk : slotOk keep (.t d) (.ptr id g none a n.toNat) = true)
    (h : XR cx keep ops0 r ((.t d, .ptr id g none a n.toNat) :: A) fun A' lg => Q A' ((rds x ++ rds i, [.t d]) :: lg)) : XR cx keep ops0 (⟨some d, .indexAddr T x i, ty, pos, aft, none⟩ :: r) A Q := by
  have e : 0 + n.toNat * (tyS cx.P E).size = n.toNat := by rw [hs]; omega
  have hlt : n.toNat < ln := by omega
  refine x_val (v := .ptr id g none a n.toNat) (fun o ho => by simp only [aopV, ho]) ?_ hk h
  simp only [opV, wpA_bind, wpA_rdO hx, wpA_rdO hi, indexAddrA, wpA_asNat hn.1, hT, wpA_need, wpA_ret, hb, hlt, e, List.append_nil, List.nil_append, and_self, and_true, true_and]

theorem drop_cons_iV {fs : List Int} {j : Nat} (hj : j < fs.length) : (fs.map iV).drop j = iV (fs.getD j 0) :: (fs.map iV).drop (j + 1) := by
  rw [List.drop_eq_getElem_cons (by simpa using hj), List.getElem_map, List.getD_eq_getElem?_getD, List.getElem?_eq_getElem hj]; rfl
theorem x_load_arr {a : Operand} {T id g m s j : Nat} {fs : List Int} (ha : opd A a = some (.ptr id g none 0 j)) (ho : look A (.h id) = some (.obj g m s [.agg (fs.map iV)])) (hj : j < fs.length)
    (hT : isAggK (tyS cx.P T).k = false ∧ (tyS cx.P T).size = 1 ∧ isBad (tyS cx.P T).k = false)
    (h : XR cx keep ops0 r ((.t d, iV (fs.getD j 0)) :: A) fun A' lg => Q A' ((rds a ++ [.h id], [.t d]) :: lg)) : XR cx keep ops0 (⟨some d, .load T a, ty, pos, aft, none⟩ :: r) A Q := by
  refine x_load_ptrN (e := .agg (fs.map iV)) ha ho rfl ?_ ?_ (by simp [slotOk, refOkV, refsOk, iV]) h
  · simp only [leaves]
    rw [List.all_eq_true]
    intro l hl
    obtain ⟨x, _, rfl⟩ := List.mem_map.1 hl
    rfl
  · simp only [leaves, drop_cons_iV hj, partF, hT.1, hT.2.1, hT.2.2, List.head?_cons, Bool.false_eq_true, if_false, and_self, if_true]
theorem x_store_arr {T id g m s j : Nat} {a x : Operand} {fs : List Int} {y : Int} (ha : opd A a = some (.ptr id g none 0 j)) (hx : opd A x = some (iV y)) (ho : look A (.h id) = some (.obj g m s [.agg (fs.map iV)])) (hj : j < fs.length) (hT : (tyS cx.P T).size = 1) (hm : m ≠ 2)
    (hko : slotOk keep (.h id) (.obj g m s [.agg ((fs.set j y).map iV)]) = true)
    (h : XR cx keep ops0 r ((.h id, .obj g m s [.agg ((fs.set j y).map iV)]) :: A) fun A' lg => Q A' ((rds a ++ (rds x ++ [.h id, .h id, .h id]), [.h id]) :: lg)) :
    XR cx keep ops0 (⟨none, .store T a x, ty, pos, aft, none⟩ :: r) A Q := by
  have hp : putAt (.agg (fs.map iV)) j (iV y) = .agg ((fs.set j y).map iV) := by simp only [putAt, List.map_set]
  refine x_store_boxP (e := .agg (fs.map iV)) (e' := .agg ((fs.set j y).map iV)) ha hx ho ?_ ⟨hm, hT.symm, Nat.one_pos, by simp only [leaves, List.length_map]; show j + 1 ≤ _; omega, ?_⟩ hp hko h
  · simp only [leaves, drop_cons_iV hj, layV]
    rfl
  · simp only [leaves, drop_cons_iV hj]
    rfl
theorem x_build_arr {T E n : Nat} {zs : List AV} (hT : (tyS cx.P T).k = .array n E) (hz : (tyS cx.P T).zero = .agg zs) (hb : isBad (tyS cx.P E).k = false) (hk : slotOk keep (.t d) (.agg zs) = true)
    (h : XR cx keep ops0 r ((.t d, .agg zs) :: A) fun A' lg => Q A' (([], [.t d]) :: lg)) : XR cx keep ops0 (⟨some d, .build T #[], ty, pos, aft, none⟩ :: r) A Q :=
  x_val (fun o ho => by simp only [aopV, ho]) (by
    simp only [opV, buildA, hT, hz, wpA_bind, wpA_need, hb, fillParts, wpA_ret, List.append_nil, List.nil_append, and_self, true_and]) hk h
end

def okKeys (zl : List Nat) (A : Asr) : Bool := A.all fun x => okKey zl x.1
theorem xa_rangeB {cx : Cx} {keep : List Nat} {A : Asr} {Q : AExit → Asr → Prop} {σ : Type} {gt : Nat} {ps : Array Tmp} {a b : Code} {k : Nat} {l : List (Nat × Nat)} {zs : List Int}
    (K : Asr) (I : List (Nat × Int) → σ → Asr) (Pr : List (Nat × Int) → σ → Prop) (s0 : σ) (hg : opd A (.tmp gt) = some (.clo k [.ipt (.list (zs.map iV)) 0])) (hl : codeAsg a = some l) (hF : cx.it k = some itBwd) (hx : zs.length ≤ maxL) (hnb : noRange b = true) (hp : ps.size = 2)
    (hk : okKeys (codeDsts (.rangeFunc (.tmp gt) ps a b)) K = true) (hi : ∀ zs s, okKeys (codeDsts (.rangeFunc (.tmp gt) ps a b)) (I zs s) = true) (h0 : HasL A (K ++ I [] s0)) (hp0 : Pr [] s0)
    (hs : ∀ (ys : List (Nat × Int)) (i : Nat) (z : Int) (s : σ), (∀ y ∈ ys, y.2 ∈ zs) → z ∈ zs → ys.length < zs.length → Pr ys s → XA cx keep b (startA keep ps.toList l (bEnc (i, z)) (K ++ I ys s)) fun r A' => r = .normal ∧ ∃ s', Pr (ys ++ [(i, z)]) s' ∧ HasL A' (K ++ I (ys ++ [(i, z)]) s'))
    (h : ∀ ys s, ys = bItems zs → Pr ys s → Q .normal (K ++ I ys s)) : XA cx keep (.rangeFunc (.tmp gt) ps a b) A Q := by
  refine xa_range (items := bItems zs) (enc := bEnc) (fun ys s => K ++ I ys s) Pr hg hl hF (by simp [itBwd, unI_map, hx]) hnb rfl (fun z => by rw [hp]; rfl) (fun ys s x hm => ?_) s0 h0 hp0 (fun ys z s h1 h2 h3 h4 => ?_) (fun s => h _ s rfl)
  · rcases List.mem_append.1 hm with hm | hm
    · exact List.all_eq_true.1 hk x hm
    · exact List.all_eq_true.1 (hi ys s) x hm
  · exact hs ys z.1 z.2 s (fun y hy => bItems_mem (h1 y hy)) (bItems_mem h2) (by rw [bItems_length] at h3; exact h3) h4
end Go.Mv
namespace Go.Mv
open Go
section
variable {cx : Cx} {keep : List Nat} {ops0 : Array Oper} {r : List Oper} {A : Asr} {Q : Asr → List Log → Prop} {d : Nat} {ty : Nat} {pos : String} {aft : Array Edge}
/-- a slice comes into a variable's box and stays an object of its own -/
theorem x_store_ref {T id g s : Nat} {a x : Operand} {e v : AV} (ha : opd A a = some (.ptr id g none 0 0)) (hx : opd A x = some v) (ho : look A (.h id) = some (.obj g 3 s [e])) (hs : isSlN v = true) (hT : (tyS cx.P T).size = 1) (he : 0 + 1 ≤ (leaves e).length)
    (hp : putAt e 0 v = v) (hko : slotOk keep (.h id) (.obj g 3 s [v]) = true)
    (h : XR cx keep ops0 r ((.h id, .obj g 3 s [v]) :: A) fun A' lg => Q A' ((rds a ++ (rds x ++ [.h id]), [.h id]) :: lg)) :
    XR cx keep ops0 (⟨none, .store T a x, ty, pos, aft, none⟩ :: r) A Q := by
  refine x_op (v := .undef) (ws := [(.h id, .obj g 3 s [v])]) (ls := rds a ++ (rds x ++ [.h id])) rfl ?_ (tRefs_one hko) (wk_put1 _ _ _) h
  simp only [aopV]
  refine wpW_bind (wpW_need (by simp) (wpW_bind (wpW_rdO ha (wpW_bind (wpW_rdO hx (wpW_bind ?_))))))
  unfold storeV
  rw [if_pos hs]
  unfold storeR
  refine wpW_bind (wpW_node ho ?_)
  dsimp only
  rw [if_pos (show (3 : Nat) = 3 from rfl)]
  simp only [List.getElem?_cons_zero]
  refine wpW_bind (wpW_need ⟨hT, he⟩ (wpW_wr (wpW_pure ?_)))
  refine ⟨rfl, ?_, by simp⟩
  simp [hp]
end
theorem xa_weak {cx : Cx} {keep : List Nat} {A B : Asr} {c : Code} {Q : AExit → Asr → Prop} (h : HasL A B) (hx : XA cx keep c B Q) : XA cx keep c A Q := fun st hs => hx st (h.sat hs)
theorem inst_clo {C : Caller} {A : Asr} {d k : Nat} {e : AV} {j : Nat} : InstR C A d (.clo k [.ipt e j]) (fun _ : Unit => .clo k [.ipt e j]) (fun _ => []) [] := by
  unfold InstR
  rw [inst_one (fun vs h => by cases h)]
  show wpW C A (up (need (([AV.ipt e j]).all isIpt = true)) >>= fun _ => pure (AV.clo k [.ipt e j])) _
  exact wpW_bind (wpW_need rfl (wpW_pure ⟨(), rfl, rfl, rfl⟩))
end Go.Mv
namespace Go.Mv
open Go
theorem slot_objM {keep : List Nat} {id g m s : Nat} {es : List AV} (h : noRefL es = true) (hm : ¬ (m = 3 ∨ m = 4)) : slotOk keep (.h id) (.obj g m s es) = true := by
  simp [slotOk, refOkV, h, hm]
end Go.Mv
namespace Go.Mv
open Go
theorem slot_arr {keep : List Nat} {id g s : Nat} (fs : List Int) : slotOk keep (.h id) (.obj g 3 s [.agg (fs.map iV)]) = true := by
  refine slot_box ?_
  unfold immL
  simp only [List.all_cons, List.all_nil, Bool.and_true, immEl]
  rw [List.all_eq_true]
  intro l hl
  obtain ⟨x, _, rfl⟩ := List.mem_map.1 hl
  rfl
end Go.Mv
end

section
/- Fractions sorted by size. -/
namespace Go.Mv
open Go

instance : Inhabited Rat := ⟨0⟩
def sortQ (xs : List Rat) : List Rat := xs.mergeSort fun x y => decide (x ≤ y)
theorem sortQ_perm (xs : List Rat) : (sortQ xs).Perm xs := List.mergeSort_perm _ _
theorem sortQ_sorted (xs : List Rat) : (sortQ xs).Pairwise (· ≤ ·) := by
  have := List.pairwise_mergeSort (le := fun x y : Rat => decide (x ≤ y)) (fun a b c h1 h2 => by simp at *; exact Rat.le_trans h1 h2) (fun a b => by simp; exact Rat.le_total) xs
  unfold sortQ; simpa using this
@[simp] theorem sortQ_length (xs : List Rat) : (sortQ xs).length = xs.length := List.length_mergeSort _
theorem sortedQ_uniq {xs ys : List Rat} (h1 : xs.Pairwise (· ≤ ·)) (h2 : ys.Pairwise (· ≤ ·)) (hp : xs.Perm ys) : xs = ys :=
  List.Perm.eq_of_pairwise (le := (· ≤ ·)) (fun a b _ _ h1 h2 => Rat.le_antisymm h1 h2) h1 h2 hp
theorem sortQ_of {xs ys : List Rat} (hp : ys.Perm xs) (hs : ys.Pairwise (· ≤ ·)) : ys = sortQ xs := sortedQ_uniq hs (sortQ_sorted xs) (hp.trans (sortQ_perm xs).symm)
theorem take_succ_getD {α : Type} [Inhabited α] {xs : List α} {i : Nat} (h : i < xs.length) : xs.take (i + 1) = xs.take i ++ [xs.getD i default] := by
  rw [List.take_add_one, List.getD_eq_getElem?_getD, List.getElem?_eq_getElem h]; rfl
/-- slices.SortFunc by 'compare' at fractions -/
noncomputable def extSortF (cmp : Nat) : List AV → Option (AV × List (List AV))
  | [.own 2 es, .clo k []] => open Classical in if h : k = cmp ∧ es.length ≤ maxL ∧ ∃ xs : List Rat, es = xs.map qV ∧ ∀ x ∈ xs, Sm 1000000000 x then some (.tup [], [(sortQ h.2.2.choose).map qV]) else none
  | _ => none
theorem extSortF_inv {cmp : Nat} {args : List AV} {r : AV × List (List AV)} (h : extSortF cmp args = some r) : ∃ xs : List Rat, args = [.own 2 (xs.map qV), .clo cmp []] ∧ xs.length ≤ maxL ∧ (∀ x ∈ xs, Sm 1000000000 x) ∧ r = (.tup [], [(sortQ xs).map qV]) := by
  unfold extSortF at h
  split at h
  · rename_i es k
    split at h
    · rename_i hh
      cases h
      obtain ⟨rfl, hl, hx⟩ := id hh
      have hs := hh.2.2.choose_spec
      refine ⟨hh.2.2.choose, by rw [← hs.1], ?_, hs.2, rfl⟩
      have := congrArg List.length hs.1
      rw [List.length_map] at this
      rw [← this]; exact hl
    · cases h
  · cases h
end Go.Mv
end

section
/- slices.SortFunc at fractions, in the words of the relation. -/
namespace Go.Mv
open Go Go.RowKit

/-- the cells of a row of fractions -/
def cq (xs : List Rat) (t : Nat) : Value := .int .i64 (if t % 2 = 0 then (xs.getD (t / 2) default).num else ((xs.getD (t / 2) default).den : Int))
def cellsQ (xs : List Rat) : Array Value := (Array.range (xs.length * 2)).map (cq xs)
@[simp] theorem cellsQ_size (xs : List Rat) : (cellsQ xs).size = xs.length * 2 := by simp [cellsQ]
theorem cellsQ_getE {xs : List Rat} {t : Nat} (h : t < xs.length * 2) : (cellsQ xs)[t]! = cq xs t := by
  rw [getElem!_pos (cellsQ xs) t (by simpa using h)]
  simp [cellsQ]
theorem leafAt_qV {xs : List Rat} {i j : Nat} {l : AV} (h : leafAt (xs.map qV) i j = some l) : ∃ n : Int, i < xs.length ∧ j < 2 ∧ l = iV n ∧ cq xs (i * 2 + j) = .int .i64 n := by
  unfold leafAt at h
  rw [List.getElem?_map] at h
  cases hx : xs[i]? with
  | none => simp [hx] at h
  | some x =>
    have hi : i < xs.length := (List.getElem?_eq_some_iff.1 hx).1
    have hg : xs.getD i default = x := by rw [List.getD_eq_getElem?_getD, hx]; rfl
    simp only [hx, Option.map_some, Option.bind_some, qV, leaves] at h
    match j with
    | 0 => simp at h; exact ⟨x.num, hi, by omega, h.symm, by unfold cq; rw [if_pos (by omega), show (i * 2 + 0) / 2 = i by omega, hg]⟩
    | 1 => simp at h; exact ⟨(x.den : Int), hi, by omega, h.symm, by unfold cq; rw [if_neg (by omega), show (i * 2 + 1) / 2 = i by omega, hg]⟩
    | j + 2 => simp at h
theorem qV_leaf {xs : List Rat} {t : Nat} (h : t < xs.length * 2) : ∃ n : Int, leafAt (xs.map qV) (t / 2) (t % 2) = some (iV n) ∧ cq xs t = .int .i64 n := by
  have hi : t / 2 < xs.length := by omega
  unfold leafAt
  rw [List.getElem?_map, List.getElem?_eq_getElem hi]
  have hg : xs.getD (t / 2) default = xs[t / 2] := by rw [List.getD_eq_getElem?_getD, List.getElem?_eq_getElem hi]; rfl
  simp only [Option.map_some, Option.bind_some, qV, leaves]
  rcases (by omega : t % 2 = 0 ∨ t % 2 = 1) with e | e
  · rw [e]; exact ⟨_, rfl, by unfold cq; rw [if_pos e, hg]⟩
  · rw [e]; exact ⟨_, rfl, by unfold cq; rw [if_neg (by omega), hg]⟩
theorem immL_qV (xs : List Rat) : immL (xs.map qV) = true := imm_map fun _ => rfl

section
variable {P : Program} {Γ : Env}
theorem contract_sortQ {f g : Nat} {md : Nat → Nat} (xs ys : List Rat) (hx : xs.length ≤ maxL) (hy : ys.length = xs.length) (hmd : md 0 = 1)
    (hnil : ∀ (w : World) (a : Option Addr) (c : Nat), Calls P f #[.slice a 0 c, .func (.func g) #[] #[]] w fun e w' => e = .returned (.tuple #[]) ∧ w' = w)
    (hrow : ∀ (w : World) (b o c : Nat), Γ.G w → (∀ k, Γ.gb k → k < w.heap.size) → Sort.Holds id w b o (cellsQ xs) → b < w.heap.size →
      Calls P f #[.slice (some ⟨b, o, none⟩) xs.length c, .func (.func g) #[] #[]] w fun e w' => e = .returned (.tuple #[]) ∧ ∃ n os, w' = Sort.grow (Sort.putRow id (Sort.ahead w n) b o (cellsQ ys)) os) :
    Contract Γ P md f [.own 2 (xs.map qV), .clo g []] (.tup []) [ys.map qV] := by
  intro w A O0 ν0 D vals hOA R hA
  have h0 := R.slots 0 (by simp)
  have h1 := R.slots 1 (by simp)
  have hsz : vals.size = 2 := by simpa using R.size
  obtain ⟨v, v1, rfl⟩ : ∃ v v1, vals = #[v, v1] := by
    match vals, hsz with
    | ⟨[v, v1]⟩, _ => exact ⟨v, v1, rfl⟩
  have h0' : RS (initLoc md [.own 2 (xs.map qV), .clo g []]) ν0 w D (.sl 0 1 none 0 (xs.map qV).length) v := h0
  have h1' : RS (initLoc md [.own 2 (xs.map qV), .clo g []]) ν0 w D (.clo g []) v1 := h1
  obtain ⟨cs, rfl, hcs, _⟩ := h1'.clo_list
  obtain rfl : cs = #[] := Array.size_eq_zero_iff.1 (by simpa using hcs)
  have hob : initLoc md [.own 2 (xs.map qV), .clo g []] (.h 0) = .obj 1 1 2 (xs.map qV) := by simp [initLoc, hmd]
  have hob2 : noSlots (initLoc md [.own 2 (xs.map qV), .clo g []]) (.h 0) = .obj 1 1 2 (xs.map qV) := hob
  have hcid : cidAll md 0 [.own 2 (xs.map qV), .clo g []] = [(0, 1, 2)] := by simp [cidAll, cidArg, cidCaps, hmd]
  have hres : ∀ {F : Fl} {D : Nat → Prop} {w : World}, AllRes F D w (.tup []) (.tuple #[]) := .inl ⟨[], #[], rfl, rfl, rfl, fun k l h => by simp at h⟩
  obtain ⟨⟨a, cap, rfl, hcap⟩, _, _, hS⟩ := h0'.sl_inv
  have hS := hS 1 2 (xs.map qV) (by unfold nodeAt; rw [hob]; simp)
  have R0 := R.noSlots
  rw [List.length_map] at hcap hS ⊢
  by_cases hn : xs = []
  · subst hn
    have hy0 : ys = [] := List.length_eq_zero_iff.1 hy
    subst hy0
    refine (hnil w a cap).mono ?_
    rintro e w' ⟨rfl, rfl⟩
    refine ⟨_, rfl, Fl.emp, D, _, ν0, R0, ?_, hres, fun _ _ h => by cases h⟩
    rw [hcid]
    unfold outsOf
    rw [hob2]
    simp [outsOf, immL]
  · obtain ⟨a', cap', he, _, hb⟩ := hS
    cases he
    have hpos : 0 < xs.length := List.length_pos_iff.2 hn
    rcases hb with hb | ⟨b, o, hν, ha, hbd⟩
    · omega
    · rw [Nat.zero_mul, Nat.add_zero] at ha
      subst ha
      have hRO := R0.objs 0 1 1 2 (xs.map qV) hob2
      have hT := hRO.top
      rw [hν] at hT
      obtain ⟨c, ety, hc1, hc2, _, _, hc3⟩ := hT
      rw [List.length_map] at hc2
      have hget : ∀ t, t < xs.length * 2 → c[o + t]? = some (cq xs t) := by
        intro t ht
        obtain ⟨n, h2, h3⟩ := qV_leaf ht
        obtain ⟨v, hv, hr⟩ := hc3 _ _ _ h2
        have h4 : v = Value.int .i64 n := by
          have hr' : RS (noSlots (initLoc md [.own 2 (xs.map qV), .clo g []])) ν0 w D (iV n) v := hr
          cases hr' with | data _ _ h => cases h; rfl
        rw [h4, ← h3, show o + t / 2 * 2 + t % 2 = o + t by omega] at hv
        exact hv
      have hblt : b < w.heap.size := (Array.getElem?_eq_some_iff.1 hc1).1
      refine (hrow w b o cap R.gi (fun k hk => (R.gO k hk).2) (fun j hj => ?_) hblt).mono ?_
      · have hj' : j < xs.length * 2 := by simpa using hj
        refine ⟨?_, ?_⟩
        · unfold World.cell?
          simp only [hc1]
          rw [cellsQ_getE hj']
          simp [hget j hj']
        · unfold World.frozen?
          simp only [hc1]
          simp
      · rintro e w' ⟨rfl, n, os, rfl⟩
        have hheap : ∀ k, k < w.heap.size → (Sort.grow (Sort.putRow id (Sort.ahead w n) b o (cellsQ ys)) os).heap[k]? =
            if k = b then some (.cells (Sort.putCells id o (cellsQ ys) c) ety (0, 0)) else w.heap[k]? := by
          intro k hk
          have h1 : k < (Sort.putRow id (Sort.ahead w n) b o (cellsQ ys)).heap.size := by simpa [Sort.ahead] using hk
          simp only [Sort.grow]
          rw [Array.getElem?_append_left h1]
          simp only [Sort.putRow, Sort.mapBlock, Sort.ahead, Array.getElem?_modify]
          by_cases e : b = k
          · subst e
            simp [hc1, Sort.onCells]
          · rw [if_neg e, if_neg (fun h => e h.symm)]
        have W : WStep Γ w (Sort.grow (Sort.putRow id (Sort.ahead w n) b o (cellsQ ys)) os) b := by
          refine ⟨by simp [Sort.grow, Sort.ahead], rfl, rfl, rfl, fun _ => by simp [Sort.grow, Sort.putRow, Sort.mapBlock, Sort.ahead], fun k hk hne => ?_, fun k hk => ?_⟩
          · rw [hheap k hk, if_neg hne]
          · unfold csize
            rw [hheap k hk]
            by_cases e : k = b
            · subst e
              rw [if_pos rfl, hc1]
              exact putCells_size _ _ _ _
            · rw [if_neg e]
        have hRN : RN (Sort.grow (Sort.putRow id (Sort.ahead w n) b o (cellsQ ys)) os) (RS (noSlots (initLoc md [.own 2 (xs.map qV), .clo g []])) ν0 w D) (ν0 0) (ν0 0 none) (1 = 3 ∨ 1 = 4) 2 (ys.map qV) := by
          rw [hν]
          refine ⟨_, ety, by rw [hheap b hblt, if_pos rfl], ?_, fun _ e he => ?_, fun h => by simp at h, fun i j l hl => ?_⟩
          · rw [putCells_size, List.length_map, hy]; omega
          · obtain ⟨x, _, rfl⟩ := List.mem_map.1 he
            rfl
          · obtain ⟨m, hi, hj, rfl, hc⟩ := leafAt_qV hl
            refine ⟨.int .i64 m, ?_, RS.data _ _ (.val _)⟩
            have hlt : o + i * 2 + j < c.size := by omega
            have ht : i * 2 + j < ys.length * 2 := by omega
            simp only [Sort.putCells, Array.getElem?_mapIdx]
            rw [Array.getElem?_eq_getElem hlt]
            simp only [Option.map_some, cellsQ_size]
            rw [if_pos (by omega), show o + i * 2 + j - o = i * 2 + j by omega, cellsQ_getE ht, hc]
            rfl
        have hno : ∀ (i j s' : Nat) (es2 : List AV), leafAt (ys.map qV) i j = some (.own s' es2) → False := fun i j s' es2 h => by obtain ⟨m, _, _, h, _⟩ := leafAt_qV h; cases h
        have hno2 : ∀ (i j s' : Nat) (es2 : List AV), leafAt (xs.map qV) i j = some (.own s' es2) → False := fun i j s' es2 h => by obtain ⟨m, _, _, h, _⟩ := leafAt_qV h; cases h
        obtain ⟨R1, _⟩ := R0.storeTop W hob2 (by decide) ⟨o, hν⟩ (ν0 0) rfl hRN (fun i j h => by obtain ⟨m, _, _, h, _⟩ := leafAt_qV h; cases h) (fun _ _ => False) (fun _ _ => (0, 0, 0)) (fun _ => False)
          (fun i j s' es2 h => (hno _ _ _ _ h).elim) (fun i j i' j' s1 e1 s2 e2 _ _ h => h.elim) (fun _ => rfl) (F' := Fl.emp) (fun k h => h.elim) (fun k _ => rfl)
        refine ⟨_, rfl, Fl.emp, D, _, _, R1, ?_, hres, fun _ _ h => by cases h⟩
        rw [hcid]
        have hi : immL (ys.map qV) = true := immL_qV ys
        simp [outsOf, St.upd_eq, hi]
end
end Go.Mv
namespace Go.Mv
end Go.Mv
end

section
/- Slopes of points. -/
namespace Go.Mv
open Go

/-- the places are valid -/
def vpS (xs ys : List Int) : Bool := decide (xs.length = ys.length) && decide (xs.length ≤ 7) && allB (-12) 12 xs && allB (-12) 12 ys
/-- not all the same -/
def wd (xs : List Int) : Bool := xs.any fun x => x != xs.getD 0 default
def vc (xs ys : List Int) : Bool := vpS xs ys && wd xs
/-! ### the slopes -/
theorem Sm.mono {a b : Int} {q : Rat} (h : Sm a q) (hab : a ≤ b) : Sm b q := by obtain ⟨h1, h2, h3⟩ := h; exact ⟨by omega, by omega, by omega⟩
theorem Sm.add {a b : Int} {p q : Rat} (hp : Sm a p) (hq : Sm b q) : Sm (2 * (a * b)) (p + q) := by
  obtain ⟨p1, p2, p3⟩ := hp
  obtain ⟨q1, q2, q3⟩ := hq
  have dp := den_posI p
  have dq := den_posI q
  have m1 := mulB (x := p.num) (y := (q.den : Int)) ⟨p1, p2⟩ ⟨by omega, q3⟩
  have m2 := mulB (x := q.num) (y := (p.den : Int)) ⟨q1, q2⟩ ⟨by omega, p3⟩
  have m3 := mulB (x := (p.den : Int)) (y := (q.den : Int)) ⟨by omega, p3⟩ ⟨by omega, q3⟩
  have e := Int.mul_comm b a
  rw [add_fr]
  exact Sm.fr (den_mul_ne p q) ⟨by omega, by omega⟩ ⟨by omega, by omega⟩
theorem Sm.neg {a : Int} {p : Rat} (hp : Sm a p) : Sm a (-p) := by
  obtain ⟨p1, p2, p3⟩ := hp
  exact ⟨by rw [(neg_num p).1]; omega, by rw [(neg_num p).1]; omega, p3⟩
theorem Sm.sub {a b : Int} {p q : Rat} (hp : Sm a p) (hq : Sm b q) : Sm (2 * (a * b)) (p - q) := by rw [Rat.sub_eq_add_neg]; exact hp.add hq.neg
theorem Sm.mul {a b : Int} {p q : Rat} (hp : Sm a p) (hq : Sm b q) : Sm (a * b) (p * q) := by
  obtain ⟨p1, p2, p3⟩ := hp
  obtain ⟨q1, q2, q3⟩ := hq
  have dp := den_posI p
  have dq := den_posI q
  have m3 := mulB (x := (p.den : Int)) (y := (q.den : Int)) ⟨by omega, p3⟩ ⟨by omega, q3⟩
  have m4 := mulB (x := p.num) (y := q.num) ⟨p1, p2⟩ ⟨q1, q2⟩
  rw [mul_fr]
  exact Sm.fr (den_mul_ne p q) m4 m3
end Go.Mv
end

section
/- Slopes: points the other way round, other signs. -/
namespace Go.Mv
open Go

/-! ### a table's lower half, the other way round -/
def tri {α : Type} (f : Nat → Nat → List α) (n : Nat) : List α := (List.range n).flatMap fun i => (List.range i).flatMap (f i)
/-! ### slopes -/
/-- the other signs -/
def ngI (l : List Int) : List Int := l.map fun x => -x
@[simp] theorem ngI_length (l : List Int) : (ngI l).length = l.length := by simp [ngI]
end Go.Mv
end

section
/- Steps up: odds set right from the greatest one on. -/
namespace Go.Mv
open Go
/-- the least of what stands behind -/
noncomputable def mnU (l : List Int) (i : Nat) : Nat → Int
  | 0 => 1000
  | k + 1 => if at' l i ≤ at' l k then min (mnU l i k) (l.getD k default * ((l.length : Int) - (at' l k : Int))) else mnU l i k
theorem mnU_ge {l : List Int} {i : Nat} {V : Int} : ∀ k, (V ≤ mnU l i k ↔ V ≤ 1000 ∧ ∀ x, x < k → at' l i ≤ at' l x → V ≤ l.getD x default * ((l.length : Int) - (at' l x : Int)))
  | 0 => ⟨fun h => ⟨h, fun x h => by omega⟩, fun h => h.1⟩
  | k + 1 => by
    have ih := mnU_ge (l := l) (i := i) (V := V) k
    rw [mnU]
    split
    · rename_i hc
      constructor
      · intro h
        have h1 := ih.1 (by omega)
        refine ⟨h1.1, fun x hx hxi => ?_⟩
        rcases Nat.lt_succ_iff_lt_or_eq.1 hx with e | e
        · exact h1.2 x e hxi
        · subst e; omega
      · rintro ⟨h1, h2⟩
        have a := ih.2 ⟨h1, fun x hx => h2 x (by omega)⟩
        have b := h2 k (by omega) hc
        omega
    · rename_i hc
      rw [ih]
      constructor
      · rintro ⟨h1, h2⟩
        refine ⟨h1, fun x hx hxi => ?_⟩
        rcases Nat.lt_succ_iff_lt_or_eq.1 hx with e | e
        · exact h2 x e hxi
        · subst e; exact absurd hxi hc
      · rintro ⟨h1, h2⟩
        exact ⟨h1, fun x hx => h2 x (by omega)⟩
noncomputable def suv (l : List Int) (i : Nat) : Int := mnU l i l.length
noncomputable def suU (l : List Int) (k : Nat) : List Int := (List.range k).map (suv l)
theorem suU_succ (l : List Int) (k : Nat) : suU l (k + 1) = suU l k ++ [suv l k] := by unfold suU; rw [List.range_succ, List.map_append]; rfl
@[simp] theorem suU_length (l : List Int) (k : Nat) : (suU l k).length = k := by simp [suU]
theorem suU_getD {l : List Int} {k i : Nat} (h : i < k) : (suU l k).getD i default = suv l i := by
  unfold suU
  rw [List.getD_eq_getElem?_getD, List.getElem?_map, List.getElem?_range h]; rfl
noncomputable def suR (l : List Int) : List Int := if vo l = true then suU l l.length else []
theorem suR_len (l : List Int) : (suR l).length ≤ l.length := by unfold suR; split <;> simp
theorem suR_valid {l : List Int} (h : ¬ (((suR l).length : Nat) : Int) = 0) : vo l = true := by
  by_cases hv : vo l = true
  · exact hv
  · unfold suR at h; rw [if_neg hv] at h; simp at h
open Classical in
theorem at_lt {l : List Int} {i : Nat} (h : i < l.length) : at' l i < l.length := by
  unfold at' pl
  have : (List.range l.length).countP (fun x => decide (LTl l x i)) < (List.range l.length).length := by
    rcases Nat.lt_or_ge ((List.range l.length).countP (fun x => decide (LTl l x i))) (List.range l.length).length with h1 | h1
    · exact h1
    · have h2 := Nat.le_antisymm List.countP_le_length h1
      rw [List.countP_eq_length] at h2
      have := of_decide_eq_true (h2 i (List.mem_range.2 h))
      exact absurd this LTl.irr
  simpa using this
theorem mnU_bd {l : List Int} (hall : ∀ x ∈ l, 0 ≤ x) (i : Nat) {k : Nat} (hk : k ≤ l.length) : 0 ≤ mnU l i k ∧ mnU l i k ≤ 1000 := by
  refine ⟨(mnU_ge k).2 ⟨by decide, fun x hx _ => Int.mul_nonneg (hall _ (getD_mem (by omega))) ?_⟩, ((mnU_ge k).1 (Int.le_refl _)).1⟩
  have := at_lt (l := l) (i := x) (by omega)
  omega
theorem vo_suU {l : List Int} (h : vo l = true) : vo (suU l l.length) = true := by
  rw [vo_iff] at h ⊢
  rw [suU_length]
  refine ⟨h.1, h.2.1, allB_iff.2 fun i hi => ?_⟩
  rw [suU_length] at hi
  rw [suU_getD hi]
  exact mnU_bd (fun x hx => (allB_mem h.2.2 hx).1) i (Nat.le_refl _)

/-! ### rank by rank, the greatest one first -/
def bkStep (l : List Int) (s : List Int × Int) (y : Nat × Int) : List Int × Int :=
  (s.1.set y.2.toNat (min s.2 (l.getD y.2.toNat default * ((l.length : Int) - (y.1 : Int)))), min s.2 (l.getD y.2.toNat default * ((l.length : Int) - (y.1 : Int))))
def bkF (l : List Int) (ys : List (Nat × Int)) : List Int × Int := ys.foldl (bkStep l) (List.replicate l.length 0, 1000)
theorem bkF_snoc (l : List Int) (ys : List (Nat × Int)) (y : Nat × Int) : bkF l (ys ++ [y]) = bkStep l (bkF l ys) y := by unfold bkF; rw [List.foldl_append]; rfl
theorem bkF_len (l : List Int) (ys : List (Nat × Int)) : (bkF l ys).1.length = l.length := by
  induction ys using list_snoc with
  | h0 => simp [bkF]
  | hs ys y ih => rw [bkF_snoc]; simp [bkStep, ih]
def zsN (d : List Nat) : List Int := d.map Int.ofNat
theorem nV_zs (d : List Nat) : d.map nV = (zsN d).map iV := by rw [zsN, List.map_map]; rfl
@[simp] theorem zsN_length (d : List Nat) : (zsN d).length = d.length := by simp [zsN]
theorem zsN_getD {d : List Nat} {i : Nat} : (zsN d).getD i 0 = (d.getD i default : Nat) := by
  unfold zsN
  rw [List.getD_eq_getElem?_getD, List.getD_eq_getElem?_getD, List.getElem?_map]
  cases d[i]? <;> rfl
theorem bItems_take {zs : List Int} {j : Nat} (h : j < zs.length) : (bItems zs).take (j + 1) = (bItems zs).take j ++ [(zs.length - 1 - j, zs.getD (zs.length - 1 - j) 0)] := by
  have hl : j < (bItems zs).length := by rw [bItems_length]; exact h
  rw [List.take_add_one, List.getElem?_eq_getElem hl]
  simp [bItems]
theorem bItems_get {zs : List Int} {z : Nat × Int} (h : z ∈ bItems zs) : z.1 < zs.length ∧ z.2 = zs.getD z.1 0 := by
  simp only [bItems, List.mem_map, List.mem_range] at h
  obtain ⟨j, hj, rfl⟩ := h
  exact ⟨by simp only; omega, rfl⟩
theorem ge_ext {a b : Int} (h : ∀ V : Int, V ≤ a ↔ V ≤ b) : a = b := by
  have h1 := (h a).1 (Int.le_refl _)
  have h2 := (h b).2 (Int.le_refl _)
  omega
theorem bk_pre {l : List Int} {d : List Nat} (h : Ord l l.length d) : ∀ j, j ≤ l.length → (bkF l ((bItems (zsN d)).take j)).1.length = l.length ∧
    (∀ V, V ≤ (bkF l ((bItems (zsN d)).take j)).2 ↔ V ≤ 1000 ∧ ∀ x, l.length - j ≤ x → x < l.length → V ≤ l.getD (d.getD x default) default * ((l.length : Int) - (x : Int))) ∧
    ∀ r, l.length - j ≤ r → r < l.length → (bkF l ((bItems (zsN d)).take j)).1.getD (d.getD r default) default = suv l (d.getD r default)
  | 0, _ => by
    refine ⟨by simp [bkF], fun V => ?_, fun r h1 h2 => by omega⟩
    simp only [List.take_zero, bkF, List.foldl_nil]
    exact ⟨fun h => ⟨h, fun x h1 h2 => by omega⟩, fun h => h.1⟩
  | j + 1, hj => by
    obtain ⟨i1, i2, i3⟩ := bk_pre h j (by omega)
    have hdl := h.1
    have hzl : (zsN d).length = l.length := by rw [zsN_length, hdl]
    rw [bItems_take (by omega), bkF_snoc, hzl]
    obtain ⟨s, hs⟩ : ∃ s, s = bkF l ((bItems (zsN d)).take j) := ⟨_, rfl⟩
    rw [← hs] at i1 i2 i3 ⊢
    obtain ⟨r, hr⟩ : ∃ r, r = l.length - 1 - j := ⟨_, rfl⟩
    rw [← hr, zsN_getD]
    have hrl : r < l.length := by omega
    have hdr := h.2.2.2.1 r hrl
    have hm : ∀ V, V ≤ min s.2 (l.getD (d.getD r default) default * ((l.length : Int) - (r : Int))) ↔ V ≤ 1000 ∧ ∀ x, r ≤ x → x < l.length → V ≤ l.getD (d.getD x default) default * ((l.length : Int) - (x : Int)) := by
      intro V
      rw [Int.le_min, i2]
      constructor
      · rintro ⟨⟨a, b⟩, c⟩
        refine ⟨a, fun x h1 h2 => ?_⟩
        by_cases e : x = r
        · subst e; exact c
        · exact b x (by omega) h2
      · rintro ⟨a, b⟩
        exact ⟨⟨a, fun x h1 h2 => b x (by omega) h2⟩, b r (Nat.le_refl _) hrl⟩
    have hsv : suv l (d.getD r default) = min s.2 (l.getD (d.getD r default) default * ((l.length : Int) - (r : Int))) := by
      refine ge_ext fun V => ?_
      rw [hm, suv, mnU_ge]
      refine and_congr_right fun _ => ⟨fun hx y h1 h2 => ?_, fun hx x h1 h2 => ?_⟩
      · have := hx (d.getD y default) (h.2.2.2.1 y h2) (by rw [h.at hrl, h.at h2]; exact h1)
        rwa [h.at h2] at this
      · obtain ⟨a1, a2⟩ := h.ix h1
        have := hx (at' l x) (by rw [h.at hrl] at h2; exact h2) a1
        rwa [a2] at this
    simp only [bkStep, Int.toNat_natCast]
    refine ⟨by simp [i1], fun V => ?_, fun r' h1 h2 => ?_⟩
    · rw [hm]
      refine and_congr_right fun _ => ⟨fun hx x h1 h2 => hx x (by omega) h2, fun hx x h1 h2 => hx x (by omega) h2⟩
    · rw [getD_set _ _ _ _ (by omega)]
      by_cases e : r' = r
      · subst e; rw [if_pos rfl, hsv]
      · rw [if_neg, i3 r' (by omega) h2]
        intro he
        have := h.2.2.2.2.1 r r' (by omega) h2
        rw [he] at this
        exact LTl.irr this
theorem bk_fin {l : List Int} {d : List Nat} (h : Ord l l.length d) : (bkF l (bItems (zsN d))).1 = suU l l.length := by
  obtain ⟨i1, _, i3⟩ := bk_pre h l.length (Nat.le_refl _)
  rw [List.take_of_length_le (by rw [bItems_length, zsN_length, h.1]; exact Nat.le_refl _)] at i1 i3
  refine list_ext_getD (d := default) (by simp [i1]) fun i hi => ?_
  obtain ⟨a1, a2⟩ := h.ix (k := i) (by omega)
  rw [suU_getD (by omega)]
  have := i3 (at' l i) (by omega) a1
  rwa [a2] at this

/-! ### within what is closed -/
theorem selU_countP (l : List Int) (s : Nat) (p : Int → Bool) : ∀ k, (selU l s k).countP p = (List.range k).countP fun i => decide (bitN s i = 1) && p (l.getD i default)
  | 0 => rfl
  | k + 1 => by
    rw [List.range_succ, List.countP_append, ← selU_countP l s p k, selU]
    by_cases h : bitN s k = 1
    · rw [if_pos h, List.countP_append]; simp [h, List.countP_cons]
    · simp [h]
theorem sorted_count {s : List Int} (hs : s.Pairwise (· ≤ ·)) {v : Int} {m : Nat} (h1 : 1 ≤ m) (hm : m ≤ s.countP fun x => decide (x ≤ v)) : m - 1 < s.length ∧ s.getD (m - 1) default ≤ v := by
  have hl : (s.countP fun x => decide (x ≤ v)) ≤ s.length := List.countP_le_length
  refine ⟨by omega, Classical.byContradiction fun hc => ?_⟩
  have h2 : (s.drop (m - 1)).countP (fun x => decide (x ≤ v)) = 0 := by
    rw [List.countP_eq_zero]
    intro x hx
    obtain ⟨i, hi, rfl⟩ := mem_getD hx
    rw [List.length_drop] at hi
    have e : (s.drop (m - 1)).getD i default = s.getD (m - 1 + i) default := by rw [List.getD_eq_getElem?_getD, List.getD_eq_getElem?_getD, List.getElem?_drop]
    rw [e]
    have := sorted_getD hs (show m - 1 ≤ m - 1 + i by omega) (by omega)
    rw [decide_eq_true_iff]
    omega
  have h3 : s.countP (fun x => decide (x ≤ v)) = (s.take (m - 1)).countP (fun x => decide (x ≤ v)) + (s.drop (m - 1)).countP (fun x => decide (x ≤ v)) := by
    rw [← List.countP_append, List.take_append_drop]
  have h4 : (s.take (m - 1)).countP (fun x => decide (x ≤ v)) ≤ (s.take (m - 1)).length := List.countP_le_length
  rw [List.length_take] at h4
  omega
theorem suv_closed {l : List Int} {d : List Nat} (h : Ord l l.length d) (hall : ∀ x ∈ l, 0 ≤ x) {lev : Int} (h0 : 0 ≤ lev) (h1 : lev < 1000) {i : Nat} (hi : i < l.length) (hv : suv l i ≤ lev) : CPr l lev true i := by
  obtain ⟨x, hx, hxi, hxe⟩ : ∃ x, x < l.length ∧ at' l i ≤ at' l x ∧ l.getD x default * ((l.length : Int) - (at' l x : Int)) ≤ lev := by
    refine Classical.byContradiction fun hc => ?_
    have : lev + 1 ≤ suv l i := (mnU_ge l.length).2 ⟨by omega, fun x a b => Classical.byContradiction fun hn => hc ⟨x, a, b, by omega⟩⟩
    omega
  intro s q1 q2 q3
  obtain ⟨m, hm⟩ : ∃ m, m = (List.range l.length).countP fun k => decide (bitN s k = 1) && decide (at' l k ≤ at' l x) := ⟨_, rfl⟩
  have hm1 : 1 ≤ m := by
    rw [hm]
    refine List.countP_pos_iff.2 ⟨i, List.mem_range.2 hi, ?_⟩
    simp [q3, hxi]
  have hcnt : m ≤ (sortI (sel l s)).countP fun y => decide (y ≤ l.getD x default) := by
    rw [(sortI_perm (sel l s)).countP_eq, sel, selU_countP, hm]
    refine List.countP_mono_left fun k hk hb => ?_
    rw [List.mem_range] at hk
    simp only [Bool.and_eq_true, decide_eq_true_eq] at hb ⊢
    exact ⟨hb.1, h.mono hk hx hb.2⟩
  have hq : (sel l s).length ≤ m + (l.length - (at' l x + 1)) := by
    unfold sel
    rw [selU_count, hm]
    have hK := (h.ix hx).1
    rw [← h.from (r := at' l x + 1) (by omega)]
    have e1 : ∀ (L : List Nat), L.countP (fun i => decide (bitN s i = 1)) ≤ L.countP (fun k => decide (bitN s k = 1) && decide (at' l k ≤ at' l x)) + L.countP (fun k => decide (at' l x + 1 ≤ at' l k)) := by
      intro L
      induction L with
      | nil => simp
      | cons a L ih =>
        simp only [List.countP_cons]
        by_cases c1 : bitN s a = 1 <;> by_cases c2 : at' l a ≤ at' l x <;> by_cases c3 : at' l x + 1 ≤ at' l a <;> simp [c1, c2, c3] <;> omega
    exact e1 _
  obtain ⟨k1, k2⟩ := sorted_count (sortI_sorted (sel l s)) hm1 hcnt
  refine ⟨m - 1, k1, ?_⟩
  simp only [if_true]
  rw [sortI_length]
  have hK := (h.ix hx).1
  have hp0 := hall _ (getD_mem hx)
  have hy0 : 0 ≤ (sortI (sel l s)).getD (m - 1) default := hall _ (sel_mem ((sortI_perm (sel l s)).mem_iff.1 (getD_mem k1)))
  obtain ⟨N, hN⟩ : ∃ N : Int, N = (l.length : Int) - (at' l x : Int) := ⟨_, rfl⟩
  rw [← hN] at hxe
  have a1 : (sortI (sel l s)).getD (m - 1) default * ((sel l s).length : Int) ≤ l.getD x default * ((sel l s).length : Int) := Int.mul_le_mul_of_nonneg_right k2 (by omega)
  have a2 : l.getD x default * ((sel l s).length : Int) ≤ l.getD x default * ((m : Int) + N - 1) := Int.mul_le_mul_of_nonneg_left (by omega) hp0
  have a3 : l.getD x default * ((m : Int) + N - 1) ≤ l.getD x default * ((m : Int) * N) := by
    refine Int.mul_le_mul_of_nonneg_left ?_ hp0
    have := Int.mul_nonneg (show (0 : Int) ≤ (m : Int) - 1 by omega) (show (0 : Int) ≤ N - 1 by omega)
    have e : ((m : Int) - 1) * (N - 1) = (m : Int) * N - (m : Int) - N + 1 := by
      rw [Int.sub_mul, Int.mul_sub, Int.one_mul, Int.mul_one]; omega
    omega
  have a4 : l.getD x default * ((m : Int) * N) ≤ (m : Int) * lev := by
    have e : l.getD x default * ((m : Int) * N) = (m : Int) * (l.getD x default * N) := by
      rw [← Int.mul_assoc, Int.mul_comm (l.getD x default) (m : Int), Int.mul_assoc]
    rw [e]
    exact Int.mul_le_mul_of_nonneg_left hxe (by omega)
  have e : ((m - 1 : Nat) : Int) + 1 = (m : Int) := by omega
  rw [e]
  omega
theorem suU_found {l : List Int} {d : List Nat} (h : Ord l l.length d) (hall : ∀ x ∈ l, 0 ≤ x) {lev : Int} (h0 : 0 ≤ lev) (h1 : lev < 1000) {x : Int} (hx : x ∈ foU (suU l l.length) lev l.length) : x ∈ clo l lev true := by
  simp only [foU, List.mem_map, List.mem_filter, List.mem_range, decide_eq_true_eq] at hx
  obtain ⟨i, ⟨hi, hv⟩, rfl⟩ := hx
  rw [suU_getD hi] at hv
  exact clo_mem.2 ⟨i, rfl, hi, suv_closed h hall h0 h1 hi hv⟩

/-! ### rounds whose items are the list's own -/
theorem xa_rangeC {cx : Cx} {keep : List Nat} {A : Asr} {Q : AExit → Asr → Prop} {σ : Type} {gt : Nat} {ps : Array Tmp} {a b : Code} {k : Nat} {l : List (Nat × Nat)} {zs : List Int}
    (K : Asr) (I : List (Nat × Int) → σ → Asr) (Pr : List (Nat × Int) → σ → Prop) (s0 : σ) (hg : opd A (.tmp gt) = some (.clo k [.ipt (.list (zs.map iV)) 0])) (hl : codeAsg a = some l) (hF : cx.it k = some itBwd) (hx : zs.length ≤ maxL) (hnb : noRange b = true) (hp : ps.size = 2)
    (hk : okKeys (codeDsts (.rangeFunc (.tmp gt) ps a b)) K = true) (hi : ∀ zs s, okKeys (codeDsts (.rangeFunc (.tmp gt) ps a b)) (I zs s) = true) (h0 : HasL A (K ++ I [] s0)) (hp0 : Pr [] s0)
    (hs : ∀ (ys : List (Nat × Int)) (i : Nat) (z : Int) (s : σ), (∀ y ∈ ys, y.2 ∈ zs) → (i < zs.length ∧ z = zs.getD i 0) → ys.length < zs.length → Pr ys s → XA cx keep b (startA keep ps.toList l (bEnc (i, z)) (K ++ I ys s)) fun r A' => r = .normal ∧ ∃ s', Pr (ys ++ [(i, z)]) s' ∧ HasL A' (K ++ I (ys ++ [(i, z)]) s'))
    (h : ∀ ys s, ys = bItems zs → Pr ys s → Q .normal (K ++ I ys s)) : XA cx keep (.rangeFunc (.tmp gt) ps a b) A Q := by
  refine xa_range (items := bItems zs) (enc := bEnc) (fun ys s => K ++ I ys s) Pr hg hl hF (by simp [itBwd, unI_map, hx]) hnb rfl (fun z => by rw [hp]; rfl) (fun ys s x hm => ?_) s0 h0 hp0 (fun ys z s h1 h2 h3 h4 => ?_) (fun s => h _ s rfl)
  · rcases List.mem_append.1 hm with hm | hm
    · exact List.all_eq_true.1 hk x hm
    · exact List.all_eq_true.1 (hi ys s) x hm
  · exact hs ys z.1 z.2 s (fun y hy => bItems_mem (h1 y hy)) (bItems_get h2) (by rw [bItems_length] at h3; exact h3) h4
end Go.Mv
end

section
/- Chances that rise: blocks of strictly rising means. -/
namespace Go.Mv
open Go
/-- ones, many, the last value -/
abbrev Bk := Int × Int × Int
section
variable {P Q v : Nat → Int}
def SegL (P Q v : Nat → Int) : Nat → List Bk → Nat → Prop
  | a, [], e => a = e
  | a, b :: r, e => ∃ m, a < m ∧ b.1 = P m - P a ∧ b.2.1 = Q m - Q a ∧ b.2.2 = v (m - 1) ∧ (∀ k, a < k → k ≤ m → (P m - P a) * (Q k - Q a) ≤ (P k - P a) * (Q m - Q a)) ∧ SegL P Q v m r e
theorem SegL.le : ∀ {l : List Bk} {a e : Nat}, SegL P Q v a l e → a ≤ e
  | [], _, _, h => Nat.le_of_eq h
  | _ :: _, _, _, ⟨_, h1, _, _, _, _, h⟩ => by have := h.le; omega
theorem SegL.append : ∀ {l1 l2 : List Bk} {a e : Nat}, SegL P Q v a (l1 ++ l2) e ↔ ∃ m, SegL P Q v a l1 m ∧ SegL P Q v m l2 e
  | [], l2, a, e => ⟨fun h => ⟨a, rfl, h⟩, fun ⟨m, h1, h2⟩ => by cases (h1 : a = m); exact h2⟩
  | b :: l1, l2, a, e => by
    constructor
    · rintro ⟨m, h1, h2, h3, h4, h5, h6⟩
      obtain ⟨k, k1, k2⟩ := SegL.append.1 h6
      exact ⟨k, ⟨m, h1, h2, h3, h4, h5, k1⟩, k2⟩
    · rintro ⟨k, ⟨m, h1, h2, h3, h4, h5, k1⟩, k2⟩
      exact ⟨m, h1, h2, h3, h4, h5, SegL.append.2 ⟨k, k1, k2⟩⟩
theorem SegL.single (k : Nat) : SegL P Q v k [(P (k + 1) - P k, Q (k + 1) - Q k, v k)] (k + 1) := by
  refine ⟨k + 1, by omega, rfl, rfl, rfl, fun j h1 h2 => ?_, rfl⟩
  have : j = k + 1 := by omega
  subst this
  exact Int.le_refl _
theorem Qlt {m : Nat} (hQ : ∀ j, j < m → Q j < Q (j + 1)) : ∀ {b a : Nat}, a < b → b ≤ m → Q a < Q b
  | 0, _, h, _ => by omega
  | b + 1, a, h, hm => by
    have h1 := hQ b (by omega)
    by_cases e : a = b
    · subst e; exact h1
    · have := Qlt hQ (b := b) (a := a) (by omega) (by omega); omega
theorem merge_alg1 {X Y p q u z : Int} (hp : 0 < p) (hu : 0 ≤ u) (h0 : Y * p ≤ X * q) (h1 : X * u ≤ z * p) (hq : 0 ≤ q) : (X + Y) * u ≤ z * (p + q) := by
  refine Int.le_of_mul_le_mul_left (a := p) ?_ hp
  have a1 := Int.mul_le_mul_of_nonneg_right h0 hu
  have a2 := Int.mul_le_mul_of_nonneg_right h1 (show 0 ≤ p + q by omega)
  grind
theorem merge_alg2 {X Y p q u z : Int} (hq : 0 < q) (hu : u ≤ q) (h0 : Y * p ≤ X * q) (h1 : Y * u ≤ z * q) (hp : 0 ≤ p) : (X + Y) * (p + u) ≤ (X + z) * (p + q) := by
  refine Int.le_of_mul_le_mul_left (a := q) ?_ hq
  have a1 := Int.mul_nonneg (show 0 ≤ X * q - Y * p by omega) (show 0 ≤ q - u by omega)
  have a2 := Int.mul_le_mul_of_nonneg_right h1 (show 0 ≤ p + q by omega)
  grind
/-- two blocks that do not rise are one -/
theorem SegL.merge {m : Nat} (hQ : ∀ j, j < m → Q j < Q (j + 1)) {x y : Bk} {a e : Nat} (he : e ≤ m) (h : SegL P Q v a [x, y] e) (hxy : ¬ x.1 * y.2.1 < y.1 * x.2.1) : SegL P Q v a [(x.1 + y.1, x.2.1 + y.2.1, y.2.2)] e := by
  obtain ⟨k, h1, h2, h3, h4, h5, j, j1, j2, j3, j4, j5, j6⟩ := h
  have j6 : j = e := j6
  subst j6
  rw [h2, h3, j2, j3] at hxy
  have q1 := Qlt hQ h1 (by omega)
  have q2 := Qlt hQ j1 (by omega)
  refine ⟨j, by omega, by dsimp only; omega, by dsimp only; omega, j4, fun t t1 t2 => ?_, rfl⟩
  have e1 : P j - P a = (P k - P a) + (P j - P k) := by omega
  have e2 : Q j - Q a = (Q k - Q a) + (Q j - Q k) := by omega
  rw [e1, e2]
  rcases Nat.lt_or_ge k t with c | c
  · have e3 : Q t - Q a = (Q k - Q a) + (Q t - Q k) := by omega
    have e4 : P t - P a = (P k - P a) + (P t - P k) := by omega
    rw [e3, e4]
    have q3 : Q t ≤ Q j := by
      rcases Nat.lt_or_eq_of_le t2 with c2 | c2
      · have := Qlt hQ c2 (by omega); omega
      · subst c2; exact Int.le_refl _
    exact merge_alg2 (by omega) (by omega) (by omega) (j5 t c t2) (by omega)
  · have q3 := Qlt hQ t1 (by omega)
    exact merge_alg1 (by omega) (by omega) (by omega) (h5 t t1 c) (by omega)
/-- the means rise -/
def ltB (x y : Bk) : Prop := x.1 * y.2.1 < y.1 * x.2.1
def Inc : List Bk → Prop
  | [] => True
  | [_] => True
  | b :: c :: r => ltB b c ∧ Inc (c :: r)
theorem Inc.snoc : ∀ {l : List Bk} {x z : Bk}, Inc (l ++ [x] ++ [z]) ↔ Inc (l ++ [x]) ∧ ltB x z
  | [], x, z => by simp [Inc]
  | [b], x, z => by simp [Inc, and_assoc]
  | b :: c :: r, x, z => by
    have := Inc.snoc (l := c :: r) (x := x) (z := z)
    simp only [List.cons_append] at this ⊢
    simp only [Inc, this, and_assoc]
theorem Inc.init : ∀ {l : List Bk} {x : Bk}, Inc (l ++ [x]) → Inc l
  | [], _, _ => trivial
  | [_], _, _ => trivial
  | b :: c :: r, x, h => ⟨h.1, Inc.init (l := c :: r) (x := x) h.2⟩
theorem Inc.tail {b : Bk} {r : List Bk} (h : Inc (b :: r)) : Inc r := by
  cases r with
  | nil => trivial
  | cons c r => exact h.2
theorem lt_alg {X p Y q Z r : Int} (hq : 0 < q) (hp : 0 < p) (hr : 0 < r) (h1 : X * q < Y * p) (h2 : Y * r < Z * q) : X * r < Z * p := by
  refine Int.lt_of_mul_lt_mul_left (a := q) ?_ (by omega)
  have a1 := Int.mul_lt_mul_of_pos_right h1 hr
  have a2 := Int.mul_lt_mul_of_pos_right h2 hp
  grind
theorem in_alg {X p Y q u z : Int} (hq : 0 < q) (hp : 0 < p) (hu : 0 < u) (h1 : X * q < Y * p) (h2 : Y * u ≤ z * q) : X * u < z * p := by
  refine Int.lt_of_mul_lt_mul_left (a := q) ?_ (by omega)
  have a1 := Int.mul_lt_mul_of_pos_right h1 hu
  have a2 := Int.mul_le_mul_of_nonneg_right h2 (show 0 ≤ p by omega)
  grind
theorem SegL.above {n : Nat} (hQ : ∀ j, j < n → Q j < Q (j + 1)) {X p : Int} (hp : 0 < p) : ∀ {r : List Bk} {m e : Nat}, e ≤ n → SegL P Q v m r e → Inc r → (∀ b, r.head? = some b → X * b.2.1 < b.1 * p) →
    ∀ k, m < k → k ≤ e → X * (Q k - Q m) < (P k - P m) * p
  | [], m, e, _, h, _, _, k, k1, k2 => by cases (h : m = e); omega
  | b :: r, m, e, he, h, hi, hb, k, k1, k2 => by
    obtain ⟨m', h1, h2, h3, h4, h5, h6⟩ := h
    have hme := h6.le
    have hb0 : X * b.2.1 < b.1 * p := hb b rfl
    rw [h2, h3] at hb0
    clear hb
    have q1 := Qlt hQ h1 (by omega)
    rcases Nat.lt_or_ge m' k with c | c
    · have a1 := SegL.above hQ hp he h6 hi.tail (fun c hc => by
        cases r with
        | nil => cases hc
        | cons c' r =>
          have hcc : c' = c := Option.some.inj hc
          subst hcc
          obtain ⟨m2, g1, g2, g3, _, _, g6⟩ := h6
          have hlt : ltB b c' := hi.1
          unfold ltB at hlt
          rw [h2, h3] at hlt
          have hm2 := g6.le
          have q2 := Qlt hQ g1 (by omega)
          exact lt_alg (by omega) hp (by omega) hb0 hlt) k c k2
      have e1 : Q k - Q m = (Q m' - Q m) + (Q k - Q m') := by omega
      have e2 : P k - P m = (P m' - P m) + (P k - P m') := by omega
      rw [e1, e2, Int.mul_add, Int.add_mul]
      omega
    · have q2 := Qlt hQ k1 (by omega)
      exact in_alg (by omega) hp (by omega) hb0 (h5 k k1 c)
/-- behind the first block the means are greater -/
theorem SegL.after {n : Nat} (hQ : ∀ j, j < n → Q j < Q (j + 1)) {b : Bk} {r : List Bk} {a m e : Nat} (he : e ≤ n) (h1 : a < m) (h2 : b.1 = P m - P a) (h3 : b.2.1 = Q m - Q a) (h6 : SegL P Q v m r e) (hi : Inc (b :: r)) :
    ∀ k, m < k → k ≤ e → (P m - P a) * (Q k - Q a) < (P k - P a) * (Q m - Q a) := by
  intro k k1 k2
  have hme := h6.le
  have q1 := Qlt hQ h1 (by omega)
  have a1 := SegL.above hQ (X := P m - P a) (p := Q m - Q a) (by omega) he h6 hi.tail (fun c hc => by
    cases r with
    | nil => cases hc
    | cons c' r =>
      have hcc : c' = c := Option.some.inj hc
      subst hcc
      have hlt : ltB b c' := hi.1
      unfold ltB at hlt
      rwa [h2, h3] at hlt) k k1 k2
  have e1 : Q k - Q a = (Q m - Q a) + (Q k - Q m) := by omega
  have e2 : P k - P a = (P m - P a) + (P k - P m) := by omega
  rw [e1, e2, Int.mul_add, Int.add_mul]
  omega
/-! ### the share of a value's block -/
def fiU : List Bk → Int → Nat
  | [], _ => 0
  | b :: r, x => if x ≤ b.2.2 then 0 else fiU r x + 1
theorem SegL.has {n : Nat} (hv : ∀ i j, i < j → j < n → v i < v j) : ∀ {bs : List Bk} {a e g : Nat}, e ≤ n → SegL P Q v a bs e → g < e → a < e → fiU bs (v g) < bs.length
  | [], a, e, g, _, h, _, h2 => by cases (h : a = e); omega
  | b :: r, a, e, g, he, h, hg, _ => by
    obtain ⟨m, h1, h2, h3, h4, h5, h6⟩ := h
    unfold fiU
    split
    · simp
    · rename_i c
      have hm := h6.le
      have hgm : m ≤ g := by
        refine Classical.byContradiction fun hc => c ?_
        rw [h4]
        rcases Nat.lt_or_ge g (m - 1) with c2 | c2
        · have := hv g (m - 1) c2 (by omega); omega
        · have : g = m - 1 := by omega
          rw [this]; exact Int.le_refl _
      have := SegL.has hv he h6 hg (by omega)
      simpa using this
end
end Go.Mv
end

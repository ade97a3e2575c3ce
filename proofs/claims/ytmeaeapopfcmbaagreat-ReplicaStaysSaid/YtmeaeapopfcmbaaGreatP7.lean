/- Put and Drop, plain: how many tags of a stone and a name there are. No conditions. -/
import Derived.Test.YtmeaeapopfcmbaaGreatG6
namespace Go.Proofs.YtmeaeapopfcmbaaGreat
open Go.RowKit Go.Proofs.YtmeaeapopfcmbaaGreatW.PrintWords Go.Proofs.YtmeaeapopfcmbaaGreatW.PrintLast Go.Proofs.YtmeaeapopfcmbaaGreatW.PrintMore PP
set_option linter.unusedVariables false
set_option linter.unusedSimpArgs false
def cntT (S : S28) (st : Int) (nm : ByteArray) : Nat := (dotsOf st nm (tagsP S)).length
theorem cnt_filter (st : Int) (nm : ByteArray) (T : List (S97 × S99)) : (dotsOf st nm T).length = (T.filter (isTag st nm)).length := by unfold dotsOf; rw [List.length_map]
theorem isTag_iff {st : Int} {nm : ByteArray} {p : S97 × S99} : isTag st nm p = true ↔ p.2.f0 = st ∧ p.2.f1 = nm := by simp [isTag]
/-- No tag has a dot that its office hasn't seen. -/
theorem tag_fresh {S : S28} (hS : Rt S) {o : Int} (T : List (S97 × S99)) (hT : ∀ p ∈ T, p ∈ tagsP S) : mget T ⟨o, sget S.f0 o + 1⟩ = none := by
  rw [mget_none]
  intro p hp e
  have h1 := hS.kv.tk p (hT p hp)
  have h2 := h1.2
  simp only [tagB, Bool.and_eq_true, inR_iff, decide_eq_true_eq] at h2
  have h3 : p.2.f2 = ⟨o, sget S.f0 o + 1⟩ := h1.1.symm.trans e
  rw [h3] at h2
  simp only at h2
  omega
theorem put_tags {S : S28} (hS : Rt S) {o : Int} (ho : inR 0 7 o = true) {st : Int} {nm : ByteArray} (h0 : putE S o st nm = 0) : (tagsP (aPut S o st nm)).Perm ((⟨o, sget S.f0 o + 1⟩, ⟨st, nm, ⟨o, sget S.f0 o + 1⟩⟩) :: (tagsP S).filter fun p => !isTag st nm p) := by
  refine (put_kv hS ho st nm).1.tags.trans ?_
  unfold putT
  rw [if_pos h0]
  unfold mput
  rw [mdel_none (tag_fresh hS _ fun p hp => (List.mem_filter.1 hp).1)]
theorem put_cnt {S : S28} (hS : Rt S) {o : Int} (ho : inR 0 7 o = true) {st : Int} {nm : ByteArray} (h0 : putE S o st nm = 0) (st' : Int) (nm' : ByteArray) : cntT (aPut S o st nm) st' nm' = if st' = st ∧ nm' = nm then 1 else cntT S st' nm' := by
  unfold cntT
  rw [(dotsOf_perm st' nm' (put_tags hS ho h0)).length_eq, cnt_filter, cnt_filter, List.filter_cons, List.filter_filter]
  by_cases e : st' = st ∧ nm' = nm
  · obtain ⟨rfl, rfl⟩ := e
    rw [if_pos (by simp [isTag]), if_pos ⟨rfl, rfl⟩]
    have : (tagsP S).filter (fun a => isTag st' nm' a && !isTag st' nm' a) = [] := by simp
    rw [this]
    rfl
  · rw [if_neg (by simp [isTag]; intro h1 h2; exact e ⟨h1.symm, h2.symm⟩), if_neg e]
    congr 1
    refine List.filter_congr fun p _ => ?_
    cases h1 : isTag st' nm' p
    · rfl
    · cases h2 : isTag st nm p
      · rfl
      · rw [isTag_iff] at h1 h2
        exact absurd ⟨h1.1.symm.trans h2.1, h1.2.symm.trans h2.2⟩ e
theorem put_len {S : S28} (hS : Rt S) {o : Int} (ho : inR 0 7 o = true) {st : Int} {nm : ByteArray} (h0 : putE S o st nm = 0) : (aPut S o st nm).f1.length + cntT S st nm = S.f1.length + 1 := by
  have h1 := (put_tags hS ho h0).length_eq
  rw [tagsP_len, List.length_cons] at h1
  have h2 := filter_split (tagsP S) (isTag st nm)
  rw [tagsP_len] at h2
  have h3 : cntT S st nm = ((tagsP S).filter (isTag st nm)).length := cnt_filter st nm _
  omega
theorem put_seen {S : S28} (hS : Rt S) {o : Int} (ho : inR 0 7 o = true) {st : Int} {nm : ByteArray} (h0 : putE S o st nm = 0) : sget (aPut S o st nm).f0 o = sget S.f0 o + 1 := by
  rw [inR_iff] at ho
  show sget (putS S o st nm) o = _
  unfold putS
  rw [if_pos h0, sget_set hS.sl ho.1 ho.2 _ o ho.1, if_pos rfl]
theorem putE_of {S : S28} {o st : Int} {nm : ByteArray} (ha : argB st nm = true) (hs : sget S.f0 o < MC) : putE S o st nm = if S.f1.length < 128 + cntT S st nm then 0 else 8 := by
  unfold putE cntT
  rw [if_neg (by rw [ha]; simp), tagsP_len]
  by_cases h : S.f1.length < 128 + (dotsOf st nm (tagsP S)).length
  · rw [if_neg (by omega), if_neg (by omega), if_pos h]
  · rw [if_pos (by omega), if_neg h]
theorem drop_tags {S : S28} (hS : Rt S) {st : Int} {nm : ByteArray} (ha : argB st nm = true) : (tagsP (aDrop S st nm)).Perm ((tagsP S).filter fun p => !isTag st nm p) := by
  refine (drop_kv hS st nm).1.tags.trans ?_
  unfold dropT
  rw [if_pos ha]
theorem drop_cnt {S : S28} (hS : Rt S) {st : Int} {nm : ByteArray} (ha : argB st nm = true) (st' : Int) (nm' : ByteArray) : cntT (aDrop S st nm) st' nm' = if st' = st ∧ nm' = nm then 0 else cntT S st' nm' := by
  unfold cntT
  rw [(dotsOf_perm st' nm' (drop_tags hS ha)).length_eq, cnt_filter, cnt_filter, List.filter_filter]
  by_cases e : st' = st ∧ nm' = nm
  · obtain ⟨rfl, rfl⟩ := e
    rw [if_pos ⟨rfl, rfl⟩]
    have : (tagsP S).filter (fun a => isTag st' nm' a && !isTag st' nm' a) = [] := by simp
    rw [this]
    rfl
  · rw [if_neg e]
    congr 1
    refine List.filter_congr fun p _ => ?_
    cases h1 : isTag st' nm' p
    · rfl
    · cases h2 : isTag st nm p
      · rfl
      · rw [isTag_iff] at h1 h2
        exact absurd ⟨h1.1.symm.trans h2.1, h1.2.symm.trans h2.2⟩ e
theorem drop_len {S : S28} (hS : Rt S) {st : Int} {nm : ByteArray} (ha : argB st nm = true) : (aDrop S st nm).f1.length + cntT S st nm = S.f1.length := by
  have h1 := (drop_tags hS ha).length_eq
  rw [tagsP_len] at h1
  have h2 := filter_split (tagsP S) (isTag st nm)
  rw [tagsP_len] at h2
  have h3 : cntT S st nm = ((tagsP S).filter (isTag st nm)).length := cnt_filter st nm _
  omega
/-! ### as many tags as there may be -/
def bA : ByteArray := ⟨#[97]⟩
def bB : ByteArray := ⟨#[98]⟩
def bC : ByteArray := ⟨#[99]⟩
def nmJ (j : Nat) : ByteArray := if j < 64 then bA else bB
structure FullJ (o : Int) (i : Nat) (S : S28) : Prop where
  rt : Rt S
  len : S.f1.length = i
  seen : sget S.f0 o = i
  cnt : ∀ (st : Int) (nm : ByteArray), (∀ j, j < i → ¬ (((j % 64 : Nat) : Int) = st ∧ nmJ j = nm)) → cntT S st nm = 0
  one : ∀ j, j < i → cntT S ((j % 64 : Nat) : Int) (nmJ j) = 1
theorem nmJ_inj {i j : Nat} (hi : i < 128) (hj : j < 128) (h1 : ((j % 64 : Nat) : Int) = ((i % 64 : Nat) : Int)) (h2 : nmJ j = nmJ i) : j = i := by
  have hab : bA ≠ bB := by decide
  unfold nmJ at h2
  split at h2 <;> split at h2
  · omega
  · exact absurd h2 hab
  · exact absurd h2.symm hab
  · omega
theorem nmJ_arg (i : Nat) (hi : i < 128) : argB ((i % 64 : Nat) : Int) (nmJ i) = true := by
  have h1 : nameB (nmJ i) = true := by
    unfold nmJ
    split <;> decide
  unfold argB
  rw [h1, inR_iff.2 (by omega)]
  rfl
theorem full_zero {o : Int} (ho : inR 0 7 o = true) : FullJ o 0 emptyS where
  rt := emptyS_rt
  len := rfl
  seen := by
    rw [inR_iff] at ho
    have : o = 0 ∨ o = 1 ∨ o = 2 ∨ o = 3 ∨ o = 4 ∨ o = 5 ∨ o = 6 ∨ o = 7 := by omega
    rcases this with rfl | rfl | rfl | rfl | rfl | rfl | rfl | rfl <;> rfl
  cnt := fun st nm _ => rfl
  one := fun j hj => absurd hj (Nat.not_lt_zero _)
theorem full_step {o : Int} (ho : inR 0 7 o = true) {i : Nat} {S : S28} (hi : i < 128) (h : FullJ o i S) : putE S o ((i % 64 : Nat) : Int) (nmJ i) = 0 ∧ FullJ o (i + 1) (aPut S o ((i % 64 : Nat) : Int) (nmJ i)) := by
  have hc : cntT S ((i % 64 : Nat) : Int) (nmJ i) = 0 := h.cnt _ _ fun j hj hh => by have := nmJ_inj hi (by omega) hh.1 hh.2; omega
  have e0 : putE S o ((i % 64 : Nat) : Int) (nmJ i) = 0 := by
    rw [putE_of (nmJ_arg i hi) (by rw [h.seen]; unfold MC; omega), if_pos (by rw [h.len]; omega)]
  have hl := put_len h.rt ho e0
  refine ⟨e0, ⟨aPut_rt h.rt ho _ _, by rw [hc, h.len] at hl; omega, by rw [put_seen h.rt ho e0, h.seen]; omega, fun st nm hh => ?_, fun j hj => ?_⟩⟩
  · rw [put_cnt h.rt ho e0, if_neg (fun e => hh i (by omega) ⟨e.1.symm, e.2.symm⟩)]
    exact h.cnt st nm fun j hj => hh j (by omega)
  · rw [put_cnt h.rt ho e0]
    split
    · rfl
    · rename_i hne
      have hji : j ≠ i := fun e => hne (by subst e; exact ⟨rfl, rfl⟩)
      exact h.one j (by omega)
theorem full_end {o : Int} (ho : inR 0 7 o = true) {S : S28} (h : FullJ o 128 S) (x : Nat) (hx : x < 64) :
    putE S o 0 bC = 8 ∧ aPut S o 0 bC = S ∧ putE S o x bA = 0 ∧ (aPut S o x bA).f1.length = 128 ∧ dropN (aPut S o x bA) x bA = 1 ∧ errB (argB x bA) = 0 ∧ putE (aDrop (aPut S o x bA) x bA) o 0 bC = 0 := by
  have argC : argB 0 bC = true := by decide
  have argA : argB (x : Int) bA = true := by
    unfold argB
    rw [inR_iff.2 (by omega)]
    decide
  have cC : cntT S 0 bC = 0 := h.cnt 0 bC fun j hj hh => by
    have h1 : bA ≠ bC := by decide
    have h2 : bB ≠ bC := by decide
    have := hh.2
    unfold nmJ at this
    split at this
    · exact h1 this
    · exact h2 this
  have cA : cntT S x bA = 1 := by
    have := h.one x (by omega)
    unfold nmJ at this
    rw [if_pos hx, Nat.mod_eq_of_lt hx] at this
    exact this
  have sn : sget S.f0 o < MC := by rw [h.seen]; unfold MC; omega
  have e1 : putE S o 0 bC = 8 := by rw [putE_of argC sn, cC, h.len]; rfl
  have e2 : putE S o x bA = 0 := by rw [putE_of argA sn, cA, h.len]; rfl
  have r2 := aPut_rt h.rt ho x bA
  have l2 := put_len h.rt ho e2
  rw [cA, h.len] at l2
  have c2 : cntT (aPut S o x bA) x bA = 1 := by rw [put_cnt h.rt ho e2, if_pos ⟨rfl, rfl⟩]
  have c3 : cntT (aPut S o x bA) 0 bC = 0 := by
    rw [put_cnt h.rt ho e2, if_neg (fun e => absurd e.2 (by decide)), cC]
  have l3 := drop_len r2 argA
  rw [c2] at l3
  have c4 : cntT (aDrop (aPut S o x bA) x bA) 0 bC = 0 := by
    rw [drop_cnt r2 argA, if_neg (fun e => absurd e.2 (by decide)), c3]
  have s4 : sget (aDrop (aPut S o x bA) x bA).f0 o = 129 := by
    show sget (aPut S o x bA).f0 o = 129
    rw [put_seen h.rt ho e2, h.seen]
    rfl
  refine ⟨e1, aPut_err h.rt (by rw [e1]; decide), e2, by omega, ?_, by rw [argA]; rfl, ?_⟩
  · unfold dropN
    rw [if_pos argA]
    have : (dotsOf (x : Int) bA (tagsP (aPut S o x bA))).length = 1 := c2
    rw [this]
    rfl
  · rw [putE_of argC (by rw [s4]; decide), c4, if_pos (by omega)]
end Go.Proofs.YtmeaeapopfcmbaaGreat

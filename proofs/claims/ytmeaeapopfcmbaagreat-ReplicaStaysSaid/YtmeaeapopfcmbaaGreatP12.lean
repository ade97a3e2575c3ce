/- Offices that sync with each other: what they come to; a tag that stays; the last note. No conditions. -/
import Derived.Test.YtmeaeapopfcmbaaGreatP11
namespace Go.Proofs.YtmeaeapopfcmbaaGreat
set_option linter.unusedVariables false
set_option linter.unusedSimpArgs false
open PP
/-! ### the order of what is known -/
section
variable {n d : Nat} {last S : Nat → S28} {P : S28 → Prop} {i k : Nat}
/-! ### a tag that stays -/
/-- Who has seen the dot has the tag. -/
def Kept (P : S28 → Prop) (t : S99) : Prop := ∀ X, P X → stat X t.f2 = none ∨ mget (tagsP X) t.f2 = some t
theorem stat_none {X : S28} {x : S97} : stat X x = none ↔ sget X.f0 x.f0 < x.f1 := by
  unfold stat
  split
  · exact ⟨fun h => absurd h (by simp), fun h => by omega⟩
  · exact ⟨fun _ => by omega, fun _ => rfl⟩
structure Stay (n : Nat) (S : Nat → S28) (P : S28 → Prop) (t : S99) (M : S28) : Prop where
  kept : Kept P t
  w : ∃ i : Nat, i < n ∧ t.f2.f0 = i
  mine : P M
  seen : t.f2.f1 ≤ sget M.f0 t.f2.f0
theorem Stay.owner {t : S99} {M : S28} (h : Stay n S P t M) (hs : Sys n S P) {i : Nat} (hi : i < n) (hS : stat (S i) t.f2 = none) : t.f2.f0 ≠ i := by
  intro e
  have h1 := hs.seen M h.mine i hi
  have h2 := h.seen
  rw [stat_none] at hS
  rw [e] at h2 hS
  omega
theorem stays_put (hs : Sys n S P) {i : Nat} (hi : i < n) {st : Int} {nm : ByteArray} (h0 : putE (S i) i st nm = 0) : Stay n (updN S i (aPut (S i) i st nm)) (fun X => P X ∨ X = aPut (S i) i st nm) ⟨st, nm, ⟨i, sget (S i).f0 i + 1⟩⟩ (aPut (S i) i st nm) := by
  have rS := hs.rt _ (hs.own i hi)
  have n8 := hs.n8
  have ho : inR 0 7 (i : Int) = true := inR_iff.2 ⟨by omega, by omega⟩
  refine ⟨?_, ⟨i, hi, rfl⟩, .inr rfl, ?_⟩
  · rintro X (hX | rfl)
    · refine .inl (stat_none.2 ?_)
      have := hs.seen X hX i hi
      show sget X.f0 (i : Int) < sget (S i).f0 i + 1
      omega
    · right
      rw [put_get rS ho h0, if_pos rfl]
  · show sget (S i).f0 i + 1 ≤ sget (aPut (S i) i st nm).f0 (i : Int)
    rw [put_seen rS ho h0]
    omega
theorem Stay.put {t : S99} {M : S28} (h : Stay n S P t M) (hs : Sys n S P) {i : Nat} (hi : i < n) {st : Int} {nm : ByteArray} (hn : ¬ (t.f0 = st ∧ t.f1 = nm ∧ mget (tagsP (S i)) t.f2 = some t)) : Stay n (updN S i (aPut (S i) i st nm)) (fun X => P X ∨ X = aPut (S i) i st nm) t M := by
  have rS := hs.rt _ (hs.own i hi)
  have n8 := hs.n8
  have ho : inR 0 7 (i : Int) = true := inR_iff.2 ⟨by omega, by omega⟩
  refine ⟨?_, h.w, .inl h.mine, h.seen⟩
  rintro X (hX | rfl)
  · exact h.kept X hX
  by_cases h0 : putE (S i) i st nm = 0
  · obtain ⟨j, hj, ej⟩ := h.w
    rcases h.kept _ (hs.own i hi) with h1 | h1
    · left
      have hne := h.owner hs hi h1
      rw [stat_none] at h1 ⊢
      rw [put_seen' rS ho h0 _ (by omega), if_neg hne]
      exact h1
    · right
      have h2 := (tag_seen rS h1).2.2.2.2
      rw [put_get rS ho h0, if_neg, h1]
      · simp only [Option.bind_some]
        rw [if_neg]
        rw [isTag_iff]
        rintro ⟨a, b⟩
        exact hn ⟨a, b, h1⟩
      · intro e
        rw [e] at h2
        simp only at h2
        omega
  · rw [aPut_err rS h0]
    exact h.kept _ (hs.own i hi)
theorem Stay.drop {t : S99} {M : S28} (h : Stay n S P t M) (hs : Sys n S P) {i : Nat} (hi : i < n) {st : Int} {nm : ByteArray} (hn : ¬ (t.f0 = st ∧ t.f1 = nm ∧ mget (tagsP (S i)) t.f2 = some t)) : Stay n (updN S i (aDrop (S i) st nm)) (fun X => P X ∨ X = aDrop (S i) st nm) t M := by
  have rS := hs.rt _ (hs.own i hi)
  refine ⟨?_, h.w, .inl h.mine, h.seen⟩
  rintro X (hX | rfl)
  · exact h.kept X hX
  rcases h.kept _ (hs.own i hi) with h1 | h1
  · left
    rw [stat_none] at h1 ⊢
    exact h1
  · right
    rw [drop_get rS, h1]
    split
    · simp only [Option.bind_some]
      rw [if_neg]
      rw [isTag_iff]
      rintro ⟨a, b⟩
      exact hn ⟨a, b, h1⟩
    · rfl
/-- A call that leaves the tags. -/
theorem Stay.same {t : S99} {M : S28} (h : Stay n S P t M) (hs : Sys n S P) {i : Nat} (hi : i < n) {S' : S28} (h0 : S'.f0 = (S i).f0) (h1 : ∀ x, mget (tagsP S') x = mget (tagsP (S i)) x) : Stay n (updN S i S') (fun X => P X ∨ X = S') t M := by
  refine ⟨?_, h.w, .inl h.mine, h.seen⟩
  rintro X (hX | rfl)
  · exact h.kept X hX
  rcases h.kept _ (hs.own i hi) with h2 | h2
  · left
    rw [stat_none] at h2 ⊢
    rw [h0]
    exact h2
  · right
    rw [h1]
    exact h2
theorem Stay.sync {t : S99} {M : S28} (h : Stay n S P t M) (hs : Sys n S P) {i : Nat} (hi : i < n) {Y : S28} (hY : P Y) : Stay n (updN S i (aSync (S i) Y)) (fun X => P X ∨ X = aSync (S i) Y) t M := by
  have rS := hs.rt _ (hs.own i hi)
  have rY := hs.rt _ hY
  have n8 := hs.n8
  refine ⟨?_, h.w, .inl h.mine, h.seen⟩
  rintro X (hX | rfl)
  · exact h.kept X hX
  unfold aSync
  split
  · obtain ⟨j, hj, ej⟩ := h.w
    have hst := am_stat rS rY (x := t.f2) (by omega) (by omega)
    have kS := h.kept _ (hs.own i hi)
    have kY := h.kept _ hY
    have al : ∀ {X : S28}, Rt X → mget (tagsP X) t.f2 = some t → stat X t.f2 = some (some t) := fun hX hu => (stat_alive hX).2 hu
    rcases kS with kS | kS <;> rcases kY with kY | kY
    · left; rw [hst, kS, kY]; rfl
    · right; rw [am_get rS rY, kS, al rY kY]; rfl
    · right; rw [am_get rS rY, kY, al rS kS]; rfl
    · right; rw [am_get rS rY, al rS kS, al rY kY, jn_self]; rfl
  · exact h.kept _ (hs.own i hi)
theorem holds_iff {X : S28} (hX : Rt X) {t : S99} : t ∈ X.f1 ↔ mget (tagsP X) t.f2 = some t := by
  constructor
  · intro h
    exact mget_mem hX.kv.tn (List.mem_map.2 ⟨t, h, rfl⟩)
  · intro h
    obtain ⟨u, hu, e⟩ := List.mem_map.1 (mget_some h)
    simp only [Prod.mk.injEq] at e
    exact e.2 ▸ hu
end
end Go.Proofs.YtmeaeapopfcmbaaGreat

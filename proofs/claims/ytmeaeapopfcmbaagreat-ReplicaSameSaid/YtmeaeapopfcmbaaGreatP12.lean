/- Offices that sync with each other: what they come to; a tag that stays; the last note. No conditions. -/
import Derived.Test.YtmeaeapopfcmbaaGreatP11
namespace Go.Proofs.YtmeaeapopfcmbaaGreat
set_option linter.unusedVariables false
set_option linter.unusedSimpArgs false
open PP
/-! ### the order of what is known -/
theorem Lo.refl (A : S28) : Lo A A := ⟨fun _ _ _ => by omega, fun _ _ _ => jn_self _, fun _ => comb_self gcN _, fun _ => comb_self gcI _⟩
theorem Lo.trans {A B C : S28} (h1 : Lo A B) (h2 : Lo B C) : Lo A C where
  seen := fun o h0 h7 => by have := h1.seen o h0 h7; have := h2.seen o h0 h7; omega
  stat := fun x h0 h7 => by
    have a := h1.stat x h0 h7
    have b := h2.stat x h0 h7
    rw [← a, jn_assoc, b]
  notes := fun x => by
    have a := h1.notes x
    have b := h2.notes x
    rw [← a, comb_assoc gcN, b]
  ways := fun x => by
    have a := h1.ways x
    have b := h2.ways x
    rw [← a, comb_assoc gcI, b]
theorem lo_lub {U A B : S28} (hA : Rt A) (hB : Rt B) (h1 : Lo U A) (h2 : Lo U B) : Lo U (aMerge A B) where
  seen := fun o h0 h7 => by have := h1.seen o h0 h7; have := h2.seen o h0 h7; rw [am_seen hA hB h0 h7]; omega
  stat := fun x h0 h7 => by rw [am_stat hA hB h0 h7, ← jn_assoc, h1.stat x h0 h7, h2.stat x h0 h7]
  notes := fun x => by rw [am_notes hA hB, ← comb_assoc gcN, h1.notes x, h2.notes x]
  ways := fun x => by rw [am_ways hA hB, ← comb_assoc gcI, h1.ways x, h2.ways x]
theorem lo_anti {A B : S28} (hA : Rt A) (hB : Rt B) (hc : Cpt A B) (h1 : Lo A B) (h2 : Lo B A) : A = B := by
  refine st_ext hA hB (fun o h0 h7 => ?_) (fun x h0 h7 => ?_) (fun x => ?_) (fun x => ?_)
  · have := h1.seen o h0 h7; have := h2.seen o h0 h7; omega
  · rw [← h1.stat x h0 h7, stat_comm hA hB hc, h2.stat x h0 h7]
  · rw [← h1.notes x, notes_comm hA hB, h2.notes x]
  · rw [← h1.ways x, ways_comm, h2.ways x]
/-! ### all with all -/
/-- In round i all with smaller numbers have synced with the last states of all; office i with k of them. -/
structure Rnd (n d : Nat) (last S : Nat → S28) (P : S28 → Prop) (i k : Nat) : Prop where
  sys : Sys n S P
  lst : ∀ q, q < n → P (last q)
  lub : ∀ j, j < n → ∀ U, (∀ q, q < n → Lo U (last q)) → Lo U (S j)
  own : ∀ w, ownW n S w = ownW n last w
  done : ∀ j, j < i → ∀ q, q < n → Lo (S j) (last q)
  part : ∀ k', k' < k → Lo (S i) (last ((k' + i * d) % n))
section
variable {n d : Nat} {last S : Nat → S28} {P : S28 → Prop} {i k : Nat}
theorem rnd_zero (h : Sys n S P) : Rnd n d S S P 0 0 :=
  ⟨h, h.own, fun j hj U hU => hU j hj, fun _ => rfl, fun j hj => absurd hj (Nat.not_lt_zero _), fun j hj => absurd hj (Nat.not_lt_zero _)⟩
theorem Rnd.step (h : Rnd n d last S P i k) (hi : i < n) (h0 : Proofs.YtmeaeapopfcmbaaGreat.syncE (S i) (last ((k + i * d) % n)) = 0) : Rnd n d last (updN S i (aSync (S i) (last ((k + i * d) % n)))) (fun X => P X ∨ X = aSync (S i) (last ((k + i * d) % n))) i (k + 1) := by
  have hq : (k + i * d) % n < n := Nat.mod_lt _ (by omega)
  have hY := h.lst _ hq
  have rS := h.sys.rt _ (h.sys.own i hi)
  have rY := h.sys.rt _ hY
  have e : aSync (S i) (last ((k + i * d) % n)) = aMerge (S i) (last ((k + i * d) % n)) := by unfold aSync; rw [if_pos h0]
  have hm := (syncE_0 h0).2
  have sy := h.sys.sync hi hY
  rw [e] at sy ⊢
  refine ⟨sy, fun q hq => .inl (h.lst q hq), fun j hj U hU => ?_, fun w => ?_, fun j hj q hq => ?_, fun k' hk' => ?_⟩
  · unfold updN
    split
    · exact lo_lub rS rY (h.lub i hi U hU) (hU _ hq)
    · exact h.lub j hj U hU
  · rw [ownW_upd hi, h.own]
    intro w hw
    rw [curW_merge rS rY]
    have := h.sys.row _ hY i hi w hw
    omega
  · unfold updN
    rw [if_neg (by omega)]
    exact h.done j hj q hq
  · unfold updN
    rw [if_pos rfl]
    by_cases e2 : k' = k
    · rw [e2]
      exact lo_right rS rY hm
    · exact (lo_left rS rY hm).trans (h.part k' (by omega))
theorem Rnd.next (h : Rnd n d last S P i n) (hi : i < n) : Rnd n d last S P (i + 1) 0 := by
  refine ⟨h.sys, h.lst, h.lub, h.own, fun j hj q hq => ?_, fun k' hk' => absurd hk' (Nat.not_lt_zero _)⟩
  by_cases e : j = i
  · subst e
    obtain ⟨k', hk', e'⟩ : ∃ k', k' < n ∧ (k' + j * d) % n = q := by
      refine ⟨(q + n - j * d % n) % n, Nat.mod_lt _ (by omega), ?_⟩
      have h1 : j * d % n < n := Nat.mod_lt _ (by omega)
      rw [Nat.add_mod, Nat.mod_mod, ← Nat.add_mod]
      have h2 : j * d = n * (j * d / n) + j * d % n := (Nat.div_add_mod _ _).symm
      have h3 : q + n - j * d % n + j * d = q + n * (j * d / n + 1) := by
        rw [Nat.mul_add, Nat.mul_one]
        omega
      rw [h3, Nat.add_mul_mod_self_left, Nat.mod_eq_of_lt hq]
    rw [← e']
    exact h.part k' hk'
  · exact h.done j (by omega) q hq
/-- In the end all know the same. -/
theorem Rnd.same (h : Rnd n d last S P n 0) {a b : Nat} (ha : a < n) (hb : b < n) : S a = S b :=
  lo_anti (h.sys.rt _ (h.sys.own a ha)) (h.sys.rt _ (h.sys.own b hb)) (h.sys.cpt _ _ (h.sys.own a ha) (h.sys.own b hb)) (h.lub b hb _ (h.done a ha)) (h.lub a ha _ (h.done b hb))
theorem Rnd.left (h : Rnd n d last S P n 0) {a : Nat} (ha : a < n) (s : Int) : leftY (waysP (S a)) s = leftC (ownW n last) s := by
  rw [(h.sys.rt _ (h.sys.own a ha)).leftC]
  refine leftC_congr fun w hw => ?_
  have hm := mem_waysU.1 hw
  rw [← h.own]
  unfold ownW
  split
  · rw [h.same ha (show w.f1.toNat < n by omega)]
  · exact h.sys.out _ (h.sys.own a ha) w (by omega)
/-! ### a tag that stays -/
/-- Who has seen the dot has the tag. -/
def Kept (P : S28 → Prop) (t : S99) : Prop := ∀ X, P X → stat X t.f2 = none ∨ mget (tagsP X) t.f2 = some t
theorem stat_none {X : S28} {x : S97} : stat X x = none ↔ sget X.f0 x.f0 < x.f1 := by
  unfold stat
  split
  · exact ⟨fun h => absurd h (by simp), fun h => by omega⟩
  · exact ⟨fun _ => by omega, fun _ => rfl⟩
structure Stay (n : Nat) (S : Nat → S28) (P : S28 → Prop) (t : S99) (M : S28) : Prop where
  kept : Kept P t
  w : ∃ i : Nat, i < n ∧ t.f2.f0 = i
  mine : P M
  seen : t.f2.f1 ≤ sget M.f0 t.f2.f0
theorem Stay.owner {t : S99} {M : S28} (h : Stay n S P t M) (hs : Sys n S P) {i : Nat} (hi : i < n) (hS : stat (S i) t.f2 = none) : t.f2.f0 ≠ i := by
  intro e
  have h1 := hs.seen M h.mine i hi
  have h2 := h.seen
  rw [stat_none] at hS
  rw [e] at h2 hS
  omega
theorem stays_put (hs : Sys n S P) {i : Nat} (hi : i < n) {st : Int} {nm : ByteArray} (h0 : putE (S i) i st nm = 0) : Stay n (updN S i (aPut (S i) i st nm)) (fun X => P X ∨ X = aPut (S i) i st nm) ⟨st, nm, ⟨i, sget (S i).f0 i + 1⟩⟩ (aPut (S i) i st nm) := by
  have rS := hs.rt _ (hs.own i hi)
  have n8 := hs.n8
  have ho : inR 0 7 (i : Int) = true := inR_iff.2 ⟨by omega, by omega⟩
  refine ⟨?_, ⟨i, hi, rfl⟩, .inr rfl, ?_⟩
  · rintro X (hX | rfl)
    · refine .inl (stat_none.2 ?_)
      have := hs.seen X hX i hi
      show sget X.f0 (i : Int) < sget (S i).f0 i + 1
      omega
    · right
      rw [put_get rS ho h0, if_pos rfl]
  · show sget (S i).f0 i + 1 ≤ sget (aPut (S i) i st nm).f0 (i : Int)
    rw [put_seen rS ho h0]
    omega
theorem Stay.put {t : S99} {M : S28} (h : Stay n S P t M) (hs : Sys n S P) {i : Nat} (hi : i < n) {st : Int} {nm : ByteArray} (hn : ¬ (t.f0 = st ∧ t.f1 = nm ∧ mget (tagsP (S i)) t.f2 = some t)) : Stay n (updN S i (aPut (S i) i st nm)) (fun X => P X ∨ X = aPut (S i) i st nm) t M := by
  have rS := hs.rt _ (hs.own i hi)
  have n8 := hs.n8
  have ho : inR 0 7 (i : Int) = true := inR_iff.2 ⟨by omega, by omega⟩
  refine ⟨?_, h.w, .inl h.mine, h.seen⟩
  rintro X (hX | rfl)
  · exact h.kept X hX
  by_cases h0 : putE (S i) i st nm = 0
  · obtain ⟨j, hj, ej⟩ := h.w
    rcases h.kept _ (hs.own i hi) with h1 | h1
    · left
      have hne := h.owner hs hi h1
      rw [stat_none] at h1 ⊢
      rw [put_seen' rS ho h0 _ (by omega), if_neg hne]
      exact h1
    · right
      have h2 := (tag_seen rS h1).2.2.2.2
      rw [put_get rS ho h0, if_neg, h1]
      · simp only [Option.bind_some]
        rw [if_neg]
        rw [isTag_iff]
        rintro ⟨a, b⟩
        exact hn ⟨a, b, h1⟩
      · intro e
        rw [e] at h2
        simp only at h2
        omega
  · rw [aPut_err rS h0]
    exact h.kept _ (hs.own i hi)
theorem Stay.drop {t : S99} {M : S28} (h : Stay n S P t M) (hs : Sys n S P) {i : Nat} (hi : i < n) {st : Int} {nm : ByteArray} (hn : ¬ (t.f0 = st ∧ t.f1 = nm ∧ mget (tagsP (S i)) t.f2 = some t)) : Stay n (updN S i (aDrop (S i) st nm)) (fun X => P X ∨ X = aDrop (S i) st nm) t M := by
  have rS := hs.rt _ (hs.own i hi)
  refine ⟨?_, h.w, .inl h.mine, h.seen⟩
  rintro X (hX | rfl)
  · exact h.kept X hX
  rcases h.kept _ (hs.own i hi) with h1 | h1
  · left
    rw [stat_none] at h1 ⊢
    exact h1
  · right
    rw [drop_get rS, h1]
    split
    · simp only [Option.bind_some]
      rw [if_neg]
      rw [isTag_iff]
      rintro ⟨a, b⟩
      exact hn ⟨a, b, h1⟩
    · rfl
/-- A call that leaves the tags. -/
theorem Stay.same {t : S99} {M : S28} (h : Stay n S P t M) (hs : Sys n S P) {i : Nat} (hi : i < n) {S' : S28} (h0 : S'.f0 = (S i).f0) (h1 : ∀ x, mget (tagsP S') x = mget (tagsP (S i)) x) : Stay n (updN S i S') (fun X => P X ∨ X = S') t M := by
  refine ⟨?_, h.w, .inl h.mine, h.seen⟩
  rintro X (hX | rfl)
  · exact h.kept X hX
  rcases h.kept _ (hs.own i hi) with h2 | h2
  · left
    rw [stat_none] at h2 ⊢
    rw [h0]
    exact h2
  · right
    rw [h1]
    exact h2
theorem Stay.sync {t : S99} {M : S28} (h : Stay n S P t M) (hs : Sys n S P) {i : Nat} (hi : i < n) {Y : S28} (hY : P Y) : Stay n (updN S i (aSync (S i) Y)) (fun X => P X ∨ X = aSync (S i) Y) t M := by
  have rS := hs.rt _ (hs.own i hi)
  have rY := hs.rt _ hY
  have n8 := hs.n8
  refine ⟨?_, h.w, .inl h.mine, h.seen⟩
  rintro X (hX | rfl)
  · exact h.kept X hX
  unfold aSync
  split
  · obtain ⟨j, hj, ej⟩ := h.w
    have hst := am_stat rS rY (x := t.f2) (by omega) (by omega)
    have kS := h.kept _ (hs.own i hi)
    have kY := h.kept _ hY
    have al : ∀ {X : S28}, Rt X → mget (tagsP X) t.f2 = some t → stat X t.f2 = some (some t) := fun hX hu => (stat_alive hX).2 hu
    rcases kS with kS | kS <;> rcases kY with kY | kY
    · left; rw [hst, kS, kY]; rfl
    · right; rw [am_get rS rY, kS, al rY kY]; rfl
    · right; rw [am_get rS rY, kY, al rS kS]; rfl
    · right; rw [am_get rS rY, al rS kS, al rY kY, jn_self]; rfl
  · exact h.kept _ (hs.own i hi)
theorem holds_iff {X : S28} (hX : Rt X) {t : S99} : t ∈ X.f1 ↔ mget (tagsP X) t.f2 = some t := by
  constructor
  · intro h
    exact mget_mem hX.kv.tn (List.mem_map.2 ⟨t, h, rfl⟩)
  · intro h
    obtain ⟨u, hu, e⟩ := List.mem_map.1 (mget_some h)
    simp only [Prod.mk.injEq] at e
    exact e.2 ▸ hu
end
/-! ### the last note -/
theorem tmF_lt {L : List (Int × S102)} {p : Int × S102} (h : p ∈ L) : p.2.f2 + 1 ≤ tmF L := ((foldl_max L 1 (tmF L)).1 (Int.le_refl _)).2 p h
theorem or2_le {a b : Int} (h : or2 a b ≤ 0) : a ≤ 0 := by unfold or2 at h; split at h <;> omega
theorem comb_time {a : Option S102} {v : S102} : ∃ u, comb cmpN a (some v) = some u ∧ v.f2 ≤ u.f2 := by
  cases a with
  | none => exact ⟨v, rfl, Int.le_refl _⟩
  | some u =>
    simp only [comb]
    refine ⟨_, rfl, ?_⟩
    split
    · exact Int.le_refl _
    · rename_i h
      have h1 : cmpN v u ≤ 0 := by omega
      unfold cmpN at h1
      exact cmpI_le.1 (or2_le h1)
theorem comb_later {a : Option S102} {v : S102} (h : ∀ u, a = some u → u.f2 < v.f2) : comb cmpN a (some v) = some v := by
  cases a with
  | none => rfl
  | some u =>
    simp only [comb]
    rw [if_pos]
    have h1 := h u rfl
    have h2 : cmpI v.f2 u.f2 = 1 := by unfold cmpI; rw [if_neg (by omega), if_pos h1]
    unfold cmpN or2
    rw [if_neg (by omega), h2]
    omega
theorem last_note {A B : S28} (hA : Rt A) (hB : Rt B) {o st : Int} {tx : ByteArray} (ho : inR 0 7 o = true) (h1 : syncE B A = 0) (h2 : writeE (aSync B A) st tx = 0) (h3 : syncE A (aWrite (aSync B A) o st tx) = 0) :
    (noteV (aSync A (aWrite (aSync B A) o st tx)) st = tx ∧ noteIs (aSync A (aWrite (aSync B A) o st tx)) st = true) ∧ (noteV (aWrite (aSync B A) o st tx) st = tx ∧ noteIs (aWrite (aSync B A) o st tx) st = true) := by
  have e1 : aSync B A = aMerge B A := by unfold aSync; rw [if_pos h1]
  have rB : Rt (aSync B A) := aSync_rt hB
  have rW : Rt (aWrite (aSync B A) o st tx) := aWrite_rt rB ho st tx
  have hst : inR 0 63 st = true := by
    have := (writeE_0 h2).1
    unfold argW at this
    rw [Bool.and_eq_true] at this
    exact this.1
  have g1 : mget (notesP (aWrite (aSync B A) o st tx)) st = some ⟨st, tx, tmF (notesP (aSync B A)), o⟩ := by rw [write_get rB ho h2, if_pos rfl]
  have e2 : aSync A (aWrite (aSync B A) o st tx) = aMerge A (aWrite (aSync B A) o st tx) := if_pos h3
  have g2 : mget (notesP (aSync A (aWrite (aSync B A) o st tx))) st = some ⟨st, tx, tmF (notesP (aSync B A)), o⟩ := by
    rw [e2, am_notes hA rW, g1]
    refine comb_later fun u hu => ?_
    obtain ⟨v, hv, hle⟩ := comb_time (a := mget (notesP B) st) (v := u)
    rw [← hu, ← am_notes hB hA, ← e1] at hv
    have := tmF_lt (mget_some hv)
    simp only at this ⊢
    omega
  refine ⟨⟨?_, ?_⟩, ?_, ?_⟩
  · unfold noteV; rw [if_pos hst, g2]; rfl
  · unfold noteIs; rw [hst, g2]; rfl
  · unfold noteV; rw [if_pos hst, g1]; rfl
  · unfold noteIs; rw [hst, g1]; rfl
end Go.Proofs.YtmeaeapopfcmbaaGreat

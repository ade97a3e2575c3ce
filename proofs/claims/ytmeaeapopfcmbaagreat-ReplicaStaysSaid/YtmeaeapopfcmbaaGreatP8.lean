/- States as what they know of each dot, stone and way: the merge joins them. No conditions. -/
import Derived.Test.YtmeaeapopfcmbaaGreatB40
namespace Go.Proofs.YtmeaeapopfcmbaaGreat
open Go.RowKit Go.Proofs.YtmeaeapopfcmbaaGreatW.PrintWords Go.Proofs.YtmeaeapopfcmbaaGreatW.PrintLast Go.Proofs.YtmeaeapopfcmbaaGreatW.PrintMore PP
set_option linter.unusedVariables false
set_option linter.unusedSimpArgs false
theorem rt_ext {A B : S28} (hA : Rt A) (hB : Rt B) (h0 : A.f0 = B.f0) (h1 : ∀ x, mget (tagsP A) x = mget (tagsP B) x) (h2 : ∀ x, mget (notesP A) x = mget (notesP B) x) (h3 : ∀ x, mget (waysP A) x = mget (waysP B) x) : A = B := by
  have e := hA.of_perm (perm_of_mget hB.kv.tn hA.kv.tn (fun x => (h1 x).symm)) (perm_of_mget hB.kv.nn hA.kv.nn (fun x => (h2 x).symm)) (perm_of_mget hB.kv.yn hA.kv.yn (fun x => (h3 x).symm))
  rw [h0, hB.mk_eq] at e
  exact e.symm
theorem seen_ext {s s' : List Int} (h : s.length = 8) (h' : s'.length = 8) (he : ∀ o : Int, 0 ≤ o → o ≤ 7 → sget s o = sget s' o) : s = s' := by
  refine List.ext_getElem (by omega) fun j h1 h2 => ?_
  have := he j (by omega) (by omega)
  unfold sget at this
  rw [List.getD_eq_getElem?_getD, List.getD_eq_getElem?_getD, Int.toNat_natCast, List.getElem?_eq_getElem h1, List.getElem?_eq_getElem h2] at this
  exact this
theorem tag_seen {S : S28} (hS : Rt S) {x : S97} {u : S99} (h : mget (tagsP S) x = some u) : x = u.f2 ∧ 0 ≤ x.f0 ∧ x.f0 ≤ 7 ∧ 1 ≤ x.f1 ∧ x.f1 ≤ sget S.f0 x.f0 := by
  have h1 := hS.kv.tk _ (mget_some h)
  have h2 := h1.2
  simp only [tagB, Bool.and_eq_true, inR_iff, decide_eq_true_eq] at h2
  have h3 : x = u.f2 := h1.1
  rw [← h3] at h2
  exact ⟨h3, h2.1.1.2.1, h2.1.1.2.2, h2.1.2, h2.2⟩
/-- What a state knows of a dot: nothing, a tag, or that it is gone. -/
def stat (S : S28) (x : S97) : Option (Option S99) := if x.f1 ≤ sget S.f0 x.f0 then some (mget (tagsP S) x) else none
theorem get_stat {S : S28} (hS : Rt S) (x : S97) : mget (tagsP S) x = (stat S x).getD none := by
  unfold stat
  cases h : mget (tagsP S) x with
  | none => split <;> rfl
  | some u => rw [if_pos (tag_seen hS h).2.2.2.2]; rfl
theorem st_ext {A B : S28} (hA : Rt A) (hB : Rt B) (h0 : ∀ o : Int, 0 ≤ o → o ≤ 7 → sget A.f0 o = sget B.f0 o) (h1 : ∀ x : S97, 0 ≤ x.f0 → x.f0 ≤ 7 → stat A x = stat B x) (h2 : ∀ x, mget (notesP A) x = mget (notesP B) x) (h3 : ∀ x, mget (waysP A) x = mget (waysP B) x) : A = B := by
  refine rt_ext hA hB (seen_ext hA.sl hB.sl h0) (fun x => ?_) h2 h3
  by_cases hx : 0 ≤ x.f0 ∧ x.f0 ≤ 7
  · rw [get_stat hA, get_stat hB, h1 x hx.1 hx.2]
  · cases ha : mget (tagsP A) x with
    | some u => exact absurd ⟨(tag_seen hA ha).2.1, (tag_seen hA ha).2.2.1⟩ hx
    | none =>
      cases hb : mget (tagsP B) x with
      | some u => exact absurd ⟨(tag_seen hB hb).2.1, (tag_seen hB hb).2.2.1⟩ hx
      | none => rfl
/-- No dot is of different tags. -/
def Cpt (A B : S28) : Prop := ∀ x u v, mget (tagsP A) x = some u → mget (tagsP B) x = some v → v = u
theorem conB_iff {A B : S28} (hA : Rt A) : conB (tagsP A) (tagsP B) = false ↔ Cpt A B := by
  unfold conB
  rw [List.any_eq_false]
  constructor
  · intro h x u v hu hv
    have := h _ (mget_some hu)
    unfold cfl at this
    rw [show mget (tagsP B) ((x, u) : S97 × S99).1 = some v from hv] at this
    simpa using this
  · intro h p hp
    unfold cfl
    cases hv : mget (tagsP B) p.1 with
    | none => simp
    | some v =>
      have := h p.1 p.2 v (mget_mem hA.kv.tn hp) hv
      simp [this]
theorem Cpt.symm {A B : S28} (h : Cpt A B) : Cpt B A := fun x u v hu hv => (h x v u hv hu).symm
theorem am_seen {A B : S28} (hA : Rt A) (hB : Rt B) {o : Int} (h0 : 0 ≤ o) (h7 : o ≤ 7) : sget (aMerge A B).f0 o = max (sget A.f0 o) (sget B.f0 o) := sget_mSeen hA.sl hB.sl h0 h7
theorem am_tags {A B : S28} (hA : Rt A) (hB : Rt B) (x : S97) : mget (tagsP (aMerge A B)) x = mget (mT A.f0 (tagsP A) B.f0 (tagsP B)) x :=
  mget_perm (mT_nodup hA.kv.tn hB.kv.tn) (merge_kv hA.kv hB.kv).tags.symm x
theorem am_notes {A B : S28} (hA : Rt A) (hB : Rt B) (x : Int) : mget (notesP (aMerge A B)) x = comb cmpN (mget (notesP A) x) (mget (notesP B) x) :=
  (mget_perm (nodup_mrg hA.kv.nn hB.kv.nn) (merge_kv hA.kv hB.kv).notes.symm x).trans (mget_mrg hB.kv.nn x)
theorem am_ways {A B : S28} (hA : Rt A) (hB : Rt B) (x : S131) : mget (waysP (aMerge A B)) x = comb cmpI (mget (waysP A) x) (mget (waysP B) x) :=
  (mget_perm (nodup_mrg hA.kv.yn hB.kv.yn) ways_mk.symm x).trans (mget_mrg hB.kv.yn x)
def gT (sa sb : Int) (u v : Option S99) (n : Int) : Option S99 :=
  match u, v with
  | some a, some _ => some a
  | some a, none => if sb < n then some a else none
  | none, some b => if sa < n then some b else none
  | none, none => none
theorem mT_get {s s' : List Int} {T T' : List (S97 × S99)} (h : (T.map Prod.fst).Nodup) (h' : (T'.map Prod.fst).Nodup) (x : S97) : mget (mT s T s' T') x = gT (sget s x.f0) (sget s' x.f0) (mget T x) (mget T' x) x.f1 := by
  unfold mT
  rw [mget_app, mget_filter h, mget_filter h']
  cases hu : mget T x with
  | none =>
    cases hv : mget T' x with
    | none => rfl
    | some v => simp [keepB, hu, gT]
  | some u =>
    cases hv : mget T' x with
    | none => simp [keepB, hv, gT]
    | some v => simp [keepB, hu, hv, gT]
/-- Two pieces of knowledge of a dot in one. -/
def jn {α : Type} : Option (Option α) → Option (Option α) → Option (Option α)
  | none, b => b
  | some a, none => some a
  | some (some u), some (some _) => some (some u)
  | some none, some _ => some none
  | some (some _), some none => some none
theorem jn_self {α : Type} (a : Option (Option α)) : jn a a = a := by
  rcases a with _ | _ | _ <;> rfl
theorem jn_assoc {α : Type} (a b c : Option (Option α)) : jn (jn a b) c = jn a (jn b c) := by
  rcases a with _ | _ | _ <;> rcases b with _ | _ | _ <;> rcases c with _ | _ | _ <;> rfl
theorem jn_comm {α : Type} {a b : Option (Option α)} (h : ∀ u v, a = some (some u) → b = some (some v) → v = u) : jn a b = jn b a := by
  rcases a with _ | _ | u <;> rcases b with _ | _ | v <;> first | rfl | (have := h u v rfl rfl; subst this; rfl)
theorem stat_alive {S : S28} (hS : Rt S) {x : S97} {u : S99} : stat S x = some (some u) ↔ mget (tagsP S) x = some u := by
  unfold stat
  constructor
  · intro h
    split at h
    · exact Option.some.inj h
    · exact absurd h (by simp)
  · intro h
    rw [if_pos (tag_seen hS h).2.2.2.2, h]
theorem am_stat {A B : S28} (hA : Rt A) (hB : Rt B) {x : S97} (h0 : 0 ≤ x.f0) (h7 : x.f0 ≤ 7) : stat (aMerge A B) x = jn (stat A x) (stat B x) := by
  unfold stat
  rw [am_seen hA hB h0 h7, am_tags hA hB, mT_get hA.kv.tn hB.kv.tn]
  cases hu : mget (tagsP A) x with
  | none =>
    cases hv : mget (tagsP B) x with
    | none =>
      by_cases a : x.f1 ≤ sget A.f0 x.f0 <;> by_cases b : x.f1 ≤ sget B.f0 x.f0
      · rw [if_pos (by omega), if_pos a, if_pos b]; rfl
      · rw [if_pos (by omega), if_pos a, if_neg b]; rfl
      · rw [if_pos (by omega), if_neg a, if_pos b]; rfl
      · rw [if_neg (by omega), if_neg a, if_neg b]; rfl
    | some v =>
      have b := (tag_seen hB hv).2.2.2.2
      by_cases a : x.f1 ≤ sget A.f0 x.f0
      · rw [if_pos (by omega), if_pos a, if_pos b]
        simp only [gT]
        rw [if_neg (by omega)]
        rfl
      · rw [if_pos (by omega), if_neg a, if_pos b]
        simp only [gT]
        rw [if_pos (by omega)]
        rfl
  | some u =>
    have a := (tag_seen hA hu).2.2.2.2
    cases hv : mget (tagsP B) x with
    | none =>
      by_cases b : x.f1 ≤ sget B.f0 x.f0
      · rw [if_pos (by omega), if_pos a, if_pos b]
        simp only [gT]
        rw [if_neg (by omega)]
        rfl
      · rw [if_pos (by omega), if_pos a, if_neg b]
        simp only [gT]
        rw [if_pos (by omega)]
        rfl
    | some v =>
      have b := (tag_seen hB hv).2.2.2.2
      rw [if_pos (by omega), if_pos a, if_pos b]
      rfl
section
variable {β : Type} {c : β → β → Int}
theorem comb_self (h : GC c) (a : Option β) : comb c a a = a := by
  cases a with
  | none => rfl
  | some u => simp only [comb]; rw [if_neg (by rw [h.self]; omega)]
theorem comb_comm (h : GC c) {a b : Option β} (he : ∀ u v, a = some u → b = some v → c v u = 0 → u = v) : comb c a b = comb c b a := by
  cases a with
  | none => cases b <;> rfl
  | some u =>
    cases b with
    | none => rfl
    | some v =>
      have hs := h.sw u v
      have := he u v rfl rfl
      simp only [comb]
      by_cases h1 : 0 < c v u
      · rw [if_pos h1, if_neg (by omega)]
      · rw [if_neg h1]
        by_cases h2 : 0 < c u v
        · rw [if_pos h2]
        · rw [if_neg h2, this (by omega)]
theorem comb_assoc (h : GC c) (a b d : Option β) : comb c (comb c a b) d = comb c a (comb c b d) := by
  cases a with
  | none => cases b <;> cases d <;> rfl
  | some u =>
    cases b with
    | none => cases d <;> rfl
    | some v =>
      cases d with
      | none => rw [comb_none, comb_none]
      | some w =>
        have s1 := h.sw u v
        have s2 := h.sw v w
        have s3 := h.sw u w
        simp only [comb]
        by_cases h1 : 0 < c v u
        · rw [if_pos h1]
          by_cases h2 : 0 < c w v
          · have h3 : c u w < 0 := h.lt_le (show c u v < 0 by omega) (show c v w ≤ 0 by omega)
            rw [if_pos h2, if_pos (by omega)]
          · rw [if_neg h2, if_pos h1]
        · rw [if_neg h1]
          by_cases h2 : 0 < c w v
          · rw [if_pos h2]
          · have h3 : c w u ≤ 0 := h.tr w v u (by omega) (by omega)
            rw [if_neg h2, if_neg h1, if_neg (by omega)]
end
theorem cmpN_eq {x y : S102} : cmpN x y = 0 ↔ x.f2 = y.f2 ∧ x.f3 = y.f3 ∧ x.f1 = y.f1 := by
  unfold cmpN
  rw [or2_eq, or2_eq, cmpI_eq, cmpI_eq, cmpS_eq]
theorem note_key {S : S28} (hS : Rt S) {x : Int} {n : S102} (h : mget (notesP S) x = some n) : n.f0 = x := (hS.kv.nk _ (mget_some h)).1.symm
theorem notes_eq {A B : S28} (hA : Rt A) (hB : Rt B) (x : Int) (u v : S102) (hu : mget (notesP A) x = some u) (hv : mget (notesP B) x = some v) (h : cmpN v u = 0) : u = v := by
  have h1 := note_key hA hu
  have h2 := note_key hB hv
  have h3 := cmpN_eq.1 h
  obtain ⟨a0, a1, a2, a3⟩ := u
  obtain ⟨b0, b1, b2, b3⟩ := v
  simp only at h1 h2 h3
  simp only [S102.mk.injEq]
  exact ⟨by omega, h3.2.2.symm, h3.1.symm, h3.2.1.symm⟩
theorem notes_comm {A B : S28} (hA : Rt A) (hB : Rt B) (x : Int) : comb cmpN (mget (notesP A) x) (mget (notesP B) x) = comb cmpN (mget (notesP B) x) (mget (notesP A) x) :=
  comb_comm gcN fun u v hu hv => notes_eq hA hB x u v hu hv
theorem ways_comm (a b : Option Int) : comb cmpI a b = comb cmpI b a := comb_comm gcI fun u v _ _ h => (cmpI_eq.1 h).symm
theorem mrgS_iff {A B : S28} (hA : Rt A) (hB : Rt B) : mrgS A B = (if conB (tagsP A) (tagsP B) = true then 2 else if 128 < (aMerge A B).f1.length then 8 else if fundB (waysP (aMerge A B)) = false then 9 else 0) := by
  have h1 : (aMerge A B).f1.length = (mT A.f0 (tagsP A) B.f0 (tagsP B)).length := by
    rw [← tagsP_len]
    exact (merge_kv hA.kv hB.kv).tags.length_eq
  have h2 : fundB (waysP (aMerge A B)) = fundB (mrg cmpI (waysP A) (waysP B)) := fundB_perm ways_mk
  rw [h1, h2]
  rfl
theorem con_comm {A B : S28} (hA : Rt A) (hB : Rt B) : conB (tagsP A) (tagsP B) = conB (tagsP B) (tagsP A) := by
  cases h : conB (tagsP A) (tagsP B) with
  | false => exact ((conB_iff hB).2 ((conB_iff hA).1 h).symm).symm
  | true =>
    cases h2 : conB (tagsP B) (tagsP A) with
    | true => rfl
    | false => exact absurd ((conB_iff hA).2 ((conB_iff hB).1 h2).symm) (by rw [h]; simp)
/-- The maps of a merge keep to what maps keep to: two merges with the same knowledge are one. -/
theorem am_congr {A B C D : S28} (hA : Rt A) (hB : Rt B) (hC : Rt C) (hD : Rt D) (h0 : ∀ o : Int, 0 ≤ o → o ≤ 7 → sget (aMerge A B).f0 o = sget (aMerge C D).f0 o) (h1 : ∀ x, mget (tagsP (aMerge A B)) x = mget (tagsP (aMerge C D)) x) (h2 : ∀ x, mget (notesP (aMerge A B)) x = mget (notesP (aMerge C D)) x) (h3 : ∀ x, mget (waysP (aMerge A B)) x = mget (waysP (aMerge C D)) x) : aMerge A B = aMerge C D := by
  have k1 := merge_kv hA.kv hB.kv
  have k2 := merge_kv hC.kv hD.kv
  have e0 : mSeen A.f0 B.f0 = mSeen C.f0 D.f0 := seen_ext k1.sl k2.sl h0
  have p1 := perm_of_mget k1.tn k2.tn fun x => by rw [← am_tags hA hB, ← am_tags hC hD]; exact h1 x
  have p2 := perm_of_mget k1.nn k2.nn fun x => by rw [mget_mrg hB.kv.nn, mget_mrg hD.kv.nn, ← am_notes hA hB, ← am_notes hC hD]; exact h2 x
  have p3 := perm_of_mget k1.yn k2.yn fun x => by rw [mget_mrg hB.kv.yn, mget_mrg hD.kv.yn, ← am_ways hA hB, ← am_ways hC hD]; exact h3 x
  unfold aMerge
  rw [e0]
  rw [e0] at k1
  exact mkS_perm k2 p1 p2 p3
theorem tags_out {A B : S28} (hA : Rt A) (hB : Rt B) {x : S97} (hx : ¬ (0 ≤ x.f0 ∧ x.f0 ≤ 7)) : mget (tagsP (aMerge A B)) x = none := by
  rw [am_tags hA hB, mT_get hA.kv.tn hB.kv.tn]
  cases hu : mget (tagsP A) x with
  | some u => exact absurd ⟨(tag_seen hA hu).2.1, (tag_seen hA hu).2.2.1⟩ hx
  | none =>
    cases hv : mget (tagsP B) x with
    | some v => exact absurd ⟨(tag_seen hB hv).2.1, (tag_seen hB hv).2.2.1⟩ hx
    | none => rfl
theorem am_get {A B : S28} (hA : Rt A) (hB : Rt B) (x : S97) : mget (tagsP (aMerge A B)) x = (jn (stat A x) (stat B x)).getD none := by
  by_cases hx : 0 ≤ x.f0 ∧ x.f0 ≤ 7
  · rw [← am_stat hA hB hx.1 hx.2]
    unfold stat
    split
    · rfl
    · rename_i h
      rw [am_seen hA hB hx.1 hx.2] at h
      rw [am_tags hA hB, mT_get hA.kv.tn hB.kv.tn]
      cases hu : mget (tagsP A) x with
      | some u => exact absurd (tag_seen hA hu).2.2.2.2 (by omega)
      | none =>
        cases hv : mget (tagsP B) x with
        | some v => exact absurd (tag_seen hB hv).2.2.2.2 (by omega)
        | none => rfl
  · rw [tags_out hA hB hx]
    have ha : mget (tagsP A) x = none := by
      cases hu : mget (tagsP A) x with
      | some u => exact absurd ⟨(tag_seen hA hu).2.1, (tag_seen hA hu).2.2.1⟩ hx
      | none => rfl
    have hb : mget (tagsP B) x = none := by
      cases hu : mget (tagsP B) x with
      | some u => exact absurd ⟨(tag_seen hB hu).2.1, (tag_seen hB hu).2.2.1⟩ hx
      | none => rfl
    unfold stat
    rw [ha, hb]
    split <;> split <;> rfl
theorem stat_comm {A B : S28} (hA : Rt A) (hB : Rt B) (hc : Cpt A B) (x : S97) : jn (stat A x) (stat B x) = jn (stat B x) (stat A x) :=
  jn_comm fun u v hu hv => hc x u v ((stat_alive hA).1 hu) ((stat_alive hB).1 hv)
/-- The merge commutes. -/
theorem am_comm {A B : S28} (hA : Rt A) (hB : Rt B) (hc : Cpt A B) : aMerge A B = aMerge B A :=
  am_congr hA hB hB hA (fun o h0 h7 => by rw [am_seen hA hB h0 h7, am_seen hB hA h0 h7]; omega)
    (fun x => by rw [am_get hA hB, am_get hB hA, stat_comm hA hB hc])
    (fun x => by rw [am_notes hA hB, am_notes hB hA, notes_comm hA hB])
    (fun x => by rw [am_ways hA hB, am_ways hB hA, ways_comm])
theorem mrgS_comm {A B : S28} (hA : Rt A) (hB : Rt B) : mrgS A B = mrgS B A := by
  rw [mrgS_iff hA hB, mrgS_iff hB hA, con_comm hA hB]
  cases h : conB (tagsP B) (tagsP A) with
  | true => rfl
  | false => rw [am_comm hA hB ((conB_iff hB).1 h).symm]
/-- .. is idempotent. -/
theorem am_self {A : S28} (hA : Rt A) : mrgS A A = 0 ∧ aMerge A A = A := by
  have h1 : Cpt A A := fun x u v hu hv => Option.some.inj (hv.symm.trans hu)
  have k := merge_kv hA.kv hA.kv
  have e : aMerge A A = A := by
    have e0 : mSeen A.f0 A.f0 = A.f0 := seen_ext k.sl hA.sl fun o h0 h7 => by rw [sget_mSeen hA.sl hA.sl h0 h7]; omega
    unfold aMerge
    rw [e0]
    exact hA.of_perm (perm_of_mget k.tn hA.kv.tn fun x => by rw [← am_tags hA hA, am_get hA hA, jn_self, ← get_stat hA]) (perm_of_mget k.nn hA.kv.nn fun x => by rw [mget_mrg hA.kv.nn, comb_self gcN]) (perm_of_mget k.yn hA.kv.yn fun x => by rw [mget_mrg hA.kv.yn, comb_self gcI])
  refine ⟨?_, e⟩
  rw [mrgS_iff hA hA, if_neg (by rw [(conB_iff hA).2 h1]; simp), e, if_neg (by have := hA.tl; omega), if_neg (by rw [fundB_iff.2 hA.fu]; simp)]
/-- What is below M in all. -/
structure Lo (M A : S28) : Prop where
  seen : ∀ o : Int, 0 ≤ o → o ≤ 7 → max (sget M.f0 o) (sget A.f0 o) = sget M.f0 o
  stat : ∀ x : S97, 0 ≤ x.f0 → x.f0 ≤ 7 → jn (stat M x) (stat A x) = stat M x
  notes : ∀ x, comb cmpN (mget (notesP M) x) (mget (notesP A) x) = mget (notesP M) x
  ways : ∀ x, comb cmpI (mget (waysP M) x) (mget (waysP A) x) = mget (waysP M) x
/-- What is above merges to itself. -/
theorem lo_merge {M A : S28} (hM : Rt M) (hA : Rt A) (h : Lo M A) (hc : Cpt M A) : mrgS M A = 0 ∧ aMerge M A = M := by
  have k := merge_kv hM.kv hA.kv
  have e : aMerge M A = M := by
    have e0 : mSeen M.f0 A.f0 = M.f0 := seen_ext k.sl hM.sl fun o h0 h7 => by rw [sget_mSeen hM.sl hA.sl h0 h7]; exact h.seen o h0 h7
    unfold aMerge
    rw [e0]
    refine hM.of_perm (perm_of_mget k.tn hM.kv.tn fun x => ?_) (perm_of_mget k.nn hM.kv.nn fun x => by rw [mget_mrg hA.kv.nn, h.notes]) (perm_of_mget k.yn hM.kv.yn fun x => by rw [mget_mrg hA.kv.yn, h.ways])
    rw [← am_tags hM hA]
    by_cases hx : 0 ≤ x.f0 ∧ x.f0 ≤ 7
    · rw [am_get hM hA, h.stat x hx.1 hx.2, ← get_stat hM]
    · rw [tags_out hM hA hx]
      cases hu : mget (tagsP M) x with
      | some u => exact absurd ⟨(tag_seen hM hu).2.1, (tag_seen hM hu).2.2.1⟩ hx
      | none => rfl
  refine ⟨?_, e⟩
  rw [mrgS_iff hM hA, if_neg (by rw [(conB_iff hM).2 hc]; simp), e, if_neg (by have := hM.tl; omega), if_neg (by rw [fundB_iff.2 hM.fu]; simp)]
theorem lo_left {A B : S28} (hA : Rt A) (hB : Rt B) (h : mrgS A B = 0) : Lo (aMerge A B) A := by
  have hc : Cpt A B := (conB_iff hA).1 (mrgE_0 h).1
  refine ⟨fun o h0 h7 => by rw [am_seen hA hB h0 h7]; omega, fun x h0 h7 => ?_, fun x => ?_, fun x => ?_⟩
  · rw [am_stat hA hB h0 h7, stat_comm hA hB hc, jn_assoc, jn_self]
  · rw [am_notes hA hB, notes_comm hA hB, comb_assoc gcN, comb_self gcN]
  · rw [am_ways hA hB, ways_comm, ← comb_assoc gcI, comb_self gcI]
theorem lo_right {A B : S28} (hA : Rt A) (hB : Rt B) (h : mrgS A B = 0) : Lo (aMerge A B) B := by
  refine ⟨fun o h0 h7 => by rw [am_seen hA hB h0 h7]; omega, fun x h0 h7 => ?_, fun x => ?_, fun x => ?_⟩
  · rw [am_stat hA hB h0 h7, jn_assoc, jn_self]
  · rw [am_notes hA hB, comb_assoc gcN, comb_self gcN]
  · rw [am_ways hA hB, comb_assoc gcI, comb_self gcI]
theorem jn_alive {α : Type} {a b : Option (Option α)} {u : α} (h : jn a b = some (some u)) : a = some (some u) ∨ (a = none ∧ b = some (some u)) := by
  rcases a with _ | _ | a
  · exact .inr ⟨rfl, h⟩
  · rcases b with _ | _ | b <;> simp [jn] at h
  · rcases b with _ | _ | b
    · exact .inl h
    · simp [jn] at h
    · exact .inl h
theorem am_alive {A B : S28} (hA : Rt A) (hB : Rt B) {x : S97} {u : S99} (h : mget (tagsP (aMerge A B)) x = some u) : mget (tagsP A) x = some u ∨ (stat A x = none ∧ mget (tagsP B) x = some u) := by
  rw [am_get hA hB] at h
  have h1 : jn (stat A x) (stat B x) = some (some u) := by
    cases hj : jn (stat A x) (stat B x) with
    | none => rw [hj] at h; exact absurd h (by simp)
    | some y => rw [hj] at h; exact congrArg some h
  rcases jn_alive h1 with h2 | ⟨h2, h3⟩
  · exact .inl ((stat_alive hA).1 h2)
  · exact .inr ⟨h2, (stat_alive hB).1 h3⟩
theorem cpt_left {A B : S28} (hA : Rt A) (hB : Rt B) (hc : Cpt A B) : Cpt (aMerge A B) A ∧ Cpt (aMerge A B) B := by
  refine ⟨fun x u v hu hv => ?_, fun x u v hu hv => ?_⟩
  · rcases am_alive hA hB hu with h | ⟨h, _⟩
    · exact Option.some.inj (hv.symm.trans h)
    · rw [(stat_alive hA).2 hv] at h
      exact absurd h (by simp)
  · rcases am_alive hA hB hu with h | ⟨_, h⟩
    · exact hc x u v h hv
    · exact Option.some.inj (hv.symm.trans h)
/-- A merge covers what was merged. -/
theorem am_covers {A B : S28} (hA : Rt A) (hB : Rt B) (h : mrgS A B = 0) : (mrgS (aMerge A B) A = 0 ∧ aMerge (aMerge A B) A = aMerge A B) ∧ (mrgS (aMerge A B) B = 0 ∧ aMerge (aMerge A B) B = aMerge A B) := by
  have hc : Cpt A B := (conB_iff hA).1 (mrgE_0 h).1
  have hM := aMerge_rt hA hB h
  have cc := cpt_left hA hB hc
  exact ⟨lo_merge hM hA (lo_left hA hB h) cc.1, lo_merge hM hB (lo_right hA hB h) cc.2⟩
/-- .. is associative. -/
theorem am_assoc {A B C : S28} (hA : Rt A) (hB : Rt B) (hC : Rt C) (h1 : mrgS A B = 0) (h2 : mrgS B C = 0) : aMerge (aMerge A B) C = aMerge A (aMerge B C) := by
  have hM := aMerge_rt hA hB h1
  have hN := aMerge_rt hB hC h2
  refine am_congr hM hC hA hN (fun o h0 h7 => ?_) (fun x => ?_) (fun x => ?_) (fun x => ?_)
  · rw [am_seen hM hC h0 h7, am_seen hA hN h0 h7, am_seen hA hB h0 h7, am_seen hB hC h0 h7]; omega
  · by_cases hx : 0 ≤ x.f0 ∧ x.f0 ≤ 7
    · rw [am_get hM hC, am_get hA hN, am_stat hA hB hx.1 hx.2, am_stat hB hC hx.1 hx.2, jn_assoc]
    · rw [tags_out hM hC hx, tags_out hA hN hx]
  · rw [am_notes hM hC, am_notes hA hN, am_notes hA hB, am_notes hB hC, comb_assoc gcN]
  · rw [am_ways hM hC, am_ways hA hN, am_ways hA hB, am_ways hB hC, comb_assoc gcI]
end Go.Proofs.YtmeaeapopfcmbaaGreat

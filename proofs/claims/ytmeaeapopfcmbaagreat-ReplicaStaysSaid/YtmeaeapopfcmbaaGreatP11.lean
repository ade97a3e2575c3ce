/- Offices that act and sync: what holds of all that they ever knew. No conditions. -/
import Derived.Test.YtmeaeapopfcmbaaGreatP10
import Derived.Test.YtmeaeapopfcmbaaGreatP7
namespace Go.Proofs.YtmeaeapopfcmbaaGreat
set_option linter.unusedVariables false
set_option linter.unusedSimpArgs false
open PP
/-! ### what each call does to what is known -/
theorem mk_ways {s : List Int} {T : List (S97 × S99)} {N : List (Int × S102)} {Y : List (S131 × Int)} (hn : (Y.map Prod.fst).Nodup) (k : S131) : mget (waysP (mkS s T N Y)) k = mget Y k := mget_perm hn ways_mk.symm k
theorem mk_tags {s : List Int} {T : List (S97 × S99)} {N : List (Int × S102)} {Y : List (S131 × Int)} (h : Kv s T N Y) (k : S97) : mget (tagsP (mkS s T N Y)) k = mget T k := mget_perm h.tn h.tags.symm k
theorem mk_notes {s : List Int} {T : List (S97 × S99)} {N : List (Int × S102)} {Y : List (S131 × Int)} (h : Kv s T N Y) (k : Int) : mget (notesP (mkS s T N Y)) k = mget N k := mget_perm h.nn h.notes.symm k
/-- What a call at office i makes of its state. -/
structure Eff (i : Int) (S S' : S28) : Prop where
  rt : Rt S'
  seen : sget S.f0 i ≤ sget S'.f0 i
  oth : ∀ q : Int, 0 ≤ q → q ≠ i → sget S'.f0 q = sget S.f0 q
  tags : ∀ x u, mget (tagsP S') x = some u → mget (tagsP S) x = some u ∨ x = ⟨i, sget S.f0 i + 1⟩
  ways : ∀ k : S131, k.f1 = i → curW S k ≤ curW S' k
  row : ∀ k : S131, k.f1 ≠ i → curW S' k = curW S k
theorem Eff.refl {S : S28} (h : Rt S) (i : Int) : Eff i S S := ⟨h, Int.le_refl _, fun _ _ _ => rfl, fun _ _ hu => .inl hu, fun _ _ => Int.le_refl _, fun _ _ => rfl⟩
section
variable {S : S28} {o st : Int} {nm tx : ByteArray}
theorem put_seen' (hS : Rt S) (ho : inR 0 7 o = true) (h0 : putE S o st nm = 0) (q : Int) (hq : 0 ≤ q) : sget (aPut S o st nm).f0 q = if q = o then sget S.f0 o + 1 else sget S.f0 q := by
  rw [inR_iff] at ho
  show sget (putS S o st nm) q = _
  unfold putS
  rw [if_pos h0, sget_set hS.sl ho.1 ho.2 _ q hq]
theorem put_get (hS : Rt S) (ho : inR 0 7 o = true) (h0 : putE S o st nm = 0) (x : S97) : mget (tagsP (aPut S o st nm)) x = if x = ⟨o, sget S.f0 o + 1⟩ then some ⟨st, nm, ⟨o, sget S.f0 o + 1⟩⟩ else (mget (tagsP S) x).bind fun u => if isTag st nm (x, u) = true then none else some u := by
  have hn := (aPut_rt hS ho st nm).kv.tn
  rw [← mget_perm hn (put_tags hS ho h0), mget_cons]
  by_cases e : x = ⟨o, sget S.f0 o + 1⟩
  · rw [if_pos e, if_pos e.symm]
  · rw [if_neg e, if_neg fun h => e h.symm, mget_filter hS.kv.tn]
    congr 1
    funext u
    cases isTag st nm (x, u) <;> rfl
theorem put_notes (hS : Rt S) (ho : inR 0 7 o = true) (x : Int) : mget (notesP (aPut S o st nm)) x = mget (notesP S) x := mk_notes (put_kv hS ho st nm).1 x
theorem put_ways (hS : Rt S) (x : S131) : curW (aPut S o st nm) x = curW S x := by
  unfold curW aPut
  rw [mk_ways hS.kv.yn]
theorem put_eff (hS : Rt S) (ho : inR 0 7 o = true) : Eff o S (aPut S o st nm) := by
  by_cases h0 : putE S o st nm = 0
  · refine ⟨aPut_rt hS ho st nm, ?_, fun q hq hqo => ?_, fun x u hu => ?_, fun k _ => ?_, fun k _ => ?_⟩
    · rw [put_seen' hS ho h0 o (inR_iff.1 ho).1, if_pos rfl]; omega
    · rw [put_seen' hS ho h0 q hq, if_neg hqo]
    · rw [put_get hS ho h0] at hu
      split at hu
      · exact .inr ‹_›
      · cases e : mget (tagsP S) x with
        | none => rw [e] at hu; exact absurd hu (by simp)
        | some v =>
          rw [e] at hu
          simp only [Option.bind_some] at hu
          split at hu
          · exact absurd hu (by simp)
          · exact .inl hu
    · rw [put_ways hS]; exact Int.le_refl _
    · rw [put_ways hS]
  · rw [aPut_err hS h0]
    exact Eff.refl hS o
theorem drop_get (hS : Rt S) (x : S97) : mget (tagsP (aDrop S st nm)) x = if argB st nm = true then ((mget (tagsP S) x).bind fun u => if isTag st nm (x, u) = true then none else some u) else mget (tagsP S) x := by
  unfold aDrop
  rw [mk_tags (drop_kv hS st nm).1]
  unfold dropT
  split
  · rw [mget_filter hS.kv.tn]
    congr 1
    funext u
    cases isTag st nm (x, u) <;> rfl
  · rfl
theorem drop_seen : (aDrop S st nm).f0 = S.f0 := rfl
theorem drop_notes (hS : Rt S) (x : Int) : mget (notesP (aDrop S st nm)) x = mget (notesP S) x := mk_notes (drop_kv hS st nm).1 x
theorem drop_ways (hS : Rt S) (x : S131) : curW (aDrop S st nm) x = curW S x := by
  unfold curW aDrop
  rw [mk_ways hS.kv.yn]
theorem drop_eff (hS : Rt S) : Eff o S (aDrop S st nm) := by
  refine ⟨aDrop_rt hS st nm, Int.le_refl _, fun _ _ _ => rfl, fun x u hu => ?_, fun k _ => ?_, fun k _ => ?_⟩
  · rw [drop_get hS] at hu
    split at hu
    · cases e : mget (tagsP S) x with
      | none => rw [e] at hu; exact absurd hu (by simp)
      | some v =>
        rw [e] at hu
        simp only [Option.bind_some] at hu
        split at hu
        · exact absurd hu (by simp)
        · exact .inl hu
    · exact .inl hu
  · rw [drop_ways hS]; exact Int.le_refl _
  · rw [drop_ways hS]
theorem write_tags (hS : Rt S) (ho : inR 0 7 o = true) (x : S97) : mget (tagsP (aWrite S o st tx)) x = mget (tagsP S) x := mk_tags (write_kv hS ho st tx) x
theorem write_get (hS : Rt S) (ho : inR 0 7 o = true) (h0 : writeE S st tx = 0) (x : Int) : mget (notesP (aWrite S o st tx)) x = if x = st then some ⟨st, tx, tmF (notesP S), o⟩ else mget (notesP S) x := by
  unfold aWrite
  rw [mk_notes (write_kv hS ho st tx)]
  unfold writeN
  rw [if_pos h0, mget_mput]
theorem write_ways (hS : Rt S) (x : S131) : curW (aWrite S o st tx) x = curW S x := by
  unfold curW aWrite
  rw [mk_ways hS.kv.yn]
theorem write_eff (hS : Rt S) (ho : inR 0 7 o = true) : Eff o S (aWrite S o st tx) := by
  refine ⟨aWrite_rt hS ho st tx, Int.le_refl _, fun _ _ _ => rfl, fun x u hu => ?_, fun k _ => ?_, fun k _ => ?_⟩
  · rw [write_tags hS ho] at hu; exact .inl hu
  · rw [write_ways hS]; exact Int.le_refl _
  · rw [write_ways hS]
theorem add_tags {x : S131} {a : Int} {ok asks : Bool} (hS : Rt S) (h : AddOk o x ok asks) (y : S97) : mget (tagsP (aAdd S o x a ok asks)) y = mget (tagsP S) y := mk_tags (add_kv hS h a).1 y
theorem add_notes {x : S131} {a : Int} {ok asks : Bool} (hS : Rt S) (h : AddOk o x ok asks) (y : Int) : mget (notesP (aAdd S o x a ok asks)) y = mget (notesP S) y := mk_notes (add_kv hS h a).1 y
theorem add_ways {x : S131} {a : Int} {ok asks : Bool} (hS : Rt S) (h : AddOk o x ok asks) (k : S131) : curW (aAdd S o x a ok asks) k = if addE S o x a ok asks = 0 ∧ k = x then curW S x + a else curW S k := by
  unfold aAdd
  conv => lhs; unfold curW
  rw [mk_ways (add_kv hS h a).1.yn]
  unfold addY
  by_cases e : addE S o x a ok asks = 0
  · rw [if_pos e, mget_mput]
    by_cases e2 : k = x
    · rw [if_pos e2, if_pos ⟨e, e2⟩]; rfl
    · rw [if_neg e2, if_neg fun h => e2 h.2]; rfl
  · rw [if_neg e, if_neg fun h => e h.1]; rfl
theorem add_eff {x : S131} {a : Int} {ok asks : Bool} (hS : Rt S) (h : AddOk o x ok asks) : Eff o S (aAdd S o x a ok asks) := by
  have hx : x.f1 = o := h.f1
  refine ⟨aAdd_rt hS h a, Int.le_refl _, fun _ _ _ => rfl, fun y u hu => ?_, fun k hk => ?_, fun k hk => ?_⟩
  · rw [add_tags hS h] at hu; exact .inl hu
  · rw [add_ways hS h]
    split
    · rename_i e
      have := (addE_0 e.1).2.2.1
      rw [inR_iff] at this
      rw [e.2]
      omega
    · exact Int.le_refl _
  · rw [add_ways hS h, if_neg]
    rintro ⟨_, rfl⟩
    exact hk hx
end
/-! ### offices -/
/-- n offices of states S, and all states P that they ever had. -/
structure Sys (n : Nat) (S : Nat → S28) (P : S28 → Prop) : Prop where
  n8 : n ≤ 8
  own : ∀ i, i < n → P (S i)
  rt : ∀ X, P X → Rt X
  cpt : ∀ X Y, P X → P Y → Cpt X Y
  seen : ∀ X, P X → ∀ i : Nat, i < n → sget X.f0 i ≤ sget (S i).f0 i
  row : ∀ X, P X → ∀ i : Nat, i < n → ∀ k : S131, k.f1 = i → curW X k ≤ curW (S i) k
  out : ∀ X, P X → ∀ k : S131, (n : Int) ≤ k.f1 → curW X k = 0
  chain : ∀ X Y, P X → P Y → ∀ o : Int, (∀ k : S131, k.f1 = o → curW X k ≤ curW Y k) ∨ (∀ k : S131, k.f1 = o → curW Y k ≤ curW X k)
theorem Cpt.refl (X : S28) : Cpt X X := fun x u v hu hv => Option.some.inj (hv.symm.trans hu)
theorem sys_zero {n : Nat} (hn : n ≤ 8) : Sys n (fun _ => emptyS) (fun X => X = emptyS) where
  n8 := hn
  own := fun _ _ => rfl
  rt := fun X h => h ▸ emptyS_rt
  cpt := fun X Y hX hY => by rw [hX, hY]; exact Cpt.refl _
  seen := fun X hX i _ => by rw [hX]; exact Int.le_refl _
  row := fun X hX i _ k _ => by rw [hX]; exact Int.le_refl _
  out := fun X hX k _ => by rw [hX]; rfl
  chain := fun X Y hX hY o => .inl fun k _ => by rw [hX, hY]; exact Int.le_refl _
section
variable {n : Nat} {S : Nat → S28} {P : S28 → Prop}
theorem Sys.step (h : Sys n S P) {i : Nat} (hi : i < n) {S' : S28} (hr : Rt S') (hc : ∀ X, P X → Cpt S' X) (hs : sget (S i).f0 i ≤ sget S'.f0 i) (hs2 : ∀ j : Nat, j < n → j ≠ i → ∃ Z, P Z ∧ sget S'.f0 j = sget Z.f0 j) (hw : ∀ k : S131, k.f1 = i → curW (S i) k ≤ curW S' k) (hw2 : ∀ o : Int, o ≠ i → ∃ Z, P Z ∧ ∀ k : S131, k.f1 = o → curW S' k = curW Z k) : Sys n (updN S i S') (fun X => P X ∨ X = S') := by
  have low : ∀ X, P X → ∀ o : Int, (∀ k : S131, k.f1 = o → curW X k ≤ curW S' k) ∨ (∀ k : S131, k.f1 = o → curW S' k ≤ curW X k) := by
    intro X hX o
    by_cases e : o = i
    · exact .inl fun k hk => Int.le_trans (h.row X hX i hi k (hk.trans e)) (hw k (hk.trans e))
    · obtain ⟨Z, hZ, hz⟩ := hw2 o e
      rcases h.chain X Z hX hZ o with g | g
      · exact .inl fun k hk => by rw [hz k hk]; exact g k hk
      · exact .inr fun k hk => by rw [hz k hk]; exact g k hk
  refine ⟨h.n8, fun j hj => ?_, ?_, ?_, ?_, ?_, ?_, ?_⟩
  · unfold updN
    split
    · exact .inr rfl
    · exact .inl (h.own j hj)
  · rintro X (hX | rfl)
    · exact h.rt X hX
    · exact hr
  · rintro X Y (hX | rfl) (hY | rfl)
    · exact h.cpt X Y hX hY
    · exact (hc X hX).symm
    · exact hc Y hY
    · exact Cpt.refl _
  · rintro X (hX | rfl) j hj
    · unfold updN
      split
      · rename_i e; subst e
        exact Int.le_trans (h.seen X hX j hj) hs
      · exact h.seen X hX j hj
    · unfold updN
      split
      · exact Int.le_refl _
      · rename_i e
        obtain ⟨Z, hZ, hz⟩ := hs2 j hj e
        rw [hz]
        exact h.seen Z hZ j hj
  · rintro X (hX | rfl) j hj k hk
    · unfold updN
      split
      · rename_i e; subst e
        exact Int.le_trans (h.row X hX j hj k hk) (hw k hk)
      · exact h.row X hX j hj k hk
    · unfold updN
      split
      · exact Int.le_refl _
      · rename_i e
        obtain ⟨Z, hZ, hz⟩ := hw2 j (by omega)
        rw [hz k hk]
        exact h.row Z hZ j hj k hk
  · rintro X (hX | rfl) k hk
    · exact h.out X hX k hk
    · obtain ⟨Z, hZ, hz⟩ := hw2 k.f1 (by omega)
      rw [hz k rfl]
      exact h.out Z hZ k hk
  · rintro X Y (hX | rfl) (hY | rfl) o
    · exact h.chain X Y hX hY o
    · exact low X hX o
    · exact (low Y hY o).symm
    · exact .inl fun k _ => Int.le_refl _
theorem Sys.eff (h : Sys n S P) {i : Nat} (hi : i < n) {S' : S28} (he : Eff i (S i) S') : Sys n (updN S i S') (fun X => P X ∨ X = S') := by
  refine h.step hi he.rt (fun X hX x u v hu hv => ?_) he.seen (fun j _ hj => ⟨S i, h.own i hi, he.oth j (by omega) (by omega)⟩) he.ways fun o ho => ⟨S i, h.own i hi, fun k hk => he.row k (by rw [hk]; exact ho)⟩
  rcases he.tags x u hu with h1 | rfl
  · exact h.cpt (S i) X (h.own i hi) hX x u v h1 hv
  · have h1 := (tag_seen (h.rt X hX) hv).2.2.2.2
    have h2 := h.seen X hX i hi
    simp only at h1
    omega
/-- No merge of what they know is overdrawn. -/
theorem Sys.fund (h : Sys n S P) {X Y : S28} (hX : P X) (hY : P Y) : Fund (waysP (aMerge X Y)) := by
  have rX := h.rt X hX
  have rY := h.rt Y hY
  intro s o s0 s7 o0 o7
  have hk := merge_kv rX.kv rY.kv
  have e : freeY (waysP (aMerge X Y)) s o = freeC (curW (aMerge X Y)) s o := by
    have h1 : freeY (waysP (aMerge X Y)) s o = freeY (mrg cmpI (waysP X) (waysP Y)) s o := sumF_perm _ ways_mk
    rw [h1]
    refine (sumF_univ (fun k => conF_zero s o k) _ waysU_nodup _ hk.yn fun p hp => way_mem (hk.yk p hp)).trans (sumF_congr fun k _ => ?_)
    unfold curW
    rw [am_ways rX rY, mget_mrg rY.kv.yn]
  rw [e]
  rcases h.chain X Y hX hY o with g | g
  · refine Int.le_trans (rY.fu s o s0 s7 o0 o7) ?_
    rw [rY.freeC]
    exact freeC_mono (fun k _ => by rw [curW_merge rX rY]; omega) fun k _ hk => by rw [curW_merge rX rY]; have := g k hk; omega
  · refine Int.le_trans (rX.fu s o s0 s7 o0 o7) ?_
    rw [rX.freeC]
    exact freeC_mono (fun k _ => by rw [curW_merge rX rY]; omega) fun k _ hk => by rw [curW_merge rX rY]; have := g k hk; omega
theorem Sys.mrgS (h : Sys n S P) {X Y : S28} (hX : P X) (hY : P Y) : mrgS X Y = 0 ∨ mrgS X Y = 8 := by
  rw [mrgS_iff (h.rt X hX) (h.rt Y hY), if_neg (by rw [(conB_iff (h.rt X hX)).2 (h.cpt X Y hX hY)]; simp)]
  split
  · exact .inr rfl
  · rw [if_neg (by rw [fundB_iff.2 (h.fund hX hY)]; simp)]
    exact .inl rfl
theorem Sys.syncE (h : Sys n S P) {X Y : S28} (hX : P X) (hY : P Y) : syncE X Y = 0 ∨ syncE X Y = 8 := by
  have e : Proofs.YtmeaeapopfcmbaaGreat.syncE X Y = Proofs.YtmeaeapopfcmbaaGreat.mrgS X Y := by
    unfold Proofs.YtmeaeapopfcmbaaGreat.syncE
    rw [if_pos (rtB_iff.2 (h.rt Y hY))]
  rw [e]
  exact h.mrgS hX hY
theorem cpt_merge {A B X : S28} (hA : Rt A) (hB : Rt B) (h1 : Cpt A X) (h2 : Cpt B X) : Cpt (aMerge A B) X := fun x u v hu hv => by
  rcases am_alive hA hB hu with h | ⟨_, h⟩
  · exact h1 x u v h hv
  · exact h2 x u v h hv
theorem Sys.merge (h : Sys n S P) {i : Nat} (hi : i < n) {Y : S28} (hY : P Y) (h0 : Proofs.YtmeaeapopfcmbaaGreat.mrgS (S i) Y = 0) : Sys n (updN S i (aMerge (S i) Y)) (fun X => P X ∨ X = aMerge (S i) Y) := by
  have hS := h.own i hi
  have rS := h.rt _ hS
  have rY := h.rt _ hY
  have n8 := h.n8
  refine h.step hi (aMerge_rt rS rY h0) (fun X hX => cpt_merge rS rY (h.cpt _ _ hS hX) (h.cpt _ _ hY hX)) ?_ (fun j hj _ => ?_) (fun k _ => ?_) fun o _ => ?_
  · rw [am_seen rS rY (by omega) (by omega)]; omega
  · rw [am_seen rS rY (by omega) (by omega)]
    by_cases e : sget Y.f0 j ≤ sget (S i).f0 j
    · exact ⟨S i, hS, by omega⟩
    · exact ⟨Y, hY, by omega⟩
  · rw [curW_merge rS rY]; omega
  · rcases h.chain (S i) Y hS hY o with g | g
    · exact ⟨Y, hY, fun k hk => by rw [curW_merge rS rY]; have := g k hk; omega⟩
    · exact ⟨S i, hS, fun k hk => by rw [curW_merge rS rY]; have := g k hk; omega⟩
theorem Sys.sync (h : Sys n S P) {i : Nat} (hi : i < n) {Y : S28} (hY : P Y) : Sys n (updN S i (aSync (S i) Y)) (fun X => P X ∨ X = aSync (S i) Y) := by
  by_cases h0 : Proofs.YtmeaeapopfcmbaaGreat.syncE (S i) Y = 0
  · have e : aSync (S i) Y = aMerge (S i) Y := by unfold aSync; rw [if_pos h0]
    rw [e]
    exact h.merge hi hY (syncE_0 h0).2
  · have e : aSync (S i) Y = S i := by unfold aSync; rw [if_neg h0]
    rw [e]
    exact h.eff hi (Eff.refl (h.rt _ (h.own i hi)) _)
/-- What was known before. -/
theorem Sys.le {Q : S28 → Prop} (h : Sys n S P) (hQ : ∀ X, Q X → P X) (ho : ∀ i, i < n → Q (S i)) : Sys n S Q :=
  ⟨h.n8, ho, fun X hX => h.rt X (hQ X hX), fun X Y hX hY => h.cpt X Y (hQ X hX) (hQ Y hY), fun X hX => h.seen X (hQ X hX), fun X hX => h.row X (hQ X hX), fun X hX => h.out X (hQ X hX), fun X Y hX hY => h.chain X Y (hQ X hX) (hQ Y hY)⟩
/-! ### what all of them made and took -/
/-- Each office's own ways. -/
def ownW (n : Nat) (S : Nat → S28) (k : S131) : Int := if 0 ≤ k.f1 ∧ k.f1 < n then curW (S k.f1.toNat) k else 0
theorem ownW_upd {i : Nat} (hi : i < n) {S' : S28} (h : ∀ k : S131, k.f1 = i → curW S' k = curW (S i) k) (k : S131) : ownW n (updN S i S') k = ownW n S k := by
  unfold ownW updN
  split
  · split
    · rename_i h1 h2
      rw [h2]
      exact h k (by omega)
    · rfl
  · rfl
theorem ownW_add {i : Nat} (hi : i < n) {S' : S28} {x : S131} {a : Int} (hx : x.f1 = i) (h : ∀ k : S131, curW S' k = if k = x then curW (S i) x + a else curW (S i) k) (k : S131) : ownW n (updN S i S') k = if k = x then ownW n S x + a else ownW n S k := by
  unfold ownW updN
  by_cases e : k = x
  · subst e
    rw [if_pos rfl, if_pos ⟨by omega, by omega⟩, if_pos (by omega), h, if_pos rfl, if_pos ⟨by omega, by omega⟩]
    have : k.f1.toNat = i := by omega
    rw [this]
  · rw [if_neg e]
    split
    · split
      · rename_i h1 h2
        rw [h, if_neg e, h2]
      · rfl
    · rfl
end
end Go.Proofs.YtmeaeapopfcmbaaGreat

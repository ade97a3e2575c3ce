/- Several texts in one: B32 B33 B34 B35 B36 P6 B37. No conditions. -/
import Derived.Test.YtmeaeapopfcmbaaGreatG4
import Derived.Test.YtmeaeapopfcmbaaGreatG5
import Derived.Test.YtmeaeapopfcmbaaGreatQ1
import Derived.Deep.DeepCutAuto
import Derived.Deep.RegionHeld3
import Derived.Lib.OwnBridge
namespace Go.Proofs.YtmeaeapopfcmbaaGreat
open Go.RowKit Go.Proofs.YtmeaeapopfcmbaaGreatW.PrintWords Go.Proofs.YtmeaeapopfcmbaaGreatW.PrintLast Go.Proofs.YtmeaeapopfcmbaaGreatW.PrintMore PP
attribute [local go_sem high] eqA99
attribute [local go_sem] max2_int min2_int max_two min_two
set_option linter.unusedVariables false
set_option linter.unusedSimpArgs false
set_option maxHeartbeats 4000000
set_option maxRecDepth 100000
/-- Has the other one another tag at a tag's dot? -/
def cfl (T' : List (S97 × S99)) (p : S97 × S99) : Bool := match mget T' p.1 with | some t => !decide (t = p.2) | none => false
def conB (T T' : List (S97 × S99)) : Bool := T.any (cfl T')
/-- In a round of the first loop. -/
structure MgMid (w w3 : World) (mta : Nat) (T outs : List (S97 × S99)) (p : S97 × S99) (c5 : Nat) (W : World) : Prop where
  base : Below w.heap.size w W
  rg : Rng CT W mta w.heap.size T (outs ++ [p]) c5
  d : W.heap[w3.heap.size]? = some (Obj.cells #[.int .i64 p.1.f0, .int .i64 p.1.f1] 97 (0, 0))
  t : W.heap[w3.heap.size + 1]? = some (Obj.cells #[.int .i64 p.2.f0, .string p.2.f1, .int .i64 p.2.f2.f0, .int .i64 p.2.f2.f1] 99 (0, 0))
theorem MgMid.below {w w3 W W' : World} {mta : Nat} {T outs : List (S97 × S99)} {p : S97 × S99} {c5 : Nat} (h : MgMid w w3 mta T outs p c5 W) (hb : Below W.heap.size W W') : MgMid w w3 mta T outs p c5 W' :=
  ⟨h.base.trans (hb.mono h.base.size), h.rg.below hb, (hb.block _ (Array.getElem?_eq_some_iff.1 h.d).1).trans h.d, (hb.block _ (Array.getElem?_eq_some_iff.1 h.t).1).trans h.t⟩
theorem tag_eq (z0 t0 : Int) (z1 t1 : ByteArray) (z2 t2 z3 t3 : Int) : (z0 == t0 && (z1.toList == t1.toList && (z2 == t2 && (z3 == t3)))) = decide ((⟨z0, z1, ⟨z2, z3⟩⟩ : S99) = ⟨t0, t1, ⟨t2, t3⟩⟩) := by
  rw [Bool.eq_iff_iff]
  simp only [Bool.and_eq_true, beq_iff_eq, decide_eq_true_eq, S99.mk.injEq, S97.mk.injEq, same_iff]
/-- The tags that two have. -/
def mT (s : List Int) (T : List (S97 × S99)) (s' : List Int) (T' : List (S97 × S99)) : List (S97 × S99) := T.filter (keepB s' T') ++ T'.filter fun p => keepB s T p && !(mget T p.1).isSome
def mSeen (s s' : List Int) : List Int := List.zipWith max s s'
noncomputable def mrgE (s : List Int) (T : List (S97 × S99)) (Y : List (S131 × Int)) (s' : List Int) (T' : List (S97 × S99)) (Y' : List (S131 × Int)) : Int :=
  if conB T T' = true then 2 else if 128 < (mT s T s' T').length then 8 else if fundB (mrg cmpI Y Y') = false then 9 else 0
/-- What merge answers. -/
structure MrgRes (w : World) (s : List Int) (T : List (S97 × S99)) (N : List (Int × S102)) (Y : List (S131 × Int)) (s' : List Int) (T' : List (S97 × S99)) (N' : List (Int × S102)) (Y' : List (S131 × Int)) (e : Ending) (w' : World) : Prop where
  ans : ∃ p : Option Addr, e = .returned (.tuple #[.pointer p, .int .i64 (mrgE s T Y s' T' Y')]) ∧ (mrgE s T Y s' T' Y' ≠ 0 → p = none) ∧
    (mrgE s T Y s' T' Y' = 0 → ∃ k mt mn mw T2 N2 Y2, p = some ⟨k, 0, none⟩ ∧ KnowNew w.heap.size w' k mt mn mw (mSeen s s') T2 N2 Y2 ∧ T2.Perm (mT s T s' T') ∧ N2.Perm (mrg cmpN N N') ∧ Y2.Perm (mrg cmpI Y Y'))
  base : Below w.heap.size w w'
theorem MrgRes.err {w w' : World} {s : List Int} {T : List (S97 × S99)} {N : List (Int × S102)} {Y : List (S131 × Int)} {s' : List Int} {T' : List (S97 × S99)} {N' : List (Int × S102)} {Y' : List (S131 × Int)} {v : Int} (h : mrgE s T Y s' T' Y' = v) (h0 : v ≠ 0) (hb : Below w.heap.size w w') : MrgRes w s T N Y s' T' N' Y' (.returned (.tuple #[.pointer none, .int .i64 v])) w' :=
  ⟨⟨none, by rw [h], fun _ => rfl, fun e => absurd (h.symm.trans e) h0⟩, hb⟩
theorem MrgRes.con {w w' : World} {s : List Int} {T : List (S97 × S99)} {N : List (Int × S102)} {Y : List (S131 × Int)} {s' : List Int} {T' : List (S97 × S99)} {N' : List (Int × S102)} {Y' : List (S131 × Int)} (h : conB T T' = true) (hb : Below w.heap.size w w') : MrgRes w s T N Y s' T' N' Y' (.returned (.tuple #[.pointer none, .int .i64 2])) w' :=
  MrgRes.err (by unfold mrgE; rw [if_pos h]) (by decide) hb
theorem conB_perm {T T' O : List (S97 × S99)} (h : O.Perm T) : conB O T' = conB T T' := by
  unfold conB
  rw [Bool.eq_iff_iff, List.any_eq_true, List.any_eq_true]
  exact ⟨fun ⟨q, h1, h2⟩ => ⟨q, h.mem_iff.1 h1, h2⟩, fun ⟨q, h1, h2⟩ => ⟨q, h.mem_iff.2 h1, h2⟩⟩
theorem mget_isSome_mem {α β : Type} [DecidableEq α] {L : List (α × β)} {x : α} : (mget L x).isSome = true ↔ x ∈ L.map Prod.fst := by
  constructor
  · intro h
    obtain ⟨b, hb⟩ := Option.isSome_iff_exists.1 h
    exact List.mem_map.2 ⟨_, mget_some hb, rfl⟩
  · intro h
    obtain ⟨p, hp, rfl⟩ := List.mem_map.1 h
    cases hm : mget L p.1 with
    | none => exact absurd rfl (mget_none.1 hm p hp)
    | some b => rfl
theorem mT_nodup {s s' : List Int} {T T' : List (S97 × S99)} (h : (T.map Prod.fst).Nodup) (h' : (T'.map Prod.fst).Nodup) : ((mT s T s' T').map Prod.fst).Nodup := by
  unfold mT
  rw [List.map_append, List.nodup_append]
  refine ⟨h.sublist (List.Sublist.map _ List.filter_sublist), h'.sublist (List.Sublist.map _ List.filter_sublist), ?_⟩
  intro a ha b hb e
  subst e
  obtain ⟨p, hp, rfl⟩ := List.mem_map.1 ha
  obtain ⟨q, hq, e⟩ := List.mem_map.1 hb
  have h1 := (List.mem_filter.1 hq).2
  have h2 : (mget T p.1).isSome = true := mget_isSome_mem.2 (List.mem_map.2 ⟨p, (List.mem_filter.1 hp).1, rfl⟩)
  rw [e, h2] at h1
  simp at h1
theorem mT_perm {s s' : List Int} {T T' O1 O2 : List (S97 × S99)} (h : (T.map Prod.fst).Nodup) (h' : (T'.map Prod.fst).Nodup) (hn : (O2.map Prod.fst).Nodup) (hc : conB T T' = false) (h1 : ∀ x, mget O1 x = (mget (T.filter (keepB s' T')) x).or (mget [] x)) (h2 : ∀ x, mget O2 x = (mget (T'.filter (keepB s T)) x).or (mget O1 x)) : O2.Perm (mT s T s' T') := by
  refine perm_of_mget hn (mT_nodup h h') fun x => ?_
  unfold mT
  rw [h2, h1, mget_app, mget_filter h, mget_filter h', mget_filter h', mget_nil, Option.or_none]
  cases hu : mget T x with
  | none =>
    cases hv : mget T' x with
    | none => rfl
    | some v => simp [keepB, hu]
  | some u =>
    cases hv : mget T' x with
    | none => simp
    | some v =>
      have e : v = u := by
        have hm := mget_some hu
        unfold conB at hc
        have := List.any_eq_false.1 hc _ hm
        unfold cfl at this
        rw [show mget T' ((x, u) : S97 × S99).1 = some v from hv] at this
        simpa using this
      simp [keepB, hu, hv, e]
theorem mSeen_of {s s' sm : List Int} (h : s.length = 8) (h' : s'.length = 8) (hm : sm.length = 8) (hj : ∀ j, j < 8 → sm.getD j 0 = max (s.getD j 0) (s'.getD j 0)) : sm = mSeen s s' := by
  unfold mSeen
  refine List.ext_getElem (by simp [h, h', hm]) fun j h1 h2 => ?_
  have := hj j (by omega)
  rw [List.getD_eq_getElem?_getD, List.getD_eq_getElem?_getD, List.getD_eq_getElem?_getD, List.getElem?_eq_getElem h1, List.getElem?_eq_getElem (by omega), List.getElem?_eq_getElem (by omega)] at this
  rw [List.getElem_zipWith]
  exact this
theorem mrg_mem {α β : Type} [DecidableEq α] {c : β → β → Int} {L M : List (α × β)} (hL : (L.map Prod.fst).Nodup) (hM : (M.map Prod.fst).Nodup) {p : α × β} (hp : p ∈ mrg c L M) : p ∈ L ∨ p ∈ M := by
  have h1 := mget_mem (nodup_mrg (c := c) hL hM) (show (p.1, p.2) ∈ mrg c L M from hp)
  rw [mget_mrg hM] at h1
  cases hu : mget L p.1 with
  | none =>
    rw [hu] at h1
    exact .inr (mget_some h1)
  | some u =>
    cases hv : mget M p.1 with
    | none =>
      rw [hu, hv] at h1
      simp only [comb] at h1
      exact .inl (mget_some (hu.trans h1))
    | some v =>
      rw [hu, hv] at h1
      simp only [comb, Option.some.injEq] at h1
      split at h1
      · exact .inr (mget_some (hv.trans (congrArg some h1)))
      · exact .inl (mget_some (hu.trans (congrArg some h1)))
theorem fundB_perm {Y Y' : List (S131 × Int)} (h : Y.Perm Y') : fundB Y = fundB Y' := by
  rw [Bool.eq_iff_iff, fundB_iff, fundB_iff]
  unfold Fund freeY
  exact ⟨fun g s o a b c d => by rw [← sumF_perm _ h]; exact g s o a b c d, fun g s o a b c d => by rw [sumF_perm _ h]; exact g s o a b c d⟩
theorem know_maps {w : World} {k mt mn mw m1 m2 : Nat} {s : List Int} {T : List (S97 × S99)} {N N' : List (Int × S102)} {Y Y' : List (S131 × Int)} (h : KnowAt w k mt mn mw s T N Y) (hn : MapIs CN w m1 N') (hy : MapIs CW w m2 Y') (d1 : mt ≠ m1) (d2 : mt ≠ m2) (d3 : m1 ≠ m2) :
    KnowAt ((((w.setCell ⟨k, 9, none⟩ (.map (some m1))).setCell ⟨k, 10, none⟩ (.func (.func 122) #[] #[])).setCell ⟨k, 11, none⟩ (.map (some m2))).setCell ⟨k, 12, none⟩ (.func (.func 102) #[] #[])) k mt m1 m2 s T N' Y' := by
  have e1 := heap_setCell_same w k 9 _ 129 (.map (some m1)) h.blk
  have e2 := heap_setCell_same _ k 10 _ 129 (.func (.func 122) #[] #[]) e1
  have e3 := heap_setCell_same _ k 11 _ 129 (.map (some m2)) e2
  have e4 := heap_setCell_same _ k 12 _ 129 (.func (.func 102) #[] #[]) e3
  have o : ∀ i, i ≠ k → ((((w.setCell ⟨k, 9, none⟩ (.map (some m1))).setCell ⟨k, 10, none⟩ (.func (.func 122) #[] #[])).setCell ⟨k, 11, none⟩ (.map (some m2))).setCell ⟨k, 12, none⟩ (.func (.func 102) #[] #[])).heap[i]? = w.heap[i]? := fun i hi =>
    (Below.heap_setCell _ _ _ _ hi).trans ((Below.heap_setCell _ _ _ _ hi).trans ((Below.heap_setCell _ _ _ _ hi).trans (Below.heap_setCell _ _ _ _ hi)))
  have hc : ((((knowCells s mt mn mw).setIfInBounds 9 (.map (some m1))).setIfInBounds 10 (.func (.func 122) #[] #[])).setIfInBounds 11 (.map (some m2))).setIfInBounds 12 (.func (.func 102) #[] #[]) = knowCells s mt m1 m2 := by
    obtain ⟨a0, a1, a2, a3, a4, a5, a6, a7, rfl⟩ := h.s8
    rfl
  exact ⟨h.len, by rw [e4, hc], h.t.at (o _ h.kt.1.symm), hn.at (o _ (hn.ne h.blk).symm), hy.at (o _ (hy.ne h.blk).symm), d1, d2, d3⟩
theorem stay_new {w W : World} {ka mta mna mwa kb mtb mnb mwb k mt mn mw : Nat} {s : List Int} {T : List (S97 × S99)} {N : List (Int × S102)} {Y : List (S131 × Int)} {s' : List Int} {T' : List (S97 × S99)} {N' : List (Int × S102)} {Y' : List (S131 × Int)} {sm : List Int} {O : List (S97 × S99)}
    (ha : KnowAt w ka mta mna mwa s T N Y) (hb : KnowAt w kb mtb mnb mwb s' T' N' Y') (va : Kv s T N Y) (hl : T.length ≤ 128) (hW : Below w.heap.size w W) (hn : KnowNew w.heap.size W k mt mn mw sm O [] []) (hO : O.length ≤ 1000) :
    Calls Tryz.prog 125 #[.pointer (some ⟨ka, 0, none⟩), .pointer (some ⟨kb, 0, none⟩), .map (some mt)] W fun e w' => e = .returned (.tuple #[]) ∧ ∃ O', KnowNew w.heap.size w' k mt mn mw sm O' [] [] ∧ O'.length ≤ O.length + T.length ∧ (∀ x, mget O' x = (mget (T.filter (keepB s' T')) x).or (mget O x)) ∧ Below w.heap.size w w' := by
  have la := ha.lt
  have lb := hb.lt
  have ht := hn.t_
  have kt := hn.at_.kt
  have lk := hn.at_.lt
  refine (stay_run W ka mta mna mwa kb mtb mnb mwb mt s T N Y s' T' N' Y' O (ha.below hW) (hb.below hW) hn.at_.t (fun p hp => ?_) ⟨by omega, hO⟩ (by rintro i (rfl | rfl | rfl | rfl) <;> omega) (by rintro i (rfl | rfl | rfl | rfl) <;> omega)).mono ?_
  · have h1 := va.tk p hp
    have h2 := h1.2
    simp only [tagB, Bool.and_eq_true, inR_iff] at h2
    rw [h1.1]
    exact h2.1.1.2
  · rintro e w' ⟨rfl, ⟨O', h1, h2, h3⟩, hc⟩
    refine ⟨rfl, O', ⟨hn.at_.chgT h1 ?_, hn.k_, hn.t_, hn.n_, hn.w_⟩, h2, h3, hW.trans (hc.fresh hW.size fun i hi => by omega)⟩
    rintro i (rfl | rfl | rfl)
    · exact hc.block _ lk.1 kt.1
    · exact hc.block _ lk.2.2.1 (fun e => hn.at_.tn e.symm)
    · exact hc.block _ lk.2.2.2 (fun e => hn.at_.tw e.symm)
theorem merge_run (w : World) (ka mta mna mwa kb mtb mnb mwb : Nat) (s : List Int) (T : List (S97 × S99)) (N : List (Int × S102)) (Y : List (S131 × Int)) (s' : List Int) (T' : List (S97 × S99)) (N' : List (Int × S102)) (Y' : List (S131 × Int))
    (ha : KnowAt w ka mta mna mwa s T N Y) (hb : KnowAt w kb mtb mnb mwb s' T' N' Y') (va : Kv s T N Y) (vb : Kv s' T' N' Y') (hl : T.length ≤ 128 ∧ T'.length ≤ 128) :
    Calls Tryz.prog 68 #[.pointer (some ⟨ka, 0, none⟩), .pointer (some ⟨kb, 0, none⟩)] w fun e w' => MrgRes w s T N Y s' T' N' Y' e w' := by
  have HA := Hd.mk ha
  have HB := Hd.mk hb
  have VA := Hd.mk va
  have VB := Hd.mk vb
  have HL := Hd.mk hl
  have q0 := ha.ct
  have HY := Hd.mk ha.t
  clear ha hb va vb hl
  go_enter Tryz.func68, Tryz.ntmps68
  go_wp2_with (at_range; refine wpL_range _ CT rfl _ rfl mta T rfl HY.out ?_; intro w1 hr hg hs; have RG := Hd.mk hr; have BW := Hd.mk (show Below w.heap.size w w1 from (Below.refl _ _).grown hg (Nat.le_refl _) (by simp)); clear hr hg hs)
  go_frame
  go_loopg [] T.length (fun gg wq => ∃ (outs : List (S97 × S99)) (cn : Nat), cn ≤ gg ∧ Hd (Rng CT wq mta w.heap.size T outs cn) ∧ Hd (Below w.heap.size w wq) ∧ Hd (conB outs T' = false))
  case atStart => exact ⟨[], T.length, Nat.le_refl _, RG, BW, ⟨rfl⟩⟩
  case round =>
    clear RG BW
    obtain ⟨outs, cn, hg, RG, BQ, CO⟩ := hrel
    go_wp2_with (at_next; refine wpL_next _ CT rfl _ rfl mta w.heap.size T outs cn rfl RG.out ?gd ?gm)
    case gd =>
      intro hd
      have NC := Hd.mk ((conB_perm (T' := T') hd).symm.trans CO.out)
      clear hd RG CO q0
      have E := Hd.mk (empty_run wr)
      go_wp2_with fail
      refine E.out.mono ?_
      rintro e w4 ⟨k, mt, mn, mw, rfl, hk, hb⟩
      have B4 := Hd.mk (BQ.out.trans (hb.mono BQ.out.size))
      have KN := Hd.mk (show KnowNew w.heap.size w4 k mt mn mw zeros8 [] [] [] from ⟨hk.at_, Nat.le_trans BQ.out.size hk.k_, Nat.le_trans BQ.out.size hk.t_, Nat.le_trans BQ.out.size hk.n_, Nat.le_trans BQ.out.size hk.w_⟩)
      clear hk hb BQ E
      go_wp2_with fail
      go_loopg [38] 8 (fun gg v38 wq => ∃ (i : Nat) (sm : List Int), v38 = .int .i64 i ∧ i + gg = 8 ∧ Hd (KnowNew w.heap.size wq k mt mn mw sm [] [] []) ∧ Hd (∀ j, j < 8 → sm.getD j 0 = if j < i then max (s.getD j 0) (s'.getD j 0) else 0) ∧ Hd (Below w.heap.size w wq))
      case atStart => exact ⟨0, zeros8, rfl, by omega, KN, ⟨fun j hj => by rw [if_neg (Nat.not_lt_zero _)]; match j, hj with | 0, _ | 1, _ | 2, _ | 3, _ | 4, _ | 5, _ | 6, _ | 7, _ => rfl⟩, B4⟩
      case round =>
        clear KN B4
        obtain ⟨i, sm, rfl, hi, KN, SM, BQ⟩ := hrel
        by_cases hlt : i < 8
        · have hz : ((i : Int) < 8) := by omega
          have HLT := Hd.mk hlt
          have q1 := (HA.out.below BQ.out).seen i hlt
          have q2 := (HB.out.below BQ.out).seen i hlt
          have q3 := KN.out.at_.seen i hlt
          have z3 := frozen_of KN.out.at_.blk i none
          have MX := Hd.mk (show max (s.getD i 0) (s'.getD i 0) = max (s.getD i 0) (s'.getD i 0) from rfl)
          generalize hA : s.getD i 0 = a at q1 MX
          generalize hB : s'.getD i 0 = b at q2 MX
          have HAB := Hd.mk (And.intro hA hB)
          clear hA hB MX
          have CK := Hd.mk (show KnowNew w.heap.size ((wr.setCell ⟨k, i, none⟩ (.int .i64 (if a < b then b else a))).drew) k mt mn mw (sm.set i (if a < b then b else a)) [] [] [] from
            ⟨(know_cell KN.out.at_ i hlt _).below (Below.drew (Below.refl _ _)), KN.out.k_, KN.out.t_, KN.out.n_, KN.out.w_⟩)
          have CB := Hd.mk (show Below w.heap.size w ((wr.setCell ⟨k, i, none⟩ (.int .i64 (if a < b then b else a))).drew) from Below.drew (BQ.out.setCell (p := ⟨k, i, none⟩) KN.out.k_ _))
          have SM2 := Hd.mk (show ∀ j, j < 8 → (sm.set i (if a < b then b else a)).getD j 0 = if j < i + 1 then max (s.getD j 0) (s'.getD j 0) else 0 by
            intro j hj
            have hl := KN.out.at_.len
            rw [List.getD_eq_getElem?_getD, List.getElem?_set]
            by_cases e : i = j
            · subst e
              rw [if_pos rfl, if_pos (show i < sm.length by omega), if_pos (show i < i + 1 by omega), HAB.out.1, HAB.out.2]
              simp only [Option.getD_some]
              split <;> omega
            · rw [if_neg e, ← List.getD_eq_getElem?_getD, SM.out j hj]
              by_cases e2 : j < i
              · rw [if_pos e2, if_pos (show j < i + 1 by omega)]
              · rw [if_neg e2, if_neg (show ¬ j < i + 1 by omega)])
          clear KN BQ SM
          go_wp2_with fail
          go_region
          all_goals
            generalize (if a < b then b else a) = v at *
            go_wp2_with fail
            go_roundg (8 - (i + 1))
            case measure => omega
            case rel => exact ⟨i + 1, _, by go_num, by omega, CK, SM2, CB⟩
        · have hz : ¬ ((i : Int) < 8) := by omega
          have hi8 : i = 8 := by omega
          have SMF := Hd.mk (show sm = mSeen s s' from mSeen_of HA.out.len HB.out.len KN.out.at_.len (fun j hj => by rw [SM.out j hj, if_pos (show j < i by omega)]))
          obtain rfl := SMF.out
          clear SM SMF
          have ST1 := Hd.mk (stay_new HA.out HB.out VA.out HL.out.1 BQ.out KN.out (by decide))
          have q1 := KN.out.at_.ct
          go_wp2_with fail
          refine ST1.out.mono ?_
          rintro e w5 ⟨rfl, O1, hk1, hl1, hm1, hb1⟩
          have K5 := Hd.mk hk1
          have L1 := Hd.mk hl1
          have M1 := Hd.mk hm1
          have B5 := Hd.mk hb1
          clear hk1 hl1 hm1 hb1 KN BQ ST1 q1
          have ST2 := Hd.mk (stay_new HB.out HA.out VB.out HL.out.2 B5.out K5.out (by have h1 := L1.out; have h2 := HL.out.1; simp only [List.length_nil] at h1; omega))
          have q1 := K5.out.at_.ct
          go_wp2_with fail
          refine ST2.out.mono ?_
          rintro e w6 ⟨rfl, O2, hk1, hl1, hm1, hb1⟩
          have K6 := Hd.mk hk1
          have L2 := Hd.mk hl1
          have PT := Hd.mk (show O2.Perm (mT s T s' T') from mT_perm VA.out.tn VB.out.tn hk1.at_.t.nodup NC.out M1.out hm1)
          have B6 := Hd.mk hb1
          clear hk1 hl1 hm1 hb1 K5 B5 ST2 q1 M1
          have NL := Hd.mk (And.intro (notes_len VA.out) (notes_len VB.out))
          have YL := Hd.mk (And.intro (ways_len VA.out.yk VA.out.yn) (ways_len VB.out.yk VB.out.yn))
          have MN := Hd.mk (fun W (hb : Below w6.heap.size w6 W) => (mergedN_run W mna mnb N N' (((HA.out.below B6.out).below hb).n) (((HB.out.below B6.out).below hb).n) (by have := NL.out; omega)).mono fun e w' hh => (show ∃ m R, e = .returned (.agg #[.map (some m), .func (.func 122) #[] #[]]) ∧ w6.heap.size ≤ m ∧ MapIs CN w' m R ∧ MrgTo cmpN N N' R ∧ Below w6.heap.size w6 w' from by
            obtain ⟨m, R, h1, h2, h3, h4, h5⟩ := hh
            exact ⟨m, R, h1, Nat.le_trans hb.size h2, h3, h4, hb.trans (h5.mono hb.size)⟩))
          have MW := Hd.mk (fun W (hb : Below w6.heap.size w6 W) => (mergedW_run W mwa mwb Y Y' (((HA.out.below B6.out).below hb).y) (((HB.out.below B6.out).below hb).y) (by have := YL.out; omega)).mono fun e w' hh => (show ∃ m R, e = .returned (.agg #[.map (some m), .func (.func 102) #[] #[]]) ∧ W.heap.size ≤ m ∧ MapIs CW w' m R ∧ MrgTo cmpI Y Y' R ∧ Below W.heap.size W w' from hh))
          have SK := Hd.mk (fun W (hb : Below w.heap.size w W) => (show W.cell? ⟨ka, 9, none⟩ = some (.map (some mna)) ∧ W.cell? ⟨ka, 10, none⟩ = some (.func (.func 122) #[] #[]) ∧ W.cell? ⟨ka, 11, none⟩ = some (.map (some mwa)) ∧ W.cell? ⟨ka, 12, none⟩ = some (.func (.func 102) #[] #[]) ∧ W.cell? ⟨kb, 9, none⟩ = some (.map (some mnb)) ∧ W.cell? ⟨kb, 10, none⟩ = some (.func (.func 122) #[] #[]) ∧ W.cell? ⟨kb, 11, none⟩ = some (.map (some mwb)) ∧ W.cell? ⟨kb, 12, none⟩ = some (.func (.func 102) #[] #[]) from
            have a := HA.out.below hb
            have b := HB.out.below hb
            ⟨a.cn, a.cnf, a.cw, a.cwf, b.cn, b.cnf, b.cw, b.cwf⟩))
          have KW := Hd.mk (fun W (hb : Below w6.heap.size w6 W) => K6.out.at_.below hb)
          have NK := Hd.mk (show ka ≠ k ∧ kb ≠ k by have h1 := HA.out.lt; have h2 := HB.out.lt; have h3 := K6.out.k_; omega)
          have nk1 := NK.out.1
          have nk2 := NK.out.2
          go_wp2_with fail
          go_region_held3 (fun w' => w'.cell? ⟨ka, 9, none⟩ = some (.map (some mna)) ∧ w'.cell? ⟨ka, 10, none⟩ = some (.func (.func 122) #[] #[]) ∧ w'.cell? ⟨ka, 11, none⟩ = some (.map (some mwa)) ∧ w'.cell? ⟨ka, 12, none⟩ = some (.func (.func 102) #[] #[]) ∧ w'.cell? ⟨kb, 9, none⟩ = some (.map (some mnb)) ∧ w'.cell? ⟨kb, 10, none⟩ = some (.func (.func 122) #[] #[]) ∧ w'.cell? ⟨kb, 11, none⟩ = some (.map (some mwb)) ∧ w'.cell? ⟨kb, 12, none⟩ = some (.func (.func 102) #[] #[]))
            (first
              | exact SK.out _ (Below.drew B6.out)
              | exact SK.out _ (B6.out.trans (hb7.mono B6.out.size))
              | exact SK.out _ (B6.out.trans (hb8.mono B6.out.size))
              | exact SK.out _ (((B6.out.trans (hb8.mono B6.out.size)).setCell (p := ⟨k, 9, none⟩) K6.out.k_ _).setCell (p := ⟨k, 10, none⟩) K6.out.k_ _)
              | exact SK.out _ (((((B6.out.trans (hb8.mono B6.out.size)).setCell (p := ⟨k, 9, none⟩) K6.out.k_ _).setCell (p := ⟨k, 10, none⟩) K6.out.k_ _).setCell (p := ⟨k, 11, none⟩) K6.out.k_ _).setCell (p := ⟨k, 12, none⟩) K6.out.k_ _)
              | go_keep)
            (first
              | (go_at_call 126; refine (MN.out _ (Below.drew (Below.refl _ _))).mono ?_; rintro e w7 ⟨m1, R1, rfl, hm1, hR1, hT1, hb7⟩)
              | (go_at_call 127; refine (MW.out _ hb7).mono ?_; rintro e w8 ⟨m2, R2, rfl, hm2, hR2, hT2, hb8'⟩; have hb8 := hb7.trans (hb8'.mono hb7.size); have k9 := (KW.out _ hb8).cn; have k10 := (KW.out _ hb8).cnf; have k11 := (KW.out _ hb8).cw; have k12 := (KW.out _ hb8).cwf; have f9 := frozen_of (KW.out _ hb8).blk 9 none; have f10 := frozen_of (KW.out _ hb8).blk 10 none; have f11 := frozen_of (KW.out _ hb8).blk 11 none; have f12 := frozen_of (KW.out _ hb8).blk 12 none))
          have K8 := Hd.mk (KW.out _ hb8)
          have B8 := Hd.mk (B6.out.trans (hb8.mono B6.out.size))
          have H1 := Hd.mk (hR1.below hb8' hR1.lt)
          have DS := Hd.mk (show mt ≠ m1 ∧ mt ≠ m2 ∧ m1 ≠ m2 by have h1 := K6.out.at_.lt; have h2 := hR1.lt; have h3 := hb7.size; omega)
          have MB := Hd.mk (show w.heap.size ≤ m1 ∧ w.heap.size ≤ m2 by have h1 := B6.out.size; have h3 := hb7.size; omega)
          have P1 := Hd.mk (show R1.Perm (mrg cmpN N N') from perm_of_mget hR1.nodup (nodup_mrg VA.out.nn VB.out.nn) fun x => by rw [hT1.2, mget_mrg VB.out.nn])
          have P2 := Hd.mk (show R2.Perm (mrg cmpI Y Y') from perm_of_mget hR2.nodup (nodup_mrg VA.out.yn VB.out.yn) fun x => by rw [hT2.2, mget_mrg VB.out.yn])
          have KF := Hd.mk (know_maps K8.out H1.out hR2 DS.out.1 DS.out.2.1 DS.out.2.2)
          have BF := Hd.mk (show Below w.heap.size w ((((w8.setCell ⟨k, 9, none⟩ (.map (some m1))).setCell ⟨k, 10, none⟩ (.func (.func 122) #[] #[])).setCell ⟨k, 11, none⟩ (.map (some m2))).setCell ⟨k, 12, none⟩ (.func (.func 102) #[] #[])) from (((B8.out.setCell (p := ⟨k, 9, none⟩) K6.out.k_ _).setCell (p := ⟨k, 10, none⟩) K6.out.k_ _).setCell (p := ⟨k, 11, none⟩) K6.out.k_ _).setCell (p := ⟨k, 12, none⟩) K6.out.k_ _)
          have K6' := Hd.mk (And.intro K6.out.k_ K6.out.t_)
          clear hm1 hR1 hT1 hb7 hm2 hR2 hT2 hb8' hb8 k9 k10 k11 k12 f9 f10 f11 f12 K8 B8 H1 MN MW SK KW K6
          generalize (((w8.setCell ⟨k, 9, none⟩ (.map (some m1))).setCell ⟨k, 10, none⟩ (.func (.func 122) #[] #[])).setCell ⟨k, 11, none⟩ (.map (some m2))).setCell ⟨k, 12, none⟩ (.func (.func 102) #[] #[]) = w9 at *
          have q1 := KF.out.ct
          have ln : (Builtin.len_ #[119] 3 #[.map (some mt)]).run Tryz.prog w9 = .ok (.int .i64 O2.length) w9 := KF.out.t.len 3
          have LE := Hd.mk (show (mT s T s' T').length = O2.length from PT.out.length_eq.symm)
          have E0 := Hd.mk (show mrgE s T Y s' T' Y' = if 128 < O2.length then 8 else if fundB (mrg cmpI Y Y') = false then 9 else 0 by unfold mrgE; rw [if_neg (by rw [NC.out]; simp), LE.out])
          by_cases hg : (128 : Int) < (O2.length : Int)
          · have E1 := Hd.mk (show mrgE s T Y s' T' Y' = 8 by rw [E0.out, if_pos (by omega)])
            go_wp2_with fail
            go_ret2
            exact MrgRes.err E1.out (by decide) BF.out
          · have E1 := Hd.mk (show mrgE s T Y s' T' Y' = if fundB (mrg cmpI Y Y') = false then 9 else 0 by rw [E0.out, if_neg (by omega)])
            have FN := Hd.mk (fundedB_run w9 k mt m1 m2 _ _ _ _ KF.out (fun p hp => (mrg_mem VA.out.yn VB.out.yn (P2.out.mem_iff.1 hp)).elim (VA.out.yk p) (VB.out.yk p)))
            rw [fundB_perm P2.out] at FN
            generalize fundB (mrg cmpI Y Y') = fb at *
            clear E0 LE
            go_wp2_with fail
            refine FN.out.mono ?_
            rintro e w10 ⟨rfl, hb10⟩
            have B10 := Hd.mk (BF.out.trans (hb10.mono BF.out.size))
            have K10 := Hd.mk (KF.out.below hb10)
            clear hb10
            cases fb with
            | false =>
              go_wp2_with fail
              go_ret2
              exact MrgRes.err E1.out (by decide) B10.out
            | true =>
              go_wp2_with fail
              go_ret2
              exact ⟨⟨_, by rw [E1.out]; rfl, fun h => absurd (by rw [E1.out]; rfl) h, fun _ => ⟨k, mt, m1, m2, O2, R1, R2, rfl, ⟨K10.out, K6'.out.1, K6'.out.2, MB.out.1, MB.out.2⟩, PT.out, P1.out, P2.out⟩⟩, B10.out⟩
    case gm =>
      intro x y w3 c5 hp hno hr2 hlt hg2 hs2 hen
      obtain ⟨d0, d1⟩ := x
      obtain ⟨t0, t1, e0, e1⟩ := y
      change (Instr.entry _).run _ _ = .ok (.tuple #[.agg #[.int .i64 d0, .int .i64 d1], .agg #[.int .i64 t0, .string t1, .int .i64 e0, .int .i64 e1]]) w3 at hen
      have B3 : Below w.heap.size w w3 := BQ.out.grown hg2 BQ.out.size (by simp)
      have M4 := Hd.mk (show MgMid w w3 mta T outs (⟨d0, d1⟩, ⟨t0, t1, e0, e1⟩) c5 ((w3.alloc (.cells #[.int .i64 d0, .int .i64 d1] 97)).alloc (.cells #[.int .i64 t0, .string t1, .int .i64 e0, .int .i64 e1] 99)) from
        ⟨below_alloc (below_alloc B3 _) _, (hr2.below (below_alloc (Below.refl _ _) _)).below (below_alloc (Below.refl _ _) _), (Below.heap_alloc _ _ _ (by simp)).trans (alloc_at _ _ _ rfl), alloc_at _ _ _ (by simp)⟩)
      have OKD := Hd.mk (HY.out.ok _ hp)
      have HP := Hd.mk hp
      clear hr2 hg2 hs2 hp hno RG BQ B3
      obtain ⟨W4, hW4⟩ : ∃ W4, W4 = (w3.alloc (.cells #[.int .i64 d0, .int .i64 d1] 97)).alloc (.cells #[.int .i64 t0, .string t1, .int .i64 e0, .int .i64 e1] 99) := ⟨_, rfl⟩
      rw [← hW4] at M4
      have H4 := Hd.mk hW4
      have hbk := HB.out.below M4.out.base
      have p0 : W4.cell? _ = some (.int .i64 d0) := cell_of M4.out.d 0 rfl
      have p1 : W4.cell? _ = some (.int .i64 d1) := cell_of M4.out.d 1 rfl
      have p2 := hbk.ct
      have BZ : Below W4.heap.size W4 (W4.alloc (.cells #[.int .i64 0, .string ⟨#[]⟩, .int .i64 0, .int .i64 0] 99)) := below_alloc (Below.refl _ _) _
      have p3 : (W4.alloc (.cells #[.int .i64 0, .string ⟨#[]⟩, .int .i64 0, .int .i64 0] 99)).cell? _ = some (.int .i64 d0) := cell_of (M4.out.below BZ).d 0 rfl
      have p4 : (W4.alloc (.cells #[.int .i64 0, .string ⟨#[]⟩, .int .i64 0, .int .i64 0] 99)).cell? _ = some (.int .i64 d1) := cell_of (M4.out.below BZ).d 1 rfl
      have p5 := (hbk.below BZ).ct
      have lk := (hbk.t.below (Below.drew (Below.refl _ _)) hbk.t.lt).look_ok OKD.out
      have lk2 := ((hbk.below BZ).t.below (Below.drew (Below.refl _ _)) (hbk.below BZ).t.lt).look_ok OKD.out
      generalize hq : mget T' (⟨d0, d1⟩ : S97) = g at lk lk2
      have HQ := Hd.mk hq
      clear hq hbk BZ
      have CF := Hd.mk (show cfl T' (⟨d0, d1⟩, ⟨t0, t1, e0, e1⟩) = (g.isSome && !decide (g.getD CT.z = (⟨t0, t1, ⟨e0, e1⟩⟩ : S99))) by unfold cfl; rw [show mget T' ((⟨d0, d1⟩, ⟨t0, t1, e0, e1⟩) : S97 × S99).1 = g from HQ.out]; cases g <;> rfl)
      generalize g.getD CT.z = z at lk lk2 CF
      obtain ⟨z0, z1, z2, z3⟩ := z
      change (Instr.lookup 119 _ (.agg #[.int .i64 d0, .int .i64 d1]) true).run _ _ = .ok (.tuple #[.agg #[.int .i64 z0, .string z1, .int .i64 z2, .int .i64 z3], .bool g.isSome]) _ at lk
      change (Instr.lookup 119 _ (.agg #[.int .i64 d0, .int .i64 d1]) true).run _ _ = .ok (.tuple #[.agg #[.int .i64 z0, .string z1, .int .i64 z2, .int .i64 z3], .bool g.isSome]) _ at lk2
      generalize hi : g.isSome = gi at lk lk2 CF
      clear hi HQ
      have ZB := Hd.mk (show ((W4.alloc (.cells #[.int .i64 z0, .string z1, .int .i64 z2, .int .i64 z3] 99)).drew).heap[W4.heap.size]? = some (Obj.cells #[.int .i64 z0, .string z1, .int .i64 z2, .int .i64 z3] 99 (0, 0)) from alloc_at _ _ _ rfl)
      have MF := Hd.mk ((M4.out.below (below_alloc (Below.refl _ _) (.cells #[.int .i64 z0, .string z1, .int .i64 z2, .int .i64 z3] 99))).below (Below.drew (Below.refl _ _)))
      have SZ := Hd.mk (show W4.heap.size = w3.heap.size + 2 by rw [hW4]; simp)
      go_wp2_with fail
      rw [← hW4]
      clear hW4
      go_cut [8, 9] from 23 to 31 (fun v8 v9 wc => ∃ b, v8 = .pointer (some ⟨b, 0, none⟩) ∧ v9 = .bool gi ∧ Hd (wc.heap[b]? = some (Obj.cells #[.int .i64 z0, .string z1, .int .i64 z2, .int .i64 z3] 99 (0, 0))) ∧ Hd (MgMid w w3 mta T outs (⟨d0, d1⟩, ⟨t0, t1, e0, e1⟩) c5 wc))
      case first =>
        go_region
        all_goals (go_wp2_with fail; go_meet; exact ⟨_, rfl, rfl, ZB, MF⟩)
      case rest =>
      clear p0 p1 p2 p3 p4 p5 lk lk2 MF M4 H4 ZB SZ
      obtain ⟨b, rfl, rfl, ZC, MD⟩ := hcut
      have c0 := cell_of ZC.out 0 rfl
      have c1 := cell_of ZC.out 1 rfl
      have c2 := cell_of ZC.out 2 rfl
      have c3 := cell_of ZC.out 3 rfl
      have p0 : wc.cell? _ = some (.int .i64 t0) := cell_of MD.out.t 0 rfl
      have p1 : wc.cell? _ = some (.string t1) := cell_of MD.out.t 1 rfl
      have p2 : wc.cell? _ = some (.int .i64 e0) := cell_of MD.out.t 2 rfl
      have p3 : wc.cell? _ = some (.int .i64 e1) := cell_of MD.out.t 3 rfl
      have CO2 := Hd.mk (show ∀ v, cfl T' (⟨d0, d1⟩, ⟨t0, t1, e0, e1⟩) = v → conB (outs ++ [((⟨d0, d1⟩ : S97), (⟨t0, t1, e0, e1⟩ : S99))]) T' = v by
        intro v hv
        have := CO.out
        unfold conB at this ⊢
        rw [List.any_append, this]
        simp [hv])
      have SUB := Hd.mk (show conB (outs ++ [((⟨d0, d1⟩ : S97), (⟨t0, t1, e0, e1⟩ : S99))]) T' = true → conB T T' = true by
        intro hv
        unfold conB at hv ⊢
        obtain ⟨q, hq, hc⟩ := List.any_eq_true.1 hv
        exact List.any_eq_true.2 ⟨q, MD.out.rg.sub q hq, hc⟩)
      have TE := Hd.mk (tag_eq z0 t0 z1 t1 z2 e0 z3 e1)
      cases gi with
      | false =>
        go_wp2_with fail
        go_roundg c5
        case measure => omega
        case rel => exact ⟨_, c5, Nat.le_refl _, ⟨MD.out.rg⟩, ⟨MD.out.base⟩, ⟨CO2.out false (by rw [CF.out]; rfl)⟩⟩
      | true =>
        cases hq : (z0 == t0 && (z1.toList == t1.toList && (z2 == e0 && (z3 == e1)))) with
        | true =>
          have TE2 := Hd.mk (TE.out.symm.trans hq)
          clear TE
          go_wp2_with fail
          go_roundg c5
          case measure => omega
          case rel => exact ⟨_, c5, Nat.le_refl _, ⟨MD.out.rg⟩, ⟨MD.out.base⟩, ⟨CO2.out false (by rw [CF.out, TE2.out]; rfl)⟩⟩
        | false =>
          have TE2 := Hd.mk (TE.out.symm.trans hq)
          clear TE
          go_wp2_with fail
          go_ret2
          exact MrgRes.con (SUB.out (CO2.out true (by rw [CF.out, TE2.out]; rfl))) MD.out.base
end Go.Proofs.YtmeaeapopfcmbaaGreat

namespace Go.Proofs.YtmeaeapopfcmbaaGreat
open Go.RowKit Go.Proofs.YtmeaeapopfcmbaaGreatW.PrintWords Go.Proofs.YtmeaeapopfcmbaaGreatW.PrintLast Go.Proofs.YtmeaeapopfcmbaaGreatW.PrintMore PP
set_option linter.unusedVariables false
set_option linter.unusedSimpArgs false
set_option maxHeartbeats 4000000
set_option maxRecDepth 100000
/-- The merge of two states' maps. -/
noncomputable def mrgS (A B : S28) : Int := mrgE A.f0 (tagsP A) (waysP A) B.f0 (tagsP B) (waysP B)
def aMerge (A B : S28) : S28 := mkS (mSeen A.f0 B.f0) (mT A.f0 (tagsP A) B.f0 (tagsP B)) (mrg cmpN (notesP A) (notesP B)) (mrg cmpI (waysP A) (waysP B))
theorem sget_mSeen {s s' : List Int} (h : s.length = 8) (h' : s'.length = 8) {o : Int} (h0 : 0 ≤ o) (h7 : o ≤ 7) : sget (mSeen s s') o = max (sget s o) (sget s' o) := by
  unfold sget mSeen
  rw [List.getD_eq_getElem?_getD, List.getD_eq_getElem?_getD, List.getD_eq_getElem?_getD, List.getElem?_zipWith, List.getElem?_eq_getElem (show o.toNat < s.length by omega), List.getElem?_eq_getElem (show o.toNat < s'.length by omega)]
  rfl
theorem mem_mT {s s' : List Int} {T T' : List (S97 × S99)} {p : S97 × S99} (h : p ∈ mT s T s' T') : p ∈ T ∨ p ∈ T' := by
  unfold mT at h
  rcases List.mem_append.1 h with h | h
  · exact .inl (List.mem_filter.1 h).1
  · exact .inr (List.mem_filter.1 h).1
theorem merge_kv {s : List Int} {T : List (S97 × S99)} {N : List (Int × S102)} {Y : List (S131 × Int)} {s' : List Int} {T' : List (S97 × S99)} {N' : List (Int × S102)} {Y' : List (S131 × Int)} (h : Kv s T N Y) (h' : Kv s' T' N' Y') : Kv (mSeen s s') (mT s T s' T') (mrg cmpN N N') (mrg cmpI Y Y') := by
  refine ⟨by unfold mSeen; rw [List.length_zipWith, h.sl, h'.sl]; rfl, fun x hx => ?_, fun p hp => ?_, mT_nodup h.tn h'.tn, fun p hp => (mrg_mem h.nn h'.nn hp).elim (h.nk p) (h'.nk p), nodup_mrg h.nn h'.nn, fun p hp => (mrg_mem h.yn h'.yn hp).elim (h.yk p) (h'.yk p), nodup_mrg h.yn h'.yn⟩
  · unfold mSeen at hx
    obtain ⟨i, hi, rfl⟩ := List.getElem_of_mem hx
    rw [List.length_zipWith] at hi
    rw [List.getElem_zipWith]
    have a := h.sr _ (List.getElem_mem (show i < s.length by omega))
    have b := h'.sr _ (List.getElem_mem (show i < s'.length by omega))
    omega
  · rcases mem_mT hp with hp | hp
    · refine ⟨(h.tk p hp).1, tag_grow (h.tk p hp).2 fun q q0 q7 => ?_⟩
      rw [sget_mSeen h.sl h'.sl q0 q7]
      omega
    · refine ⟨(h'.tk p hp).1, tag_grow (h'.tk p hp).2 fun q q0 q7 => ?_⟩
      rw [sget_mSeen h.sl h'.sl q0 q7]
      omega
theorem mrgE_0 {s : List Int} {T : List (S97 × S99)} {Y : List (S131 × Int)} {s' : List Int} {T' : List (S97 × S99)} {Y' : List (S131 × Int)} (h : mrgE s T Y s' T' Y' = 0) : conB T T' = false ∧ (mT s T s' T').length ≤ 128 ∧ Fund (mrg cmpI Y Y') := by
  unfold mrgE at h
  split at h
  · omega
  · rename_i h1
    split at h
    · omega
    · rename_i h2
      split at h
      · omega
      · rename_i h3
        exact ⟨by simpa using h1, by omega, fundB_iff.1 (by simpa using h3)⟩
theorem aMerge_rt {A B : S28} (hA : Rt A) (hB : Rt B) (h : mrgS A B = 0) : Rt (aMerge A B) :=
  (merge_kv hA.kv hB.kv).rt (mrgE_0 h).2.1 (mrgE_0 h).2.2
noncomputable def syncE (A B : S28) : Int := if rtB B = true then mrgS A B else 2
open Classical in
noncomputable def aSync (A B : S28) : S28 := if syncE A B = 0 then aMerge A B else A
theorem syncE_0 {A B : S28} (h : syncE A B = 0) : Rt B ∧ mrgS A B = 0 := by
  unfold syncE at h
  split at h
  · rename_i h1
    exact ⟨rtB_iff.1 h1, h⟩
  · omega
theorem aSync_rt {A B : S28} (hA : Rt A) : Rt (aSync A B) := by
  unfold aSync
  split
  · rename_i h
    exact aMerge_rt hA (syncE_0 h).1 (syncE_0 h).2
  · exact hA
/-- A state merged at A, B: what the know holds. -/
theorem merged_rep {w : World} {k mt mn mw : Nat} {A B : S28} (hA : Rt A) (hB : Rt B) {T2 : List (S97 × S99)} {N2 : List (Int × S102)} {Y2 : List (S131 × Int)} (hk : KnowAt w k mt mn mw (mSeen A.f0 B.f0) T2 N2 Y2) (hT : T2.Perm (mT A.f0 (tagsP A) B.f0 (tagsP B))) (hN : N2.Perm (mrg cmpN (notesP A) (notesP B))) (hY : Y2.Perm (mrg cmpI (waysP A) (waysP B))) :
    Kv (mSeen A.f0 B.f0) T2 N2 Y2 ∧ mkS (mSeen A.f0 B.f0) T2 N2 Y2 = aMerge A B ∧ KnowAt w k mt mn mw (aMerge A B).f0 (tagsP (aMerge A B)) (notesP (aMerge A B)) (waysP (aMerge A B)) := by
  have kv := merge_kv hA.kv hB.kv
  refine ⟨kv.perm hT hN hY, mkS_perm kv hT hN hY, hk.len, hk.blk, hk.t.perm (hT.trans kv.tags.symm), hk.n.perm (hN.trans kv.notes.symm), hk.y.perm (hY.trans ways_mk.symm), hk.tn, hk.tw, hk.nw⟩
theorem merge_st (w : World) (ka mta mna mwa kb mtb mnb mwb : Nat) (A B : S28) (hA : Rt A) (hB : Rt B) (ha : KnowAt w ka mta mna mwa A.f0 (tagsP A) (notesP A) (waysP A)) (hb : KnowAt w kb mtb mnb mwb B.f0 (tagsP B) (notesP B) (waysP B)) :
    Calls Tryz.prog 68 #[.pointer (some ⟨ka, 0, none⟩), .pointer (some ⟨kb, 0, none⟩)] w fun e w' => ∃ p : Option Addr, e = .returned (.tuple #[.pointer p, .int .i64 (mrgS A B)]) ∧ (mrgS A B ≠ 0 → p = none) ∧ (mrgS A B = 0 → ∃ k mt mn mw, p = some ⟨k, 0, none⟩ ∧ KnowNew w.heap.size w' k mt mn mw (aMerge A B).f0 (tagsP (aMerge A B)) (notesP (aMerge A B)) (waysP (aMerge A B))) ∧ Below w.heap.size w w' :=
  (merge_run w ka mta mna mwa kb mtb mnb mwb _ _ _ _ _ _ _ _ ha hb hA.kv hB.kv ⟨by rw [tagsP_len]; exact hA.tl, by rw [tagsP_len]; exact hB.tl⟩).mono fun e w' h => by
    obtain ⟨⟨p, h1, h2, h3⟩, h4⟩ := h
    refine ⟨p, h1, h2, fun h0 => ?_, h4⟩
    obtain ⟨k, mt, mn, mw, T2, N2, Y2, g1, g2, g3, g4, g5⟩ := h3 h0
    exact ⟨k, mt, mn, mw, g1, (merged_rep hA hB g2.at_ g3 g4 g5).2.2, g2.k_, g2.t_, g2.n_, g2.w_⟩
theorem sync_no (w : World) (p : Option Addr) (h : NoRep w p) (A0 A1 A2 A3 A4 : Option Addr) (n0 n1 n2 n3 n4 c0 c1 c2 c3 c4 : Nat) :
    Calls Tryz.prog 34 #[.pointer p, .agg #[.slice A0 n0 c0, .slice A1 n1 c1, .slice A2 n2 c2, .slice A3 n3 c3, .slice A4 n4 c4]] w fun e w' => e = .returned (.int .i64 1) ∧ Below w.heap.size w w' := by
  have BB := Hd.mk (show Below w.heap.size w (w.alloc (.cells #[.slice A0 n0 c0, .slice A1 n1 c1, .slice A2 n2 c2, .slice A3 n3 c3, .slice A4 n4 c4] 28)) from below_alloc (Below.refl _ _) _)
  have M := Hd.mk (made_no _ p (h.below BB.out))
  clear h
  go_enter Tryz.func34, Tryz.ntmps34
  go_wp2_with fail
  refine M.out.mono ?_
  rintro e w1 ⟨rfl, rfl⟩
  go_wp2_with fail
  go_ret
  exact ⟨rfl, BB.out⟩
/-- What Sync answers and leaves. -/
structure SyncRes (w : World) (r k mt mn mw : Nat) (o : Int) (A B : S28) (e : Ending) (w' : World) : Prop where
  ans : e = .returned (.int .i64 (syncE A B))
  rep : ∃ k' mt' mn' mw', Rep w' r k' mt' mn' mw' o (aSync A B) ∧ ((k' = k ∧ mt' = mt ∧ mn' = mn ∧ mw' = mw) ∨ (w.heap.size ≤ k' ∧ w.heap.size ≤ mt' ∧ w.heap.size ≤ mn' ∧ w.heap.size ≤ mw'))
  chg : Chg w.heap.size (· = r) w w'
theorem sync_rep (w : World) (r k mt mn mw : Nat) (o : Int) (S : S28) (h : Rep w r k mt mn mw o S) (hS : Rt S) (A0 A1 A2 A3 A4 : Option Addr) (c0 c1 c2 c3 c4 : Nat) (S2 : S28) (hc : StC w A0 c0 A1 c1 A2 c2 A3 c3 A4 c4 S2) (hok : StOk S2) :
    Calls Tryz.prog 34 #[.pointer (some ⟨r, 0, none⟩), stV S2 A0 c0 A1 c1 A2 c2 A3 c3 A4 c4] w fun e w' => SyncRes w r k mt mn mw o S S2 e w' := by
  have BB := Hd.mk (show Below w.heap.size w (w.alloc (.cells #[.slice A0 S2.f0.length c0, .slice A1 S2.f1.length c1, .slice A2 S2.f2.length c2, .slice A3 S2.f3.length c3, .slice A4 S2.f4.length c4] 28)) from below_alloc (Below.refl _ _) _)
  have HR := Hd.mk (read_rt _ A0 A1 A2 A3 A4 c0 c1 c2 c3 c4 S2 (hc.below BB.out) hok)
  have M := Hd.mk (made_yes _ r k o (h.blk.below BB.out))
  have HH := Hd.mk h
  have HS := Hd.mk hS
  have EE := Hd.mk (show syncE S S2 = if rtB S2 = true then mrgS S S2 else 2 from rfl)
  have RT := Hd.mk (show rtB S2 = true → Rt S2 from rtB_iff.1)
  have NE := Hd.mk (show syncE S S2 ≠ 0 → aSync S S2 = S from fun h => by unfold aSync; rw [if_neg h])
  have EQ := Hd.mk (show syncE S S2 = 0 → aSync S S2 = aMerge S S2 from fun h => by unfold aSync; rw [if_pos h])
  clear h hc hok hS
  generalize rtB S2 = rb at *
  unfold stV at *
  go_enter Tryz.func34, Tryz.ntmps34
  go_wp2_with fail
  refine M.out.mono ?_
  rintro e w1 ⟨rfl, rfl⟩
  go_wp2_with fail
  refine HR.out.mono ?_
  rintro e w2 ⟨p, rfl, hk, hb⟩
  have K2 := Hd.mk hk
  have B2 := Hd.mk (BB.out.trans (hb.mono BB.out.size))
  clear hk hb HR M
  cases rb with
  | false =>
    have E2 := Hd.mk (show syncE S S2 = 2 by rw [EE.out]; rfl)
    go_wp2_with fail
    go_ret
    exact ⟨by rw [E2.out]; rfl, ⟨k, mt, mn, mw, by rw [NE.out (by rw [E2.out]; decide)]; exact HH.out.below B2.out, .inl ⟨rfl, rfl, rfl, rfl⟩⟩, .of B2.out⟩
  | true =>
    have R2 := Hd.mk (RT.out rfl)
    obtain ⟨kb, mtb, mnb, mwb, rfl, hn⟩ := K2.out rfl
    have MS := Hd.mk (merge_st w2 k mt mn mw kb mtb mnb mwb S S2 HS.out R2.out (HH.out.below B2.out).kn hn.at_)
    have E2 := Hd.mk (show syncE S S2 = mrgS S S2 by rw [EE.out]; rfl)
    have q1 := (HH.out.below B2.out).blk.k
    clear hn K2 EE
    generalize hv : mrgS S S2 = v at MS E2
    clear hv
    go_wp2_with fail
    refine MS.out.mono ?_
    rintro e w3 ⟨p3, rfl, hp0, hp1, hb3⟩
    have B3 := Hd.mk (B2.out.trans (hb3.mono B2.out.size))
    have P0 := Hd.mk hp0
    have P1 := Hd.mk hp1
    clear hb3 hp0 hp1 MS q1
    by_cases hv : v = 0
    · obtain ⟨k3, mt3, mn3, mw3, rfl, hn3⟩ := P1.out hv
      have N3 := Hd.mk hn3
      subst hv
      clear hn3
      have R3 := HH.out.blk.below B3.out
      have q1 := R3.k
      have f1 := frozen_of R3 1 none
      have RB := Hd.mk (heap_setCell_same w3 r 1 _ 86 (.pointer (some ⟨k3, 0, none⟩)) R3)
      clear R3
      have CC := Hd.mk (show Chg w.heap.size (· = r) w (w3.setCell ⟨r, 1, none⟩ (.pointer (some ⟨k3, 0, none⟩))) from Chg.setCell (D := (· = r)) (Chg.of B3.out) (p := ⟨r, 1, none⟩) (fun _ => rfl) _)
      have RR := Hd.mk (show Rep (w3.setCell ⟨r, 1, none⟩ (.pointer (some ⟨k3, 0, none⟩))) r k3 mt3 mn3 mw3 o (aMerge S S2) from ⟨RB.out, N3.out.at_.at fun i hi => Below.heap_setCell _ _ _ _ (by
        have h1 := HH.out.blk.lt
        have h2 := N3.out.k_
        have h3 := N3.out.t_
        have h4 := N3.out.n_
        have h5 := N3.out.w_
        have h6 := B2.out.size
        show i ≠ r
        rcases hi with rfl | rfl | rfl | rfl <;> omega)⟩)
      have NW := Hd.mk (show w.heap.size ≤ k3 ∧ w.heap.size ≤ mt3 ∧ w.heap.size ≤ mn3 ∧ w.heap.size ≤ mw3 from ⟨Nat.le_trans B2.out.size N3.out.k_, Nat.le_trans B2.out.size N3.out.t_, Nat.le_trans B2.out.size N3.out.n_, Nat.le_trans B2.out.size N3.out.w_⟩)
      clear N3 RB
      go_wp2_with fail
      go_ret
      exact ⟨by rw [E2.out]; rfl, ⟨k3, mt3, mn3, mw3, by rw [EQ.out E2.out]; exact RR.out, .inr NW.out⟩, CC.out⟩
    · have VN := Hd.mk hv
      have hvb : (v == 0) = false := by simp [hv]
      have hvd : decide (v = 0) = false := by simp [hv]
      obtain rfl := P0.out hv
      clear hv
      go_wp2_with fail
      go_ret
      exact ⟨by rw [E2.out]; rfl, ⟨k, mt, mn, mw, by rw [NE.out (by rw [E2.out]; exact VN.out)]; exact HH.out.below B3.out, .inl ⟨rfl, rfl, rfl, rfl⟩⟩, .of B3.out⟩
end Go.Proofs.YtmeaeapopfcmbaaGreat

namespace Go.Proofs.YtmeaeapopfcmbaaGreat
open Go.RowKit Go.Proofs.YtmeaeapopfcmbaaGreatW.PrintWords Go.Proofs.YtmeaeapopfcmbaaGreatW.PrintLast Go.Proofs.YtmeaeapopfcmbaaGreatW.PrintMore PP
set_option linter.unusedVariables false
set_option linter.unusedSimpArgs false
set_option maxHeartbeats 4000000
set_option maxRecDepth 100000
def srtS (zs : List (List UInt8)) : List (List UInt8) := zs.mergeSort fun x y => decide (x ≤ y)
theorem srtS_len (zs : List (List UInt8)) : (srtS zs).length = zs.length := List.length_mergeSort zs
def toB (l : List UInt8) : ByteArray := ⟨l.toArray⟩
theorem bel_grow {B : Nat} {a w : World} (h : Below B a w) (hB : B ≤ w.heap.size) (os : Array Obj) : Below B a (Go.Sort.grow w os) :=
  ⟨h.os, h.tape, h.output, by rw [show (Go.Sort.grow w os).heap = w.heap ++ os from rfl, Array.size_append]; have := h.size; omega, fun k hk => by
    rw [← h.block k hk, show (Go.Sort.grow w os).heap = w.heap ++ os from rfl, Array.getElem?_append_left (by omega)]⟩
theorem own_grow {w : World} {base e : Nat} {v : Value} {n : Nat} {xs : List Value} (h : w.ownsRow base e 1 v n xs) (os : Array Obj) : (Go.Sort.grow w os).ownsRow base e 1 v n xs := by
  refine ⟨h.1, h.2.imp id ?_⟩
  rintro ⟨g, cap, cur, e0, hb, hg, r⟩
  refine ⟨g, cap, cur, e0, hb, ?_, r⟩
  have hlt := (Array.getElem?_eq_some_iff.1 hg).1
  rw [show (Go.Sort.grow w os).heap = w.heap ++ os from rfl, Array.getElem?_append_left hlt]
  exact hg
theorem encs_S (zs : List (List UInt8)) : encs Value.string (zs.map toB) = zs.map encStr := by
  simp only [encs, List.map_map]
  rfl
theorem R_S {w : World} {base : Nat} {ok : Nat → Prop} {v : Value} {zs : List (List UInt8)} (h : w.ownsRow base 9 1 v zs.length (zs.map encStr)) (hok : ∀ k, v.ownBlock = some k → ok k) : Kd.R Kd.string 9 w base ok v (zs.map toB) :=
  Kd.R_of_own (enc := Value.string) (by rw [List.length_map, encs_S]; exact h) hok
theorem own_S {w : World} {base : Nat} {ok : Nat → Prop} {v : Value} {zs : List (List UInt8)} (h : Kd.R Kd.string 9 w base ok v (zs.map toB)) : w.ownsRow base 9 1 v zs.length (zs.map encStr) := by
  have := Kd.own_of_R h
  rw [List.length_map, encs_S] at this
  exact this
theorem sortS_own {w : World} {base : Nat} {ok : Nat → Prop} {v : Value} {zs : List (List UInt8)} (h : Kd.R Kd.string 9 w base ok v (zs.map toB)) (hb : base ≤ w.heap.size) (hz : zs.length ≤ 1000000) :
    Calls Tryz.prog 90 #[v] w fun e w' => e = .returned (.tuple #[]) ∧ Kd.R Kd.string 9 w' base ok v ((srtS zs).map toB) ∧ (∀ w0, Below base w0 w → Below base w0 w') ∧ base ≤ w'.heap.size := by
  obtain ⟨A, c, hv⟩ := Kd.R_slice h
  rw [List.length_map] at hv
  subst hv
  by_cases h0 : zs.length = 0
  · have e0 : zs = [] := List.length_eq_zero_iff.1 h0
    subst e0
    have e1 : srtS [] = [] := List.length_eq_zero_iff.1 (by rw [srtS_len]; rfl)
    have hc := Any.slices_Sort_string_none Tryz.sortS A c w
    change Calls Tryz.prog 90 _ _ _ at hc
    refine hc.mono ?_
    rintro e w' ⟨rfl, rfl⟩
    exact ⟨rfl, by rw [e1]; exact h, fun _ hh => hh, hb⟩
  · have ho := own_S h
    obtain ⟨g, cap, e2, hbg, hlt, hnc, _, _, hH⟩ := Go.Lib.holds_of_ownsRow ho (fun hh => by injection hh with _ h2 _; exact h0 h2)
    injection e2 with e3 _ e4
    subst e3; subst e4
    have hc := Any.slices_Sort_string Tryz.sortS g 0 c zs w hH hlt (by omega)
    change Calls Tryz.prog 90 _ _ _ at hc
    refine hc.mono ?_
    rintro e w' ⟨rfl, n, os, rfl⟩
    have ho2 := Go.Lib.ownsRow_putRow (q := n) (k := zs.length) (ys := srtS zs) ho (srtS_len zs) (Nat.le_refl _)
    rw [← srtS_len zs, List.take_length, srtS_len] at ho2
    have hb2 : ∀ w0, Below base w0 w → Below base w0 (Go.Sort.putRow encStr (Sort.ahead w n) g 0 (srtS zs).toArray) := fun w0 hh => Go.Lib.below_putRow hh hbg
    have hs : base ≤ (Go.Sort.putRow encStr (Sort.ahead w n) g 0 (srtS zs).toArray).heap.size := Nat.le_trans hb (hb2 w (Below.refl _ _)).size
    refine ⟨rfl, R_S (by rw [srtS_len]; exact own_grow ho2 os) (fun k hk => h.1 k hk), fun w0 hh => bel_grow (hb2 w0 hh) hs os, ?_⟩
    exact Nat.le_trans hs (bel_grow (Below.refl base _) hs os).size
theorem compS_own {w : World} {base : Nat} {ok : Nat → Prop} {v : Value} {zs : List (List UInt8)} (h : Kd.R Kd.string 9 w base ok v (zs.map toB)) (hb : base ≤ w.heap.size) (hz : zs.length ≤ 1000000) :
    Calls Tryz.prog 91 #[v] w fun e w' => ∃ v', e = .returned v' ∧ Kd.R Kd.string 9 w' base ok v' ((Go.Lib.compact zs).map toB) ∧ (∀ w0, Below base w0 w → Below base w0 w') ∧ base ≤ w'.heap.size := by
  obtain ⟨A, c, hv⟩ := Kd.R_slice h
  rw [List.length_map] at hv
  subst hv
  by_cases h0 : zs.length = 0
  · have e0 : zs = [] := List.length_eq_zero_iff.1 h0
    subst e0
    have hc := Any.slices_Compact_string_empty Tryz.compS A c w
    change Calls Tryz.prog 91 _ _ _ at hc
    refine hc.mono ?_
    rintro e w' ⟨rfl, rfl⟩
    exact ⟨_, rfl, h, fun _ hh => hh, hb⟩
  · have ho := own_S h
    obtain ⟨g, cap, e2, hbg, hlt, hnc, _, _, hH⟩ := Go.Lib.holds_of_ownsRow ho (fun hh => by injection hh with _ h2 _; exact h0 h2)
    injection e2 with e3 _ e4
    subst e3; subst e4
    have hle := Go.Lib.compact_length_le zs
    have hc := Any.slices_Compact_string Tryz.compS g 0 c zs w hH (by omega) hnc
    change Calls Tryz.prog 91 _ _ _ at hc
    refine hc.mono ?_
    rintro e w' ⟨rfl, q, rfl⟩
    have ho2 := Go.Lib.ownsRow_putRow (q := q) (k := (Go.Lib.compact zs).length) (ys := Go.Lib.compact zs ++ List.replicate (zs.length - (Go.Lib.compact zs).length) []) ho (by simp; omega) hle
    rw [List.take_left] at ho2
    have hb2 : ∀ w0, Below base w0 w → Below base w0 (Go.Sort.putRow encStr (Sort.ahead w q) g 0 (Go.Lib.compact zs ++ List.replicate (zs.length - (Go.Lib.compact zs).length) []).toArray) := fun w0 hh => Go.Lib.below_putRow hh hbg
    exact ⟨_, rfl, R_S ho2 (fun k hk => h.1 k hk), hb2, Nat.le_trans hb (hb2 w (Below.refl _ _)).size⟩
/-- The names of a stone's tags. -/
def namesOf (st : Int) (T : List (S97 × S99)) : List (List UInt8) := (T.filter fun p => decide (p.2.f0 = st)).map fun p => p.2.f1.data.toList
def hasL (st : Int) (T : List (S97 × S99)) : List (List UInt8) := Go.Lib.compact (srtS (namesOf st T))
theorem namesOf_snoc (st : Int) (T : List (S97 × S99)) (p : S97 × S99) : namesOf st (T ++ [p]) = namesOf st T ++ (if p.2.f0 = st then [p.2.f1.data.toList] else []) := by
  unfold namesOf
  rw [List.filter_append, List.map_append]
  congr 1
  rw [List.filter_cons]
  by_cases h : p.2.f0 = st
  · simp [h]
  · simp [h]
theorem namesOf_len (st : Int) (T : List (S97 × S99)) : (namesOf st T).length ≤ T.length := by
  unfold namesOf
  rw [List.length_map]
  exact List.length_filter_le _ _
theorem srtS_perm {a b : List (List UInt8)} (h : a.Perm b) : srtS a = srtS b := by
  unfold srtS
  refine List.Perm.eq_of_pairwise (le := fun x y => decide (x ≤ y) = true) ?_ ?_ ?_ ((List.mergeSort_perm a _).trans (h.trans (List.mergeSort_perm b _).symm))
  · intro x y _ _ h1 h2
    exact Std.le_antisymm (by simpa using h1) (by simpa using h2)
  · exact List.pairwise_mergeSort (fun x y z h1 h2 => by simp at *; exact Std.le_trans h1 h2) (fun x y => by simp; exact Std.le_total) a
  · exact List.pairwise_mergeSort (fun x y z h1 h2 => by simp at *; exact Std.le_trans h1 h2) (fun x y => by simp; exact Std.le_total) b
theorem hasL_perm (st : Int) {T T' : List (S97 × S99)} (h : T.Perm T') : hasL st T = hasL st T' := by
  unfold hasL
  rw [srtS_perm (show (namesOf st T).Perm (namesOf st T') from (h.filter _).map _)]
theorem info9 : (Tryz.prog.info? 9).map (fun i => (i.zero, i.size, i.bytes)) = some (some (.string ⟨#[]⟩), 1, 16) := by kernel_rfl
theorem toB_toList (b : ByteArray) : toB b.data.toList = b := by cases b; rfl
/-- What Has lists. -/
def hasV (S : S28) (st : Int) : List ByteArray := if inR 0 63 st = true then (hasL st (tagsP S)).map toB else []
theorem has_rep (w : World) (r k mt mn mw : Nat) (o : Int) (S : S28) (h : Rep w r k mt mn mw o S) (hl : (tagsP S).length ≤ 1000000) (st : Int) :
    Calls Tryz.prog 45 #[.pointer (some ⟨r, 0, none⟩), .int .i64 st] w fun e w' => ∃ v, e = .returned (.tuple #[v, .int .i64 (errB (inR 0 63 st))]) ∧ Kd.R Kd.string 9 w' w.heap.size (fun _ => True) v (hasV S st) ∧ Below w.heap.size w w' := by
  have U := Hd.mk (ofs st 0 63 w)
  have K := Hd.mk (fun W (hb : Below w.heap.size w W) b => checked_yes W r k o (h.blk.below hb) b)
  have HH := Hd.mk h
  have LT := Hd.mk h.kn.t.lt
  have HL := Hd.mk hl
  have VV := Hd.mk (show hasV S st = if inR 0 63 st = true then (hasL st (tagsP S)).map toB else [] from rfl)
  clear h hl
  generalize hasV S st = hv at *
  go_enter Tryz.func45, Tryz.ntmps45
  go_wp2_with fail
  refine U.out.mono ?_
  rintro e w1 ⟨rfl, hb1⟩
  have B1 := Hd.mk hb1
  clear hb1
  go_wp2_with fail
  refine (K.out _ B1.out _).mono ?_
  rintro e w2 ⟨rfl, rfl⟩
  cases hq : inR 0 63 st with
  | false =>
    have HQ := Hd.mk hq
    clear hq
    go_wp2_with fail
    go_ret2
    exact ⟨_, by rw [HQ.out]; rfl, by rw [VV.out, HQ.out]; exact Kd.R_nil _ _ _ _ _, B1.out⟩
  | true =>
    have HQ := Hd.mk hq
    clear hq
    have H1 := Hd.mk (HH.out.below B1.out)
    have q0 := H1.out.blk.k
    have q1 := H1.out.kn.ct
    have HT := Hd.mk H1.out.kn.t
    have SZ := Hd.mk B1.out.size
    generalize tagsP S = T at *
    go_wp2_with (at_range; refine wpL_range w2 CT rfl _ rfl mt T rfl HT.out ?_; intro w2' hr hg hs; have RG := Hd.mk hr; have BW := Hd.mk (B1.out.grown hg B1.out.size (by simp)); clear hr hg hs)
    generalize w2.heap.size = r1 at *
    go_frame
    go_loopg [7] T.length (fun gg v7 wq => ∃ (outs : List (S97 × S99)) (cn : Nat), cn ≤ gg ∧ Hd (Rng CT wq mt r1 T outs cn) ∧ Hd (Below w.heap.size w wq) ∧ Hd (Kd.R Kd.string 9 wq w.heap.size (fun _ => True) v7 ((namesOf st outs).map toB)))
    case atStart => exact ⟨[], T.length, Nat.le_refl _, RG, BW, ⟨Kd.R_nil _ _ _ _ _⟩⟩
    case round =>
      clear RG BW q0 q1 H1
      obtain ⟨outs, cn, hg, RG, BQ, RO⟩ := hrel
      go_wp2_with (at_next; refine wpL_next _ CT rfl _ rfl mt r1 T outs cn rfl RG.out ?gd ?gm)
      case gd =>
        intro hd
        have HE := Hd.mk (show hv = (Go.Lib.compact (srtS (namesOf st outs))).map toB by rw [VV.out, HQ.out, if_pos rfl, ← hasL_perm st hd]; rfl)
        have LN := Hd.mk (show (namesOf st outs).length ≤ 1000000 by have h1 := namesOf_len st outs; have h2 := hd.length_eq; have h3 := HL.out; omega)
        clear hd
        go_wp2_with fail
        refine (sortS_own RO.out BQ.out.size LN.out).mono ?_
        rintro e w5 ⟨rfl, hr5, hb5, hs5⟩
        have R5 := Hd.mk hr5
        have B5 := Hd.mk (hb5 _ BQ.out)
        have S5 := Hd.mk hs5
        clear hr5 hb5 hs5
        go_wp2_with fail
        refine (compS_own R5.out S5.out (by rw [srtS_len]; exact LN.out)).mono ?_
        rintro e w6 ⟨v6, rfl, hr6, hb6, _⟩
        have R6 := Hd.mk hr6
        have B6 := Hd.mk (hb6 _ B5.out)
        clear hr6 hb6
        go_wp2_with fail
        go_ret2
        exact ⟨_, by rw [HQ.out]; rfl, by rw [HE.out]; exact R6.out, B6.out⟩
      case gm =>
        intro x y w3 c5 hp hno hr2 hlt hg2 hs2 hen
        obtain ⟨d0, d1⟩ := x
        obtain ⟨t0, t1, e0, e1⟩ := y
        change (Instr.entry _).run _ _ = .ok (.tuple #[.agg #[.int .i64 d0, .int .i64 d1], .agg #[.int .i64 t0, .string t1, .int .i64 e0, .int .i64 e1]]) w3 at hen
        have BZ : Below w.heap.size w w3 := BQ.out.grown hg2 BQ.out.size (fun k e => by injection e with e; have := SZ.out; omega)
        have BA := Hd.mk (show Below w.heap.size w (w3.alloc (.cells #[.int .i64 t0, .string t1, .int .i64 e0, .int .i64 e1] 99)) from below_alloc BZ _)
        have R3 := Hd.mk (hr2.below (below_alloc (Below.refl _ _) (.cells #[.int .i64 t0, .string t1, .int .i64 e0, .int .i64 e1] 99)))
        have O2 : Kd.R Kd.string 9 w3 w.heap.size (fun _ => True) _ ((namesOf st outs).map toB) := R_ty RO.out rfl (fun k cells hc => hg2.block k (Array.getElem?_eq_some_iff.1 hc).1 (fun e => by injection e with e; subst e; exact RG.out.notcells hc))
        have O3 := Hd.mk (Kd.R_below O2 (below_alloc (Below.refl _ _) (.cells #[.int .i64 t0, .string t1, .int .i64 e0, .int .i64 e1] 99)))
        have LB := Hd.mk (show (namesOf st outs).length ≤ 1000000 from Nat.le_trans (namesOf_len _ _) (Nat.le_trans (sub_len hr2.nodup hr2.sub |> fun h => by simp at h; omega) HL.out))
        have B4 := Hd.mk (alloc_at w3 (.cells #[.int .i64 t0, .string t1, .int .i64 e0, .int .i64 e1] 99) _ rfl)
        have p0 := cell_of B4.out 0 rfl
        have p1 := cell_of B4.out 1 rfl
        have SN := Hd.mk (namesOf_snoc st outs (⟨d0, d1⟩, ⟨t0, t1, e0, e1⟩))
        obtain ⟨A7, c7, e7⟩ := Kd.R_slice RO.out
        subst e7
        clear hr2 hg2 hs2 hp hno BZ O2 RG RO BQ B4
        by_cases g0 : t0 = st
        · have f0 : (t0 == st) = true := by simp [g0]
          have SE := Hd.mk (show (namesOf st (outs ++ [((⟨d0, d1⟩ : S97), (⟨t0, t1, e0, e1⟩ : S99))])).map toB = (namesOf st outs).map toB ++ [t1] by rw [SN.out, if_pos g0, List.map_append]; simp [toB_toList])
          clear g0 SN
          go_wp2_with (((with_reducible refine gate_builtin (b := .append) (xs := #[.tmp 33, .tmp 36]) rfl ?_); at_builtin; refine Kd.R_append Kd.string (w0 := w) (W := w3.alloc (.cells #[.int .i64 t0, .string t1, .int .i64 e0, .int .i64 e1] 99)) w.heap.size rfl (.tmp 33) (.tmp 36) 87 9 (.string ⟨#[]⟩) 16 rfl Tryz.underlying87 info9 rfl (by decide) (by omega) _ _ t1 [.string t1] (fun _ => True) (fun _ => False) rfl (by simp; rfl) ?aP (fun _ hk => hk.elim) (fun _ _ => trivial) O3.out BA.out ?aS ?aL ?_; (case aP => rfl); (case aS => exact BA.out.size); (case aL => rw [List.length_map]; have := LB.out; omega); intro v2 w6 ho hb hg2 hat; have HO6 := Hd.mk ho; have HB6 := Hd.mk hb; have R6 := Hd.mk (R3.out.at (hg2.block mt R3.out.map.lt (R_ne_map R3.out.map O3.out)) (hg2.block _ R3.out.lt (R_ne_rng R3.out O3.out))); clear ho hb hg2 hat))
          go_roundg c5
          case measure => omega
          case rel => exact ⟨_, c5, Nat.le_refl _, R6, HB6, by rw [SE.out]; exact HO6⟩
        · have f0 : (t0 == st) = false := by simp [g0]
          have SE := Hd.mk (show namesOf st (outs ++ [((⟨d0, d1⟩ : S97), (⟨t0, t1, e0, e1⟩ : S99))]) = namesOf st outs by rw [SN.out, if_neg g0, List.append_nil])
          clear g0 SN
          go_wp2_with fail
          go_roundg c5
          case measure => omega
          case rel => exact ⟨_, c5, Nat.le_refl _, R3, BA, by rw [SE.out]; exact O3⟩
end Go.Proofs.YtmeaeapopfcmbaaGreat

namespace Go.Proofs.YtmeaeapopfcmbaaGreat
open Go.RowKit Go.Proofs.YtmeaeapopfcmbaaGreatW.PrintWords Go.Proofs.YtmeaeapopfcmbaaGreatW.PrintLast Go.Proofs.YtmeaeapopfcmbaaGreatW.PrintMore PP
set_option linter.unusedVariables false
set_option linter.unusedSimpArgs false
set_option maxHeartbeats 4000000
set_option maxRecDepth 100000
theorem put_no (w : World) (p : Option Addr) (h : NoRep w p) (st : Int) (nm : ByteArray) : Calls Tryz.prog 26 #[.pointer p, .int .i64 st, .string nm] w fun e w' => e = .returned (.int .i64 1) ∧ Below w.heap.size w w' := by
  have U := Hd.mk (ofs st 0 63 w)
  have NA := Hd.mk (fun W => name_run nm W)
  have K := Hd.mk (fun W (hb : Below w.heap.size w W) b => checked_no W p (h.below hb) b)
  clear h
  go_enter Tryz.func26, Tryz.ntmps26
  go_wp2_with fail
  refine U.out.mono ?_
  rintro e w1 ⟨rfl, hb1⟩
  have B1 := Hd.mk hb1
  clear hb1
  cases g1 : inR 0 63 st with
  | false =>
    clear g1
    go_wp2_with fail
    refine (K.out _ B1.out _).mono ?_
    rintro e w2 ⟨rfl, rfl⟩
    go_wp2_with fail
    go_ret
    exact ⟨rfl, B1.out⟩
  | true =>
    clear g1
    go_wp2_with fail
    refine (NA.out _).mono ?_
    rintro e w2 ⟨rfl, hb2⟩
    have B2 := Hd.mk (B1.out.trans (hb2.mono B1.out.size))
    clear hb2
    go_wp2_with fail
    refine (K.out _ B2.out _).mono ?_
    rintro e w3 ⟨rfl, rfl⟩
    go_wp2_with fail
    go_ret
    exact ⟨rfl, B2.out⟩
theorem drop_no (w : World) (p : Option Addr) (h : NoRep w p) (st : Int) (nm : ByteArray) : Calls Tryz.prog 27 #[.pointer p, .int .i64 st, .string nm] w fun e w' => e = .returned (.tuple #[.int .i64 0, .int .i64 1]) ∧ Below w.heap.size w w' := by
  have U := Hd.mk (ofs st 0 63 w)
  have NA := Hd.mk (fun W => name_run nm W)
  have K := Hd.mk (fun W (hb : Below w.heap.size w W) b => checked_no W p (h.below hb) b)
  clear h
  go_enter Tryz.func27, Tryz.ntmps27
  go_wp2_with fail
  refine U.out.mono ?_
  rintro e w1 ⟨rfl, hb1⟩
  have B1 := Hd.mk hb1
  clear hb1
  cases g1 : inR 0 63 st with
  | false =>
    clear g1
    go_wp2_with fail
    refine (K.out _ B1.out _).mono ?_
    rintro e w2 ⟨rfl, rfl⟩
    go_wp2_with fail
    go_ret2
    exact ⟨rfl, B1.out⟩
  | true =>
    clear g1
    go_wp2_with fail
    refine (NA.out _).mono ?_
    rintro e w2 ⟨rfl, hb2⟩
    have B2 := Hd.mk (B1.out.trans (hb2.mono B1.out.size))
    clear hb2
    go_wp2_with fail
    refine (K.out _ B2.out _).mono ?_
    rintro e w3 ⟨rfl, rfl⟩
    go_wp2_with fail
    go_ret2
    exact ⟨rfl, B2.out⟩
theorem has_no (w : World) (p : Option Addr) (h : NoRep w p) (st : Int) : Calls Tryz.prog 45 #[.pointer p, .int .i64 st] w fun e w' => e = .returned (.tuple #[.slice none 0 0, .int .i64 1]) ∧ Below w.heap.size w w' := by
  have U := Hd.mk (ofs st 0 63 w)
  have K := Hd.mk (fun W (hb : Below w.heap.size w W) b => checked_no W p (h.below hb) b)
  clear h
  go_enter Tryz.func45, Tryz.ntmps45
  go_wp2_with fail
  refine U.out.mono ?_
  rintro e w1 ⟨rfl, hb1⟩
  have B1 := Hd.mk hb1
  clear hb1
  go_wp2_with fail
  refine (K.out _ B1.out _).mono ?_
  rintro e w2 ⟨rfl, rfl⟩
  go_wp2_with fail
  go_ret2
  exact ⟨rfl, B1.out⟩
theorem write_no (w : World) (p : Option Addr) (h : NoRep w p) (st : Int) (tx : ByteArray) : Calls Tryz.prog 35 #[.pointer p, .int .i64 st, .string tx] w fun e w' => e = .returned (.int .i64 1) ∧ Below w.heap.size w w' := by
  have U := Hd.mk (ofs st 0 63 w)
  have K := Hd.mk (fun W (hb : Below w.heap.size w W) b => checked_no W p (h.below hb) b)
  clear h
  go_enter Tryz.func35, Tryz.ntmps35
  go_wp2_with fail
  refine U.out.mono ?_
  rintro e w1 ⟨rfl, hb1⟩
  have B1 := Hd.mk hb1
  clear hb1
  cases g1 : inR 0 63 st with
  | false =>
    clear g1
    go_wp2_with fail
    refine (K.out _ B1.out _).mono ?_
    rintro e w2 ⟨rfl, rfl⟩
    go_wp2_with fail
    go_ret
    exact ⟨rfl, B1.out⟩
  | true =>
    clear g1
    go_wp2_with fail
    refine (K.out _ B1.out _).mono ?_
    rintro e w2 ⟨rfl, rfl⟩
    go_wp2_with fail
    go_ret
    exact ⟨rfl, B1.out⟩
theorem add_no (w : World) (p : Option Addr) (h : NoRep w p) (x : S131) (a : Int) (ok asks : Bool) : Calls Tryz.prog 93 #[.pointer p, vW x, .int .i64 a, .bool ok, .bool asks] w fun e w' => e = .returned (.int .i64 1) ∧ Below w.heap.size w w' := by
  obtain ⟨x0, x1, x2⟩ := x
  have BX := Hd.mk (show Below w.heap.size w (w.alloc (.cells #[.int .i64 x0, .int .i64 x1, .int .i64 x2] 131)) from below_alloc (Below.refl _ _) _)
  have K := Hd.mk (fun W (hb : Below w.heap.size w W) b => checked_no W p (h.below hb) b)
  have U1 := Hd.mk (fun W (hb : Below w.heap.size w W) => (ofs x0 0 7 W).mono fun e w' hh => (⟨hh.1, hb.trans (hh.2.mono hb.size)⟩ : e = .returned (.bool (inR 0 7 x0)) ∧ Below w.heap.size w w'))
  have U2 := Hd.mk (fun W (hb : Below w.heap.size w W) => (count_run W a).mono fun e w' hh => (⟨hh.1, hb.trans (hh.2.mono hb.size)⟩ : e = .returned (.bool (inR 1 MC a)) ∧ Below w.heap.size w w'))
  clear h
  simp only [vW]
  go_enter Tryz.func93, Tryz.ntmps93
  cases ok with
  | false =>
    go_wp2_with fail
    refine (K.out _ BX.out _).mono ?_
    rintro e w2 ⟨rfl, rfl⟩
    go_wp2_with fail
    go_ret
    exact ⟨rfl, BX.out⟩
  | true =>
    go_wp2_with fail
    refine (U1.out _ BX.out).mono ?_
    rintro e w1 ⟨rfl, hb1⟩
    have B1 := Hd.mk hb1
    clear hb1
    cases g1 : inR 0 7 x0 with
    | false =>
      clear g1
      go_wp2_with fail
      refine (K.out _ B1.out _).mono ?_
      rintro e w2 ⟨rfl, rfl⟩
      go_wp2_with fail
      go_ret
      exact ⟨rfl, B1.out⟩
    | true =>
      clear g1
      go_wp2_with fail
      refine (U2.out _ B1.out).mono ?_
      rintro e w2 ⟨rfl, hb2⟩
      have B2 := Hd.mk hb2
      clear hb2
      go_wp2_with fail
      refine (K.out _ B2.out _).mono ?_
      rintro e w3 ⟨rfl, rfl⟩
      go_wp2_with fail
      go_ret
      exact ⟨rfl, B2.out⟩
theorem own_no (w : World) (p : Option Addr) (h : NoRep w p) : ∃ o : Int, ∀ W, Below w.heap.size w W → Calls Tryz.prog 94 #[.pointer p] W fun e w' => e = .returned (.int .i64 o) ∧ w' = W := by
  rcases h with rfl | ⟨r, o, rfl, h⟩
  · exact ⟨0, fun W _ => own_nil W⟩
  · exact ⟨o, fun W hb => own_rep W r o none (h.below hb)⟩
theorem make_no (w : World) (p : Option Addr) (h : NoRep w p) (st a : Int) : Calls Tryz.prog 47 #[.pointer p, .int .i64 st, .int .i64 a] w fun e w' => e = .returned (.int .i64 1) ∧ Below w.heap.size w w' := by
  obtain ⟨o, ho⟩ := own_no w p h
  have O := Hd.mk (ho w (Below.refl _ _))
  have A := Hd.mk (add_no w p h ⟨st, o, o⟩ a true false)
  clear h ho
  simp only [vW] at A
  go_enter Tryz.func47, Tryz.ntmps47
  go_wp2_with fail
  refine O.out.mono ?_
  rintro e w1 ⟨rfl, rfl⟩
  go_wp2_with fail
  refine O.out.mono ?_
  rintro e w2 ⟨rfl, rfl⟩
  go_wp2_with fail
  refine A.out.mono ?_
  rintro e w3 ⟨rfl, hb⟩
  have HB := Hd.mk hb
  clear hb
  go_wp2_with fail
  go_ret
  exact ⟨rfl, HB.out⟩
theorem take_no (w : World) (p : Option Addr) (h : NoRep w p) (st a : Int) : Calls Tryz.prog 49 #[.pointer p, .int .i64 st, .int .i64 a] w fun e w' => e = .returned (.int .i64 1) ∧ Below w.heap.size w w' := by
  obtain ⟨o, ho⟩ := own_no w p h
  have O := Hd.mk (ho w (Below.refl _ _))
  have A := Hd.mk (add_no w p h ⟨st, o, -1⟩ a true true)
  clear h ho
  simp only [vW] at A
  go_enter Tryz.func49, Tryz.ntmps49
  go_wp2_with fail
  refine O.out.mono ?_
  rintro e w1 ⟨rfl, rfl⟩
  go_wp2_with fail
  refine A.out.mono ?_
  rintro e w3 ⟨rfl, hb⟩
  have HB := Hd.mk hb
  clear hb
  go_wp2_with fail
  go_ret
  exact ⟨rfl, HB.out⟩
theorem give_no (w : World) (p : Option Addr) (h : NoRep w p) (st tg a : Int) : Calls Tryz.prog 48 #[.pointer p, .int .i64 st, .int .i64 tg, .int .i64 a] w fun e w' => e = .returned (.int .i64 1) ∧ Below w.heap.size w w' := by
  obtain ⟨o, ho⟩ := own_no w p h
  have O := Hd.mk ho
  have U := Hd.mk (ofs tg 0 7 w)
  have A := Hd.mk (fun W (hb : Below w.heap.size w W) (b : Bool) => (add_no W p (h.below hb) ⟨st, o, tg⟩ a b true).mono fun e w' hh => (show e = .returned (.int .i64 1) ∧ Below w.heap.size w w' from ⟨hh.1, hb.trans (hh.2.mono hb.size)⟩))
  clear h ho
  simp only [vW] at A
  go_enter Tryz.func48, Tryz.ntmps48
  go_wp2_with fail
  refine (O.out _ (Below.refl _ _)).mono ?_
  rintro e w1 ⟨rfl, rfl⟩
  go_wp2_with fail
  refine U.out.mono ?_
  rintro e w1 ⟨rfl, hb1⟩
  have B1 := Hd.mk hb1
  clear hb1
  cases hq : inR 0 7 tg with
  | false =>
    clear hq
    go_wp2_with fail
    refine (A.out _ B1.out _).mono ?_
    rintro e w3 ⟨rfl, hb⟩
    have HB := Hd.mk hb
    clear hb
    go_wp2_with fail
    go_ret
    exact ⟨rfl, HB.out⟩
  | true =>
    clear hq
    go_wp2_with fail
    refine (O.out _ B1.out).mono ?_
    rintro e w2 ⟨rfl, rfl⟩
    go_wp2_with fail
    refine (A.out _ B1.out _).mono ?_
    rintro e w3 ⟨rfl, hb⟩
    have HB := Hd.mk hb
    clear hb
    go_wp2_with fail
    go_ret
    exact ⟨rfl, HB.out⟩
theorem copy_no (w : World) (p : Option Addr) (h : NoRep w p) : Calls Tryz.prog 46 #[.pointer p] w fun e w' => e = .returned (.pointer none) ∧ Below w.heap.size w w' := by
  have M := Hd.mk (made_no w p h)
  clear h
  go_enter Tryz.func46, Tryz.ntmps46
  go_wp2_with fail
  refine M.out.mono ?_
  rintro e w1 ⟨rfl, rfl⟩
  go_wp2_with fail
  go_ret
  exact ⟨rfl, Below.refl _ _⟩
end Go.Proofs.YtmeaeapopfcmbaaGreat

namespace Go.Proofs.YtmeaeapopfcmbaaGreat
open Go.RowKit Go.Proofs.YtmeaeapopfcmbaaGreatW.PrintWords Go.Proofs.YtmeaeapopfcmbaaGreatW.PrintLast Go.Proofs.YtmeaeapopfcmbaaGreatW.PrintMore PP
set_option linter.unusedVariables false
set_option linter.unusedSimpArgs false
/-- A replica whose blocks are among F. -/
structure RepF (w : World) (r : Nat) (o : Int) (S : S28) (F : Nat → Prop) : Prop where
  ex : ∃ k mt mn mw, Rep w r k mt mn mw o S ∧ F r ∧ F k ∧ F mt ∧ F mn ∧ F mw
  lt : ∀ i, F i → i < w.heap.size
  rt : Rt S
  o8 : inR 0 7 o = true
/-- .. and those that have been made since. -/
def FG (F : Nat → Prop) (w w' : World) (i : Nat) : Prop := F i ∨ (w.heap.size ≤ i ∧ i < w'.heap.size)
section
variable {w w' : World} {r : Nat} {o : Int} {S : S28} {F : Nat → Prop}
theorem RepF.below (h : RepF w r o S F) (hb : Below w.heap.size w w') : RepF w' r o S F := by
  obtain ⟨k, mt, mn, mw, h1, h2⟩ := h.ex
  exact ⟨⟨k, mt, mn, mw, h1.below hb, h2⟩, fun i hi => Nat.lt_of_lt_of_le (h.lt i hi) hb.size, h.rt, h.o8⟩
theorem RepF.grow (h : RepF w r o S F) (hb : Below w.heap.size w w') : RepF w' r o S (FG F w w') := by
  obtain ⟨k, mt, mn, mw, h1, a, b, c, d, e⟩ := h.ex
  exact ⟨⟨k, mt, mn, mw, h1.below hb, .inl a, .inl b, .inl c, .inl d, .inl e⟩, fun i hi => hi.elim (fun hi => Nat.lt_of_lt_of_le (h.lt i hi) hb.size) (fun hi => hi.2), h.rt, h.o8⟩
/-- Another one's blocks have been changed. -/
theorem RepF.frame {G : Nat → Prop} (h : RepF w r o S F) (hc : Chg w.heap.size G w w') (hd : ∀ i, F i → ¬ G i) : RepF w' r o S F := by
  obtain ⟨k, mt, mn, mw, h1, a, b, c, d, e⟩ := h.ex
  have hb : ∀ i, F i → w'.heap[i]? = w.heap[i]? := fun i hi => hc.block i (h.lt i hi) (hd i hi)
  refine ⟨⟨k, mt, mn, mw, ⟨(hb r a).trans h1.blk, h1.kn.at ?_⟩, a, b, c, d, e⟩, fun i hi => Nat.lt_of_lt_of_le (h.lt i hi) hc.size, h.rt, h.o8⟩
  rintro i (rfl | rfl | rfl | rfl)
  · exact hb _ b
  · exact hb _ c
  · exact hb _ d
  · exact hb _ e
theorem RepF.frameF {G : Nat → Prop} (h : RepF w r o S F) (hc : Chg w.heap.size G w w') (hd : ∀ i, F i → ¬ G i) : ∀ i, F i → ¬ FG G w w' i := fun i hi hg => hg.elim (hd i hi) fun hg => by have := h.lt i hi; omega
/-- What a call on a replica leaves. -/
structure Left (w w' : World) (r : Nat) (o : Int) (S' : S28) (F : Nat → Prop) : Prop where
  rep : RepF w' r o S' (FG F w w')
  chg : Chg w.heap.size F w w'
theorem RepF.put (h : RepF w r o S F) (st : Int) (nm : ByteArray) : Calls Tryz.prog 26 #[.pointer (some ⟨r, 0, none⟩), .int .i64 st, .string nm] w fun e w' => e = .returned (.int .i64 (putE S o st nm)) ∧ Left w w' r o (aPut S o st nm) F := by
  obtain ⟨k, mt, mn, mw, h1, a, b, c, d, e⟩ := h.ex
  refine (put_rep w r k mt mn mw o S h1 h.rt h.o8 st nm).mono fun _ w' hr => ⟨hr.ans, ⟨⟨k, mt, mn, mw, rep_put h.rt h.o8 hr, .inl a, .inl b, .inl c, .inl d, .inl e⟩, fun i hi => hi.elim (fun hi => Nat.lt_of_lt_of_le (h.lt i hi) hr.chg.size) (fun hi => hi.2), aPut_rt h.rt h.o8 st nm, h.o8⟩, hr.chg.mono (Nat.le_refl _) fun i _ hi => hi.elim (fun e => e ▸ c) (fun e => e ▸ b)⟩
theorem RepF.drop (h : RepF w r o S F) (st : Int) (nm : ByteArray) : Calls Tryz.prog 27 #[.pointer (some ⟨r, 0, none⟩), .int .i64 st, .string nm] w fun e w' => e = .returned (.tuple #[.int .i64 (dropN S st nm), .int .i64 (errB (argB st nm))]) ∧ Left w w' r o (aDrop S st nm) F := by
  obtain ⟨k, mt, mn, mw, h1, a, b, c, d, e⟩ := h.ex
  refine (drop_rep w r k mt mn mw o S h1 h.rt st nm).mono fun _ w' hr => ⟨hr.1, ⟨⟨k, mt, mn, mw, rep_drop h1 h.rt hr.2.1 hr.2.2, .inl a, .inl b, .inl c, .inl d, .inl e⟩, fun i hi => hi.elim (fun hi => Nat.lt_of_lt_of_le (h.lt i hi) hr.2.2.size) (fun hi => hi.2), aDrop_rt h.rt st nm, h.o8⟩, hr.2.2.mono (Nat.le_refl _) fun i _ hi => hi ▸ c⟩
theorem RepF.write (h : RepF w r o S F) (st : Int) (tx : ByteArray) : Calls Tryz.prog 35 #[.pointer (some ⟨r, 0, none⟩), .int .i64 st, .string tx] w fun e w' => e = .returned (.int .i64 (writeE S st tx)) ∧ Left w w' r o (aWrite S o st tx) F := by
  obtain ⟨k, mt, mn, mw, h1, a, b, c, d, e⟩ := h.ex
  refine (write_rep w r k mt mn mw o S h1 h.rt st tx).mono fun _ w' hr => ⟨hr.ans, ⟨⟨k, mt, mn, mw, rep_write h1 h.rt h.o8 hr, .inl a, .inl b, .inl c, .inl d, .inl e⟩, fun i hi => hi.elim (fun hi => Nat.lt_of_lt_of_le (h.lt i hi) hr.chg.size) (fun hi => hi.2), aWrite_rt h.rt h.o8 st tx, h.o8⟩, hr.chg.mono (Nat.le_refl _) fun i _ hi => hi ▸ d⟩
theorem RepF.add {k mt mn mw : Nat} {x : S131} {a : Int} {ok asks : Bool} {e : Ending} (h : RepF w r o S F) (h1 : Rep w r k mt mn mw o S) (hF : F r ∧ F k ∧ F mt ∧ F mn ∧ F mw) (hx : AddOk o x ok asks) (hr : AddRes w mw S o x a ok asks e w') : e = .returned (.int .i64 (addE S o x a ok asks)) ∧ Left w w' r o (aAdd S o x a ok asks) F := by
  obtain ⟨ha, hb, hc, hd, he⟩ := hF
  exact ⟨hr.ans, ⟨⟨k, mt, mn, mw, rep_add h1 h.rt hx hr, .inl ha, .inl hb, .inl hc, .inl hd, .inl he⟩, fun i hi => hi.elim (fun hi => Nat.lt_of_lt_of_le (h.lt i hi) hr.chg.size) (fun hi => hi.2), aAdd_rt h.rt hx a, h.o8⟩, hr.chg.mono (Nat.le_refl _) fun i _ hi => hi ▸ he⟩
theorem addOk_make {o : Int} (h : inR 0 7 o = true) (st : Int) : AddOk o ⟨st, o, o⟩ true false := by
  rw [inR_iff] at h
  exact ⟨rfl, h.1, h.2, fun _ => ⟨by show -1 ≤ o; omega, h.2⟩, fun _ => rfl⟩
theorem addOk_take {o : Int} (h : inR 0 7 o = true) (st : Int) : AddOk o ⟨st, o, -1⟩ true true := by
  rw [inR_iff] at h
  exact ⟨rfl, h.1, h.2, fun _ => ⟨by show (-1 : Int) ≤ -1; omega, by show (-1 : Int) ≤ 7; omega⟩, fun h => absurd h (by simp)⟩
theorem addOk_give {o : Int} (h : inR 0 7 o = true) (st tg : Int) : AddOk o ⟨st, o, tg⟩ (inR 0 7 tg && (tg != o)) true := by
  rw [inR_iff] at h
  refine ⟨rfl, h.1, h.2, fun hh => ?_, fun h => absurd h (by simp)⟩
  rw [Bool.and_eq_true, inR_iff] at hh
  exact ⟨by show -1 ≤ tg; omega, hh.1.2⟩
theorem RepF.make (h : RepF w r o S F) (st a : Int) : Calls Tryz.prog 47 #[.pointer (some ⟨r, 0, none⟩), .int .i64 st, .int .i64 a] w fun e w' => e = .returned (.int .i64 (addE S o ⟨st, o, o⟩ a true false)) ∧ Left w w' r o (aAdd S o ⟨st, o, o⟩ a true false) F := by
  obtain ⟨k, mt, mn, mw, h1, hF⟩ := h.ex
  exact (make_rep w r k mt mn mw o S h1 h.rt h.o8 st a).mono fun _ w' hr => h.add h1 hF (addOk_make h.o8 st) hr
theorem RepF.take (h : RepF w r o S F) (st a : Int) : Calls Tryz.prog 49 #[.pointer (some ⟨r, 0, none⟩), .int .i64 st, .int .i64 a] w fun e w' => e = .returned (.int .i64 (addE S o ⟨st, o, -1⟩ a true true)) ∧ Left w w' r o (aAdd S o ⟨st, o, -1⟩ a true true) F := by
  obtain ⟨k, mt, mn, mw, h1, hF⟩ := h.ex
  exact (take_rep w r k mt mn mw o S h1 h.rt h.o8 st a).mono fun _ w' hr => h.add h1 hF (addOk_take h.o8 st) hr
theorem RepF.give (h : RepF w r o S F) (st tg a : Int) : Calls Tryz.prog 48 #[.pointer (some ⟨r, 0, none⟩), .int .i64 st, .int .i64 tg, .int .i64 a] w fun e w' => e = .returned (.int .i64 (addE S o ⟨st, o, tg⟩ a (inR 0 7 tg && (tg != o)) true)) ∧ Left w w' r o (aAdd S o ⟨st, o, tg⟩ a (inR 0 7 tg && (tg != o)) true) F := by
  obtain ⟨k, mt, mn, mw, h1, hF⟩ := h.ex
  exact (give_rep w r k mt mn mw o S h1 h.rt h.o8 st tg a).mono fun _ w' hr => h.add h1 hF (addOk_give h.o8 st tg) hr
theorem RepF.sync (h : RepF w r o S F) (A0 A1 A2 A3 A4 : Option Addr) (c0 c1 c2 c3 c4 : Nat) (S2 : S28) (hc : StC w A0 c0 A1 c1 A2 c2 A3 c3 A4 c4 S2) (hok : StOk S2) : Calls Tryz.prog 34 #[.pointer (some ⟨r, 0, none⟩), stV S2 A0 c0 A1 c1 A2 c2 A3 c3 A4 c4] w fun e w' => e = .returned (.int .i64 (syncE S S2)) ∧ Left w w' r o (aSync S S2) F := by
  obtain ⟨k, mt, mn, mw, h1, a, b, c, d, e⟩ := h.ex
  refine (sync_rep w r k mt mn mw o S h1 h.rt A0 A1 A2 A3 A4 c0 c1 c2 c3 c4 S2 hc hok).mono fun _ w' hr => ⟨hr.ans, ?_, hr.chg.mono (Nat.le_refl _) fun i _ hi => hi ▸ a⟩
  obtain ⟨k', mt', mn', mw', g1, g2⟩ := hr.rep
  refine ⟨⟨k', mt', mn', mw', g1, .inl a, ?_⟩, fun i hi => hi.elim (fun hi => Nat.lt_of_lt_of_le (h.lt i hi) hr.chg.size) (fun hi => hi.2), aSync_rt h.rt, h.o8⟩
  rcases g2 with ⟨rfl, rfl, rfl, rfl⟩ | ⟨q1, q2, q3, q4⟩
  · exact ⟨.inl b, .inl c, .inl d, .inl e⟩
  · have lt := g1.kn.lt
    exact ⟨.inr ⟨q1, lt.1⟩, .inr ⟨q2, lt.2.1⟩, .inr ⟨q3, lt.2.2.1⟩, .inr ⟨q4, lt.2.2.2⟩⟩
theorem RepF.left (h : RepF w r o S F) (st : Int) : Calls Tryz.prog 33 #[.pointer (some ⟨r, 0, none⟩), .int .i64 st] w fun e w' => e = .returned (.tuple #[.int .i64 (leftV S st), .int .i64 (errB (inR 0 7 st))]) ∧ Below w.heap.size w w' := by
  obtain ⟨k, mt, mn, mw, h1, _⟩ := h.ex
  exact left_rep w r k mt mn mw o S h1 h.rt st
theorem RepF.free (h : RepF w r o S F) (st : Int) : Calls Tryz.prog 32 #[.pointer (some ⟨r, 0, none⟩), .int .i64 st] w fun e w' => e = .returned (.tuple #[.int .i64 (freeV S st o), .int .i64 (errB (inR 0 7 st))]) ∧ Below w.heap.size w w' := by
  obtain ⟨k, mt, mn, mw, h1, _⟩ := h.ex
  exact free_rep w r k mt mn mw o S h1 h.rt st
theorem RepF.readn (h : RepF w r o S F) (st : Int) : Calls Tryz.prog 36 #[.pointer (some ⟨r, 0, none⟩), .int .i64 st] w fun e w' => e = .returned (.tuple #[.string (noteV S st), .bool (noteIs S st), .int .i64 (errB (inR 0 63 st))]) ∧ Below w.heap.size w w' := by
  obtain ⟨k, mt, mn, mw, h1, _⟩ := h.ex
  exact readn_rep w r k mt mn mw o S h1 st
theorem RepF.has (h : RepF w r o S F) (st : Int) : Calls Tryz.prog 45 #[.pointer (some ⟨r, 0, none⟩), .int .i64 st] w fun e w' => ∃ v, e = .returned (.tuple #[v, .int .i64 (errB (inR 0 63 st))]) ∧ Kd.R Kd.string 9 w' w.heap.size (fun _ => True) v (hasV S st) ∧ Below w.heap.size w w' := by
  obtain ⟨k, mt, mn, mw, h1, _⟩ := h.ex
  exact has_rep w r k mt mn mw o S h1 (by have := h.rt.lens; omega) st
theorem RepF.state (h : RepF w r o S F) : Calls Tryz.prog 24 #[.pointer (some ⟨r, 0, none⟩)] w fun e w' => ∃ v0 v1 v2 v3 v4, e = .returned (.agg #[v0, v1, v2, v3, v4]) ∧ StR w.heap.size w' v0 v1 v2 v3 v4 S ∧ Below w.heap.size w w' := by
  obtain ⟨k, mt, mn, mw, h1, _⟩ := h.ex
  exact state_rep w r k mt mn mw o S h1 h.rt
end
/-- The empty state. -/
def emptyS : S28 := ⟨zeros8, [], [], [], []⟩
theorem emptyS_rt : Rt emptyS where
  sl := rfl
  sr := fun x hx => by simp [emptyS, zeros8] at hx; subst hx; simp [MC]
  tl := by decide
  ta := List.Pairwise.nil
  tr := fun t ht => absurd ht (by simp [emptyS])
  td := List.nodup_nil
  na := List.Pairwise.nil
  nr := fun t ht => absurd ht (by simp [emptyS])
  ra := List.Pairwise.nil
  rr := fun t ht => absurd ht (by simp [emptyS])
  ua := List.Pairwise.nil
  ur := fun t ht => absurd ht (by simp [emptyS])
  fu := fun s o _ _ _ _ => by simp [freeY, waysP, emptyS, sumF]
theorem KnowNew.repF {w w' : World} {r k mt mn mw : Nat} {o : Int} {S : S28} (hr : w.heap.size ≤ r) (hb : RepBlk w' r o (some ⟨k, 0, none⟩)) (hk : KnowNew w.heap.size w' k mt mn mw S.f0 (tagsP S) (notesP S) (waysP S)) (hS : Rt S) (ho : inR 0 7 o = true) : RepF w' r o S (fun i => w.heap.size ≤ i ∧ i < w'.heap.size) := by
  have lt := hk.at_.lt
  exact ⟨⟨k, mt, mn, mw, ⟨hb, hk.at_⟩, ⟨hr, hb.lt⟩, ⟨hk.k_, lt.1⟩, ⟨hk.t_, lt.2.1⟩, ⟨hk.n_, lt.2.2.1⟩, ⟨hk.w_, lt.2.2.2⟩⟩, fun i hi => hi.2, hS, ho⟩
theorem new_F (w : World) (o : Int) (ho : inR 0 7 o = true) : Calls Tryz.prog 25 #[.int .i64 o] w fun e w' => ∃ r, e = .returned (.tuple #[.pointer (some ⟨r, 0, none⟩), .int .i64 0]) ∧ RepF w' r o emptyS (fun i => w.heap.size ≤ i ∧ i < w'.heap.size) ∧ Below w.heap.size w w' :=
  (new_ok w o (inR_iff.1 ho).1 (inR_iff.1 ho).2).mono fun e w' ⟨r, k, mt, mn, mw, h1, h2, h3, h4, h5⟩ => ⟨r, h1, h4.repF (S := emptyS) h2 h3 emptyS_rt ho, h5⟩
/-- Five lists of the call's own, as they are read. -/
theorem StR.stC {base : Nat} {W : World} {v0 v1 v2 v3 v4 : Value} {S : S28} (h : StR base W v0 v1 v2 v3 v4 S) (hS : Rt S) : ∃ A0 c0 A1 c1 A2 c2 A3 c3 A4 c4, v0 = .slice A0 S.f0.length c0 ∧ v1 = .slice A1 S.f1.length c1 ∧ v2 = .slice A2 S.f2.length c2 ∧ v3 = .slice A3 S.f3.length c3 ∧ v4 = .slice A4 S.f4.length c4 ∧ StC W A0 c0 A1 c1 A2 c2 A3 c3 A4 c4 S := by
  obtain ⟨A0, c0, e0, l0, h0⟩ := Kd.R_reads h.r0
  obtain ⟨A1, c1, e1, l1, h1⟩ := Kd.R_reads h.r1
  obtain ⟨A2, c2, e2, l2, h2⟩ := Kd.R_reads h.r2
  obtain ⟨A3, c3, e3, l3, h3⟩ := Kd.R_reads h.r3
  obtain ⟨A4, c4, e4, l4, h4⟩ := Kd.R_reads h.r4
  have a := hS.sl
  have b := hS.tl
  have c := notes_len hS.kv
  have d := ways_len hS.kv.yk hS.kv.yn
  have e : (notesP S).length = S.f2.length := by unfold notesP; rw [List.length_map]
  have f : (waysP S).length = S.f3.length + S.f4.length := by unfold waysP; rw [List.length_append, List.length_map, List.length_map]
  exact ⟨A0, c0, A1, c1, A2, c2, A3, c3, A4, c4, e0, e1, e2, e3, e4, h0, h1, h2, h3, h4, l0, l1, l2, l3, l4, by omega, by omega, by omega, by omega⟩
end Go.Proofs.YtmeaeapopfcmbaaGreat

namespace Go.Proofs.YtmeaeapopfcmbaaGreat
open Go.RowKit Go.Proofs.YtmeaeapopfcmbaaGreatW.PrintWords Go.Proofs.YtmeaeapopfcmbaaGreatW.PrintLast Go.Proofs.YtmeaeapopfcmbaaGreatW.PrintMore PP
set_option linter.unusedVariables false
set_option linter.unusedSimpArgs false
set_option maxRecDepth 100000
def sA1 : S28 := ⟨zeros8, [], [], [⟨0, 0, 0, 10⟩], []⟩
def sA2 : S28 := ⟨zeros8, [], [], [⟨0, 0, 0, 10⟩, ⟨0, 0, 1, 4⟩], []⟩
def tg5 : S99 := ⟨5, ⟨#[97]⟩, ⟨1, 1⟩⟩
def sB1 : S28 := ⟨[0, 1, 0, 0, 0, 0, 0, 0], [tg5], [], [], []⟩
def sB2 : S28 := ⟨[0, 1, 0, 0, 0, 0, 0, 0], [tg5], [], [⟨0, 0, 0, 10⟩, ⟨0, 0, 1, 4⟩], []⟩
def sB3 : S28 := ⟨[0, 1, 0, 0, 0, 0, 0, 0], [tg5], [], [⟨0, 0, 0, 10⟩, ⟨0, 0, 1, 4⟩], [⟨0, 1, 3⟩]⟩
theorem al1 : addE emptyS 0 ⟨0, 0, 0⟩ 10 true false = 0 ∧ aAdd emptyS 0 ⟨0, 0, 0⟩ 10 true false = sA1 := ⟨by decide, by rfl⟩
theorem al2 : addE sA1 0 ⟨0, 0, 1⟩ 4 (inR 0 7 1 && ((1 : Int) != 0)) true = 0 ∧ aAdd sA1 0 ⟨0, 0, 1⟩ 4 (inR 0 7 1 && ((1 : Int) != 0)) true = sA2 := ⟨by decide, by rfl⟩
theorem al3 : putE emptyS 1 5 ⟨#[97]⟩ = 0 ∧ aPut emptyS 1 5 ⟨#[97]⟩ = sB1 := ⟨by decide, by rfl⟩
theorem fund_of {Y : List (S131 × Int)} (h : ((List.range 8).all fun s => (List.range 8).all fun o => decide (0 ≤ freeY Y s o)) = true) : Fund Y := fun s o s0 s7 o0 o7 => by
  rw [List.all_eq_true] at h
  have h1 := h s.toNat (List.mem_range.2 (by omega))
  rw [List.all_eq_true] at h1
  have h2 := h1 o.toNat (List.mem_range.2 (by omega))
  rw [decide_eq_true_eq, show ((s.toNat : Nat) : Int) = s by omega, show ((o.toNat : Nat) : Int) = o by omega] at h2
  exact h2
theorem al4 (h : Rt sA2) : syncE sB1 sA2 = 0 ∧ aSync sB1 sA2 = sB2 := by
  have h1 : mrgS sB1 sA2 = 0 := by
    unfold mrgS mrgE
    rw [if_neg (by decide), if_neg (by decide), if_neg]
    rw [fundB_iff.2 (fund_of (by decide))]
    simp
  have h2 : syncE sB1 sA2 = 0 := by unfold syncE; rw [if_pos (rtB_iff.2 h)]; exact h1
  exact ⟨h2, by unfold aSync; rw [if_pos h2]; rfl⟩
theorem al5 : addE sB2 1 ⟨0, 1, -1⟩ 3 true true = 0 ∧ aAdd sB2 1 ⟨0, 1, -1⟩ 3 true true = sB3 := ⟨by decide, by rfl⟩
theorem al6 : leftV sB3 0 = 7 ∧ freeV sB3 0 1 = 1 ∧ errB (inR 0 7 0) = 0 ∧ errB (inR 0 63 5) = 0 := ⟨by decide, by decide, by decide, by decide⟩
theorem al7 : hasV sB3 5 = [⟨#[97]⟩] := by
  have h1 : namesOf 5 (tagsP sB3) = [[97]] := by rfl
  have h2 : hasL 5 (tagsP sB3) = [[97]] := by
    unfold hasL
    rw [h1]
    have : srtS [[97]] = [[97]] := by unfold srtS; simp
    rw [this]
    rfl
  unfold hasV
  rw [if_pos (by decide), h2]
  rfl
end Go.Proofs.YtmeaeapopfcmbaaGreat

namespace Go.Proofs.YtmeaeapopfcmbaaGreat
open Go.RowKit Go.Proofs.YtmeaeapopfcmbaaGreatW.PrintWords Go.Proofs.YtmeaeapopfcmbaaGreatW.PrintLast Go.Proofs.YtmeaeapopfcmbaaGreatW.PrintMore PP
set_option linter.unusedVariables false
set_option linter.unusedSimpArgs false
set_option maxHeartbeats 4000000
set_option maxRecDepth 100000
/-- n replicas, none of which has a block of another's; all their blocks lie above base. -/
structure Many (base : Nat) (w : World) (n : Nat) (r : Nat → Nat) (o : Nat → Int) (S : Nat → S28) (F : Nat → Nat → Prop) : Prop where
  rep : ∀ i, i < n → RepF w (r i) (o i) (S i) (F i)
  ne : ∀ i j, i < n → j < n → i ≠ j → ∀ x, F i x → ¬ F j x
  lo : ∀ i, i < n → ∀ x, F i x → base ≤ x
def updN {α : Type} (f : Nat → α) (i : Nat) (v : α) : Nat → α := fun j => if j = i then v else f j
section
variable {base : Nat} {w w' : World} {n : Nat} {r : Nat → Nat} {o : Nat → Int} {S : Nat → S28} {F : Nat → Nat → Prop}
theorem Many.below (h : Many base w n r o S F) (hb : Below w.heap.size w w') : Many base w' n r o S F :=
  ⟨fun i hi => (h.rep i hi).below hb, h.ne, h.lo⟩
theorem Many.after (h : Many base w n r o S F) (hB : base ≤ w.heap.size) {i : Nat} (hi : i < n) {S' : S28} (hl : Left w w' (r i) (o i) S' (F i)) : Many base w' n r o (updN S i S') (updN F i (FG (F i) w w')) := by
  refine ⟨fun j hj => ?_, fun j k hj hk hjk x hx => ?_, fun j hj x hx => ?_⟩
  · unfold updN
    by_cases e : j = i
    · subst e
      simp only [if_true]
      exact hl.rep
    · simp only [if_neg e]
      exact (h.rep j hj).frame hl.chg (h.ne j i hj hi e)
  · unfold updN at hx ⊢
    by_cases e : j = i
    · subst e
      rw [if_pos rfl] at hx
      rw [if_neg (fun e => hjk e.symm)]
      intro hk2
      rcases hx with hx | hx
      · exact h.ne j k hj hk hjk x hx hk2
      · have := (h.rep k hk).lt x hk2
        omega
    · rw [if_neg e] at hx
      by_cases e2 : k = i
      · subst e2
        rw [if_pos rfl]
        exact (h.rep j hj).frameF hl.chg (h.ne j k hj hi hjk) x hx
      · rw [if_neg e2]
        exact h.ne j k hj hk hjk x hx
  · unfold updN at hx
    by_cases e : j = i
    · subst e
      rw [if_pos rfl] at hx
      rcases hx with hx | hx
      · exact h.lo j hj x hx
      · omega
    · rw [if_neg e] at hx
      exact h.lo j hj x hx
theorem Many.fresh {B : Nat} (h : Many base w n r o S F) (hB : B ≤ base) (hB2 : B ≤ w.heap.size) {i : Nat} (hi : i < n) {S' : S28} (hl : Left w w' (r i) (o i) S' (F i)) : Below B w w' :=
  hl.chg.fresh hB2 fun x hx => Nat.le_trans hB (h.lo i hi x hx)
/-- One more. -/
theorem Many.more (h : Many base w n r o S F) (hb : Below w.heap.size w w') (hB : base ≤ w.heap.size) {q : Nat} {oq : Int} {Sq : S28} (hq : RepF w' q oq Sq (fun i => w.heap.size ≤ i ∧ i < w'.heap.size)) : Many base w' (n + 1) (updN r n q) (updN o n oq) (updN S n Sq) (updN F n (fun i => w.heap.size ≤ i ∧ i < w'.heap.size)) := by
  refine ⟨fun j hj => ?_, fun j k hj hk hjk x hx => ?_, fun j hj x hx => ?_⟩
  · unfold updN
    by_cases e : j = n
    · subst e
      simp only [if_true]
      exact hq
    · simp only [if_neg e]
      exact (h.rep j (by omega)).below hb
  · unfold updN at hx ⊢
    by_cases e : j = n
    · subst e
      rw [if_pos rfl] at hx
      rw [if_neg (fun e => hjk e.symm)]
      intro hk2
      have := (h.rep k (by omega)).lt x hk2
      omega
    · rw [if_neg e] at hx
      have := (h.rep j (by omega)).lt x hx
      by_cases e2 : k = n
      · subst e2
        rw [if_pos rfl]
        intro hk2
        omega
      · rw [if_neg e2]
        exact h.ne j k (by omega) (by omega) hjk x hx
  · unfold updN at hx
    by_cases e : j = n
    · subst e
      rw [if_pos rfl] at hx
      omega
    · rw [if_neg e] at hx
      exact h.lo j (by omega) x hx
end
theorem Many.zero (w : World) : Many w.heap.size w 0 (fun _ => 0) (fun _ => 0) (fun _ => emptyS) (fun _ _ => False) :=
  ⟨fun i hi => absurd hi (Nat.not_lt_zero _), fun i j hi => absurd hi (Nat.not_lt_zero _), fun i hi => absurd hi (Nat.not_lt_zero _)⟩
/-- Two offices. -/
structure Two (w0 w : World) (a b : Nat) (SA SB : S28) : Prop where
  ex : ∃ Fa Fb : Nat → Prop, RepF w a 0 SA Fa ∧ RepF w b 1 SB Fb ∧ (∀ i, Fa i → ¬ Fb i) ∧ (∀ i, Fa i → w0.heap.size ≤ i) ∧ (∀ i, Fb i → w0.heap.size ≤ i)
  base : Below w0.heap.size w0 w
section
variable {w0 w w' : World} {a b : Nat} {SA SB S' : S28}
theorem Two.below (h : Two w0 w a b SA SB) (hb : Below w.heap.size w w') : Two w0 w' a b SA SB := by
  obtain ⟨Fa, Fb, h1, h2, h3⟩ := h.ex
  exact ⟨⟨Fa, Fb, h1.below hb, h2.below hb, h3⟩, h.base.trans (hb.mono h.base.size)⟩
theorem Two.fa {Fa Fb : Nat → Prop} (h : Two w0 w a b SA SB) (h1 : RepF w a 0 SA Fa) (h2 : RepF w b 1 SB Fb) (h3 : ∀ i, Fa i → ¬ Fb i) (h4 : ∀ i, Fa i → w0.heap.size ≤ i) (h5 : ∀ i, Fb i → w0.heap.size ≤ i) (hl : Left w w' a 0 S' Fa) : Two w0 w' a b S' SB :=
  ⟨⟨_, Fb, hl.rep, h2.frame hl.chg (fun i hi ha => h3 i ha hi), fun i hi hb => hi.elim (fun ha => h3 i ha hb) (fun hg => by have := h2.lt i hb; omega), fun i hi => hi.elim (h4 i) (fun hg => by have := h.base.size; omega), h5⟩, h.base.trans (hl.chg.fresh h.base.size h4)⟩
theorem Two.fb {Fa Fb : Nat → Prop} (h : Two w0 w a b SA SB) (h1 : RepF w a 0 SA Fa) (h2 : RepF w b 1 SB Fb) (h3 : ∀ i, Fa i → ¬ Fb i) (h4 : ∀ i, Fa i → w0.heap.size ≤ i) (h5 : ∀ i, Fb i → w0.heap.size ≤ i) (hl : Left w w' b 1 S' Fb) : Two w0 w' a b SA S' :=
  ⟨⟨Fa, _, h1.frame hl.chg h3, hl.rep, h1.frameF hl.chg h3, h4, fun i hi => hi.elim (h5 i) (fun hg => by have := h.base.size; omega)⟩, h.base.trans (hl.chg.fresh h.base.size h5)⟩
theorem Two.make (h : Two w0 w a b SA SB) (st am : Int) : Calls Tryz.prog 47 #[.pointer (some ⟨a, 0, none⟩), .int .i64 st, .int .i64 am] w fun e w' => e = .returned (.int .i64 (addE SA 0 ⟨st, 0, 0⟩ am true false)) ∧ Two w0 w' a b (aAdd SA 0 ⟨st, 0, 0⟩ am true false) SB := by
  obtain ⟨Fa, Fb, h1, h2, h3, h4, h5⟩ := h.ex
  exact (h1.make st am).mono fun e w' hh => ⟨hh.1, h.fa h1 h2 h3 h4 h5 hh.2⟩
theorem Two.give (h : Two w0 w a b SA SB) (st tg am : Int) : Calls Tryz.prog 48 #[.pointer (some ⟨a, 0, none⟩), .int .i64 st, .int .i64 tg, .int .i64 am] w fun e w' => e = .returned (.int .i64 (addE SA 0 ⟨st, 0, tg⟩ am (inR 0 7 tg && (tg != 0)) true)) ∧ Two w0 w' a b (aAdd SA 0 ⟨st, 0, tg⟩ am (inR 0 7 tg && (tg != 0)) true) SB := by
  obtain ⟨Fa, Fb, h1, h2, h3, h4, h5⟩ := h.ex
  exact (h1.give st tg am).mono fun e w' hh => ⟨hh.1, h.fa h1 h2 h3 h4 h5 hh.2⟩
theorem Two.put (h : Two w0 w a b SA SB) (st : Int) (nm : ByteArray) : Calls Tryz.prog 26 #[.pointer (some ⟨b, 0, none⟩), .int .i64 st, .string nm] w fun e w' => e = .returned (.int .i64 (putE SB 1 st nm)) ∧ Two w0 w' a b SA (aPut SB 1 st nm) := by
  obtain ⟨Fa, Fb, h1, h2, h3, h4, h5⟩ := h.ex
  exact (h2.put st nm).mono fun e w' hh => ⟨hh.1, h.fb h1 h2 h3 h4 h5 hh.2⟩
theorem Two.take (h : Two w0 w a b SA SB) (st am : Int) : Calls Tryz.prog 49 #[.pointer (some ⟨b, 0, none⟩), .int .i64 st, .int .i64 am] w fun e w' => e = .returned (.int .i64 (addE SB 1 ⟨st, 1, -1⟩ am true true)) ∧ Two w0 w' a b SA (aAdd SB 1 ⟨st, 1, -1⟩ am true true) := by
  obtain ⟨Fa, Fb, h1, h2, h3, h4, h5⟩ := h.ex
  exact (h2.take st am).mono fun e w' hh => ⟨hh.1, h.fb h1 h2 h3 h4 h5 hh.2⟩
theorem Two.sync (h : Two w0 w a b SA SB) (A0 A1 A2 A3 A4 : Option Addr) (c0 c1 c2 c3 c4 : Nat) (S2 : S28) (hc : StC w A0 c0 A1 c1 A2 c2 A3 c3 A4 c4 S2) (hok : StOk S2) : Calls Tryz.prog 34 #[.pointer (some ⟨b, 0, none⟩), stV S2 A0 c0 A1 c1 A2 c2 A3 c3 A4 c4] w fun e w' => e = .returned (.int .i64 (syncE SB S2)) ∧ Two w0 w' a b SA (aSync SB S2) := by
  obtain ⟨Fa, Fb, h1, h2, h3, h4, h5⟩ := h.ex
  exact (h2.sync A0 A1 A2 A3 A4 c0 c1 c2 c3 c4 S2 hc hok).mono fun e w' hh => ⟨hh.1, h.fb h1 h2 h3 h4 h5 hh.2⟩
end
theorem alive_run (w : World) : Calls Tryz.prog 16 #[] w fun e w' => e = .returned (.bool true) ∧ Below w.heap.size w w' := by
  have N := Hd.mk (fun W (o : Int) (ho : inR 0 7 o = true) => new_F W o ho)
  go_enter Tryz.func16, Tryz.ntmps16
  go_wp2_with fail
  refine (N.out w 0 rfl).mono ?_
  rintro e w1 ⟨a, rfl, hra, hb1⟩
  have RA := Hd.mk hra
  have B1 := Hd.mk hb1
  clear hra hb1
  go_wp2_with fail
  refine (N.out w1 1 rfl).mono ?_
  rintro e w2 ⟨b, rfl, hrb, hb2⟩
  have T0 := Hd.mk (show Two w w2 a b emptyS emptyS from ⟨⟨_, _, RA.out.below hb2, hrb, fun i h1 h2 => by omega, fun i h1 => h1.1, fun i h2 => by have := B1.out.size; omega⟩, B1.out.trans (hb2.mono B1.out.size)⟩)
  clear hrb hb2 RA B1 N
  have C := Hd.mk (T0.out.make 0 10)
  rw [al1.1, al1.2] at C
  clear T0
  go_wp2_with fail
  refine C.out.mono ?_
  rintro e w3 ⟨rfl, ht⟩
  have C := Hd.mk (ht.give 0 1 4)
  rw [al2.1, al2.2] at C
  clear ht
  go_wp2_with fail
  refine C.out.mono ?_
  rintro e w4 ⟨rfl, ht⟩
  have C := Hd.mk (ht.put 5 ⟨#[97]⟩)
  rw [al3.1, al3.2] at C
  clear ht
  go_wp2_with fail
  refine C.out.mono ?_
  rintro e w5 ⟨rfl, ht⟩
  have HT := Hd.mk ht
  obtain ⟨Fa, Fb, ra, rb, h3⟩ := ht.ex
  have RT := Hd.mk ra.rt
  have C := Hd.mk ra.state
  clear ra rb h3 ht
  go_wp2_with fail
  refine C.out.mono ?_
  rintro e w6 ⟨v0, v1, v2, v3, v4, rfl, hs, hb6⟩
  obtain ⟨A0, c0, A1, c1, A2, c2, A3, c3, A4, c4, rfl, rfl, rfl, rfl, rfl, hc⟩ := hs.stC RT.out
  have C := Hd.mk ((HT.out.below hb6).sync A0 A1 A2 A3 A4 c0 c1 c2 c3 c4 sA2 hc RT.out.ok)
  rw [(al4 RT.out).1, (al4 RT.out).2] at C
  clear hs hb6 hc
  unfold stV at C
  go_wp2_with fail
  refine C.out.mono ?_
  rintro e w7 ⟨rfl, ht⟩
  have C := Hd.mk (ht.take 0 3)
  rw [al5.1, al5.2] at C
  clear ht HT RT
  go_wp2_with fail
  refine C.out.mono ?_
  rintro e w8 ⟨rfl, ht⟩
  have HT := Hd.mk ht
  obtain ⟨Fa, Fb, ra, rb, h3⟩ := ht.ex
  have RB := Hd.mk rb
  have B8 := Hd.mk ht.base
  have C := Hd.mk (rb.left 0)
  rw [al6.1, al6.2.2.1] at C
  clear ra rb h3 ht HT
  go_wp2_with fail
  refine C.out.mono ?_
  rintro e w9 ⟨rfl, hb⟩
  have R9 := Hd.mk (RB.out.below hb)
  have B9 := Hd.mk (B8.out.trans (hb.mono B8.out.size))
  have C := Hd.mk (R9.out.free 0)
  rw [al6.2.1, al6.2.2.1] at C
  clear hb RB B8
  go_wp2_with fail
  refine C.out.mono ?_
  rintro e w10 ⟨rfl, hb⟩
  have R10 := Hd.mk (R9.out.below hb)
  have B10 := Hd.mk (B9.out.trans (hb.mono B9.out.size))
  have C := Hd.mk (R10.out.has 5)
  rw [al7, al6.2.2.2] at C
  clear hb R9 B9
  go_wp2_with fail
  refine C.out.mono ?_
  rintro e w11 ⟨v, rfl, hv, hb⟩
  have R11 := Hd.mk (R10.out.below hb)
  have B11 := Hd.mk (B10.out.trans (hb.mono B10.out.size))
  obtain ⟨g, cap, e2, _⟩ := Kd.R_form hv (by decide)
  subst e2
  have x0 : w11.cell? ⟨g, 0, none⟩ = some (.string ⟨#[97]⟩) := (Kd.R_cell ByteArray.empty hv 0 (by decide) (by decide)).1
  have RT := Hd.mk R11.out.rt
  have C := Hd.mk R11.out.state
  have eqs : (({ data := #[97] } : ByteArray).toList == ({ data := #[97] } : ByteArray).toList) = true := by simp
  clear hb R10 B10 hv
  simp only [List.length_singleton]
  go_wp2_with fail
  refine C.out.mono ?_
  rintro e w12 ⟨v0, v1, v2, v3, v4, rfl, hs, hb⟩
  obtain ⟨A0, c0, A1, c1, A2, c2, A3, c3, A4, c4, rfl, rfl, rfl, rfl, rfl, hc⟩ := hs.stC RT.out
  have B12 := Hd.mk (B11.out.trans (hb.mono B11.out.size))
  have C := Hd.mk (right_run w12 A0 A1 A2 A3 A4 c0 c1 c2 c3 c4 sB3 hc RT.out.ok)
  rw [rtB_iff.2 RT.out] at C
  clear hs hb hc R11 B11
  unfold stV at C
  go_wp2_with fail
  refine C.out.mono ?_
  rintro e w13 ⟨rfl, hb⟩
  have B13 := Hd.mk (B12.out.trans (hb.mono B12.out.size))
  clear hb
  go_wp2_with fail
  go_ret
  exact ⟨rfl, B13.out⟩
end Go.Proofs.YtmeaeapopfcmbaaGreat

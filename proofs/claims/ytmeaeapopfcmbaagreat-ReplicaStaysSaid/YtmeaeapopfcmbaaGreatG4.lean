/- Several texts in one: B19 B20 B21 B22 B23 B24 P5. No conditions. -/
import Derived.Test.YtmeaeapopfcmbaaGreatG3
import Derived.Deep.DeepCutAuto
import Derived.Laws.EntriesVeiled
namespace Go.Proofs.YtmeaeapopfcmbaaGreat
open Go.RowKit Go.Proofs.YtmeaeapopfcmbaaGreatW.PrintWords Go.Proofs.YtmeaeapopfcmbaaGreatW.PrintLast Go.Proofs.YtmeaeapopfcmbaaGreatW.PrintMore PP
set_option linter.unusedVariables false
set_option linter.unusedSimpArgs false
set_option maxHeartbeats 4000000
set_option maxRecDepth 100000
/-- What Put answers, and what it leaves of the tags and of what is seen. -/
def putE (S : S28) (o st : Int) (nm : ByteArray) : Int :=
  if argB st nm = false then 2 else if 128 ≤ ((tagsP S).length : Int) - ((dotsOf st nm (tagsP S)).length : Int) then 8 else if MC ≤ sget S.f0 o then 4 else 0
def putS (S : S28) (o st : Int) (nm : ByteArray) : List Int := if putE S o st nm = 0 then S.f0.set o.toNat (sget S.f0 o + 1) else S.f0
def putT (S : S28) (o st : Int) (nm : ByteArray) : List (S97 × S99) := if putE S o st nm = 0 then mput ((tagsP S).filter fun p => !isTag st nm p) ⟨o, sget S.f0 o + 1⟩ ⟨st, nm, ⟨o, sget S.f0 o + 1⟩⟩ else tagsP S
theorem know_cell {w : World} {k mt mn mw : Nat} {s : List Int} {T : List (S97 × S99)} {N : List (Int × S102)} {Y : List (S131 × Int)} (h : KnowAt w k mt mn mw s T N Y) (i : Nat) (hi : i < 8) (v : Int) : KnowAt (w.setCell ⟨k, i, none⟩ (.int .i64 v)) k mt mn mw (s.set i v) T N Y := by
  have hb : (knowCells s mt mn mw).setIfInBounds i (.int .i64 v) = knowCells (s.set i v) mt mn mw := by
    obtain ⟨a0, a1, a2, a3, a4, a5, a6, a7, rfl⟩ := h.s8
    match i, hi with
    | 0, _ | 1, _ | 2, _ | 3, _ | 4, _ | 5, _ | 6, _ | 7, _ => rfl
  have hs := heap_setCell_same w k i (knowCells s mt mn mw) 129 (.int .i64 v) h.blk
  refine ⟨by rw [List.length_set]; exact h.len, hs.trans (by rw [hb]), h.t.at ?_, h.n.at ?_, h.y.at ?_, h.tn, h.tw, h.nw⟩
  · exact Below.heap_setCell _ _ _ _ h.kt.1.symm
  · exact Below.heap_setCell _ _ _ _ h.kt.2.1.symm
  · exact Below.heap_setCell _ _ _ _ h.kt.2.2.symm
structure PutRes (w : World) (r k mt mn mw : Nat) (o : Int) (S : S28) (st : Int) (nm : ByteArray) (e : Ending) (w' : World) : Prop where
  ans : e = .returned (.int .i64 (putE S o st nm))
  blk : RepBlk w' r o (some ⟨k, 0, none⟩)
  kn : KnowAt w' k mt mn mw (putS S o st nm) (putT S o st nm) (notesP S) (waysP S)
  chg : Chg w.heap.size (fun i => i = mt ∨ i = k) w w'
/-- Ahead of the last store of Put. -/
structure PutMid (w : World) (r k mt mn mw : Nat) (o : Int) (S : S28) (st : Int) (nm : ByteArray) (sv : Int) (b : Nat) (wc : World) : Prop where
  dot : wc.heap[b]? = some (.cells #[.int .i64 o, .int .i64 (sv + 1)] 97 (0, 0))
  blk : RepBlk wc r o (some ⟨k, 0, none⟩)
  kn : KnowAt wc k mt mn mw (S.f0.set o.toNat (sv + 1)) ((tagsP S).filter fun p => !isTag st nm p) (notesP S) (waysP S)
  chg : Chg w.heap.size (fun i => i = mt ∨ i = k) w wc
theorem PutRes.err {w w' : World} {r k mt mn mw : Nat} {o : Int} {S : S28} {st : Int} {nm : ByteArray} {v : Int} (hv : putE S o st nm = v) (h0 : v ≠ 0) (h : Rep w r k mt mn mw o S) (hb : Below w.heap.size w w') : PutRes w r k mt mn mw o S st nm (.returned (.int .i64 v)) w' :=
  ⟨by rw [hv], h.blk.below hb, by unfold putS putT; rw [hv, if_neg h0, if_neg h0]; exact h.kn.below hb, .of hb⟩
/-- What tagged has left. -/
structure TagRes (w : World) (S : S28) (st : Int) (nm : ByteArray) (ds : List S97) (v : Value) (wc : World) : Prop where
  perm : ds.Perm (dotsOf st nm (tagsP S))
  row : Kd.R k97 97 wc w.heap.size (fun k => w.heap.size ≤ k ∧ k < wc.heap.size) v ds
  base : Below w.heap.size w wc
theorem tagged_res (w : World) (r k mt mn mw : Nat) (o : Int) (S : S28) (h : Rep w r k mt mn mw o S) (hS : Rt S) (st : Int) (nm : ByteArray) (W : World) (hb : Below w.heap.size w W) :
    Calls Tryz.prog 66 #[.pointer (some ⟨r, 0, none⟩), .int .i64 st, .string nm] W fun e w' => ∃ v ds, e = .returned v ∧ TagRes w S st nm ds v w' := by
  have hl : (tagsP S).length ≤ 1000000 := by unfold tagsP; rw [List.length_map]; have := hS.tl; omega
  refine (tagged_run W r k mt mn mw o S (h.below hb) hl st nm).mono ?_
  rintro e w' ⟨v, ds, rfl, hp, hR, hb4⟩
  exact ⟨v, ds, rfl, hp, Kd.R_mono (Kd.R_lower (Kd.R_bound hR) hb.size) (fun k hk => ⟨Nat.le_trans hb.size hk.2.1, hk.2.2.1⟩), hb.trans (hb4.mono hb.size)⟩
theorem put_rep (w : World) (r k mt mn mw : Nat) (o : Int) (S : S28) (h : Rep w r k mt mn mw o S) (hS : Rt S) (ho : inR 0 7 o = true) (st : Int) (nm : ByteArray) :
    Calls Tryz.prog 26 #[.pointer (some ⟨r, 0, none⟩), .int .i64 st, .string nm] w fun e w' => PutRes w r k mt mn mw o S st nm e w' := by
  have U := Hd.mk (ofs st 0 63 w)
  have NA := Hd.mk (fun W => name_run nm W)
  have K := Hd.mk (fun W (hb : Below w.heap.size w W) b => checked_yes W r k o (h.blk.below hb) b)
  have TL : (tagsP S).length ≤ 128 := by unfold tagsP; rw [List.length_map]; exact hS.tl
  have TG := Hd.mk (tagged_res w r k mt mn mw o S h hS st nm)
  have HH := Hd.mk h
  have TLh := Hd.mk TL
  have HSh := Hd.mk hS
  obtain ⟨o0, o7⟩ := inR_iff.1 ho
  clear h hS TL ho
  go_enter Tryz.func26, Tryz.ntmps26
  go_wp2_with fail
  refine U.out.mono ?_
  rintro e w1 ⟨rfl, hb1⟩
  have B1 := Hd.mk hb1
  clear hb1
  cases g1 : inR 0 63 st with
  | false =>
    have ER := Hd.mk (show putE S o st nm = 2 by unfold putE argB; rw [g1]; rfl)
    clear g1
    go_wp2_with fail
    refine (K.out _ B1.out _).mono ?_
    rintro e w2 ⟨rfl, rfl⟩
    go_wp2_with fail
    go_ret
    exact PutRes.err ER.out (by decide) HH.out B1.out
  | true =>
    have G1 := Hd.mk g1
    clear g1
    go_wp2_with fail
    refine (NA.out _).mono ?_
    rintro e w2 ⟨rfl, hb2⟩
    have B2 := Hd.mk (B1.out.trans (hb2.mono B1.out.size))
    clear hb2
    cases g2 : nameB nm with
    | false =>
      have ER := Hd.mk (show putE S o st nm = 2 by unfold putE argB; rw [G1.out, g2]; rfl)
      clear g2
      go_wp2_with fail
      refine (K.out _ B2.out _).mono ?_
      rintro e w3 ⟨rfl, rfl⟩
      go_wp2_with fail
      go_ret
      exact PutRes.err ER.out (by decide) HH.out B2.out
    | true =>
      have GA := Hd.mk (show argB st nm = true by unfold argB; rw [g2, G1.out]; rfl)
      have E1 := Hd.mk (show putE S o st nm = if 128 ≤ ((tagsP S).length : Int) - ((dotsOf st nm (tagsP S)).length : Int) then 8 else if MC ≤ sget S.f0 o then 4 else 0 by unfold putE; rw [GA.out]; simp)
      clear g2
      go_wp2_with fail
      refine (K.out _ B2.out _).mono ?_
      rintro e w3 ⟨rfl, rfl⟩
      have q0 := (HH.out.blk.below B2.out).k
      go_wp2_with fail
      go_cut [8, 9] from 8 to 31 (fun v8 v9 wc => v8 = .pointer (some ⟨k, 0, none⟩) ∧ ∃ ds, Hd (TagRes w S st nm ds v9 wc))
      case first =>
        go_region_with (go_at_call 66; refine (TG.out _ (B2.out.trans (Below.drew (Below.refl _ _)))).mono ?_; rintro e w4 ⟨v, ds, rfl, ht⟩; have TR := Hd.mk ht; have q0 := (HH.out.blk.below ht.base).k; clear ht)
        all_goals (go_wp2_with fail; go_meet; exact ⟨rfl, ds, TR⟩)
      case rest =>
      clear q0 U NA K TG
      obtain ⟨rfl, ds, TR⟩ := hcut
      obtain ⟨A3, c3, e9, hl3, _⟩ := Kd.R_reads TR.out.row
      subst e9
      have R1 := Hd.mk (HH.out.below TR.out.base)
      have q1 := R1.out.kn.ct
      have hlen := fun ty => R1.out.kn.t.len ty
      change ∀ ty, (Builtin.len_ #[119] ty #[.map (some mt)]).run Tryz.prog wc = .ok (.int .i64 ((tagsP S).length : Int)) wc at hlen
      have hd1 : ds.length ≤ (tagsP S).length := by rw [TR.out.perm.length_eq]; exact dotsOf_len _ _ _
      have hd2 := TLh.out
      have E2 := Hd.mk (show putE S o st nm = if 128 ≤ ((tagsP S).length : Int) - (ds.length : Int) then 8 else if MC ≤ sget S.f0 o then 4 else 0 by rw [E1.out, TR.out.perm.length_eq])
      by_cases a1 : (128 : Int) ≤ ((tagsP S).length : Int) - (ds.length : Int)
      · have ER := Hd.mk (show putE S o st nm = 8 by rw [E2.out, if_pos a1])
        go_wp2_with fail
        go_ret
        exact PutRes.err ER.out (by decide) HH.out TR.out.base
      · have E3 := Hd.mk (show putE S o st nm = if MC ≤ sget S.f0 o then 4 else 0 by rw [E2.out, if_neg a1])
        have q2 := R1.out.blk.o
        have q3 := R1.out.kn.seen o.toNat (by omega)
        rw [show S.f0.getD o.toNat 0 = sget S.f0 o from rfl] at q3
        have SB := Hd.mk (show 0 ≤ sget S.f0 o ∧ sget S.f0 o ≤ MC by
          unfold sget
          rw [List.getD_eq_getElem?_getD]
          cases hg : S.f0[o.toNat]? with
          | none => simp [MC]
          | some y => exact HSh.out.sr y (List.mem_of_getElem? hg))
        generalize hsv : sget S.f0 o = sv at *
        have HSV := Hd.mk hsv
        clear hsv
        go_wp2_with fail
        go_quiet (fail)
        by_cases a2 : (1073741824 : Int) ≤ sv
        · have ER := Hd.mk (show putE S o st nm = 4 by rw [E3.out, if_pos (show MC ≤ sv from a2)])
          go_wp2_with fail
          go_ret
          exact PutRes.err ER.out (by decide) HH.out (TR.out.base.trans (below_drewN (Below.refl _ _) _))
        · have E0 := Hd.mk (show putE S o st nm = 0 by rw [E3.out, if_neg (show ¬ MC ≤ sv from a2)])
          go_wp2_with fail
          have R4 := Hd.mk (show Kd.R k97 97 (wc.drewN nq) w.heap.size (fun k => w.heap.size ≤ k ∧ k < (wc.drewN nq).heap.size) (.slice A3 ds.length c3) ds from R_chg TR.out.row HH.out.kn.t.lt (fun k hk _ => (below_drewN (Below.refl wc.heap.size wc) nq).block k hk) (below_drewN (Below.refl wc.heap.size wc) nq).size)
          have B4 := Hd.mk (TR.out.base.trans (below_drewN (Below.refl _ _) nq))
          have M4 := Hd.mk (HH.out.kn.t.below B4.out HH.out.kn.t.lt)
          have RM := Hd.mk HH.out.ne
          have KM := Hd.mk HH.out.kn.kt
          have HP := Hd.mk TR.out.perm
          have OK : Hd (∀ d ∈ ds, okD d) := ⟨fun d hd => by
            obtain ⟨p, hp1, rfl⟩ := List.mem_map.1 (HP.out.mem_iff.1 hd)
            have := (List.mem_filter.1 hp1).1
            obtain ⟨t, ht, rfl⟩ := List.mem_map.1 this
            exact HSh.out.ok.t t ht⟩
          clear q1 q2 q3 hlen a1 a2
          go_loopg [55] ds.length (fun gg v55 wq => ∃ i : Nat, v55 = .int .i64 i ∧ i + gg = ds.length ∧ Hd (MapIs CT wq mt (delAll (tagsP S) (ds.take i))) ∧ Hd (Chg w.heap.size (· = mt) w wq) ∧ Hd (Kd.R k97 97 wq w.heap.size (fun k => w.heap.size ≤ k ∧ k < wq.heap.size) (.slice A3 ds.length c3) ds))
          case atStart => exact ⟨0, rfl, by omega, ⟨by rw [List.take_zero, delAll_nil]; exact M4.out⟩, ⟨.of B4.out⟩, R4⟩
          case round =>
            clear R4 M4 B4 R1 TR
            obtain ⟨i, rfl, hi, MI, CI, RI'⟩ := hrel
            by_cases hlt : i < ds.length
            · have hltz : (i : Int) < (ds.length : Int) := by omega
              obtain ⟨ad, rfl, x0, x1⟩ := at_T97 (Kd.R_reads' RI'.out).2.2 (i : Int) (by omega) hltz
              rw [rdD, Int.toNat_natCast] at x0 x1
              have OD := Hd.mk (ok_bang OK.out i hlt)
              have TK := Hd.mk (show delAll (tagsP S) (ds.take (i + 1)) = mdel (delAll (tagsP S) (ds.take i)) ds[i]! by rw [delAll_snoc, ← take_bang ds i hlt])
              generalize ds[i]! = d at *
              obtain ⟨d0, d1⟩ := d
              simp only at x0 x1
              have C2 := Hd.mk (CI.out.alloc CI.out.size (.cells #[.int .i64 d0, .int .i64 d1] 97))
              have q1 := cell_of ((C2.out.block k HH.out.kn.lt.1 KM.out.1).trans HH.out.kn.blk) 8 (by obtain ⟨a0, a1, a2, a3, a4, a5, a6, a7, e⟩ := HH.out.kn.s8; rw [e]; rfl : _ = some (Value.map (some mt)))
              have M2 := Hd.mk (MI.out.al (.cells #[.int .i64 d0, .int .i64 d1] 97))
              have R2 := Hd.mk (show Kd.R k97 97 (wr.alloc (.cells #[.int .i64 d0, .int .i64 d1] 97)) w.heap.size (fun k => w.heap.size ≤ k ∧ k < (wr.alloc (.cells #[.int .i64 d0, .int .i64 d1] 97)).heap.size) (.slice (some ad) ds.length c3) ds from R_chg RI'.out HH.out.kn.t.lt (fun k hk _ => Below.heap_alloc _ _ _ hk) (by simp))
              go_wp2_with fail
              refine wp_region_still_tail 5 (by kernel_rfl) (by kernel_rfl) ?_
              change wpStill _ _ (World.drew _) _ _ _
              simp only [List.take_succ_cons, List.take_zero, List.drop_succ_cons, List.drop_zero]
              repeat still_step
              refine wpStill_nil ?_
              change wpList _ _ _ _ _ (World.drew _)
              refine wpL_mdel _ CT rfl _ _ rfl mt _ (⟨d0, d1⟩ : S97) OD.out rfl rfl (M2.out.below (Below.drew (Below.refl _ _)) M2.out.lt) ?_
              intro w5 hm5 ht5
              rw [← TK.out] at hm5
              have M5 := Hd.mk hm5
              have C5 := Hd.mk (show Chg w.heap.size (· = mt) w w5 from (C2.out.trans (.of (Below.drew (Below.refl _ _)))).turned ht5 C2.out.size (fun _ => rfl))
              have R5 := Hd.mk (show Kd.R k97 97 w5 w.heap.size (fun k => w.heap.size ≤ k ∧ k < w5.heap.size) (.slice (some ad) ds.length c3) ds from R_chg R2.out HH.out.kn.t.lt (fun k _ hk => turned_block ht5 hk) (ht5.grown.size))
              clear hm5 ht5 q1 x0 x1
              simp only [Act.put]
              go_wp2_with fail
              go_roundg (ds.length - (i + 1))
              case measure => omega
              case rel => exact ⟨i + 1, by first | rfl | (rw [w64 (by omega) (by omega)]; rfl), by omega, M5, C5, R5⟩
            · have hltz : ¬ (i : Int) < (ds.length : Int) := by omega
              have TE := Hd.mk (show delAll (tagsP S) (ds.take i) = (tagsP S).filter (fun p => !isTag st nm p) by
                rw [List.take_of_length_le (show ds.length ≤ i by omega), delAll_dots HSh.out.kv.tn st nm HP.out])
              have M5 := Hd.mk (show MapIs CT wr mt ((tagsP S).filter (fun p => !isTag st nm p)) by rw [← TE.out]; exact MI.out)
              have q2 := (show RepBlk wr r o (some ⟨k, 0, none⟩) from (CI.out.block r HH.out.blk.lt RM.out.2.1).trans HH.out.blk).o
              have KB := Hd.mk ((CI.out.block k HH.out.kn.lt.1 KM.out.1).trans HH.out.kn.blk)
              have K5 := Hd.mk (HH.out.kn.chgT M5.out (fun j hj => CI.out.block j (by obtain ⟨a, b, c, d⟩ := HH.out.kn.lt; rcases hj with rfl | rfl | rfl <;> assumption) (by rcases hj with rfl | rfl | rfl <;> first | exact HH.out.kn.kt.1 | exact HH.out.kn.tn.symm | exact HH.out.kn.tw.symm)))
              have q3 := K5.out.seen o.toNat (by omega)
              rw [show S.f0.getD o.toNat 0 = sv from HSV.out] at q3
              clear MI TE
              go_wp2_with fail
              have q4 := frozen_of KB.out o.toNat none
              have hw1 : wrap64 (sv + 1) = sv + 1 := by have h1 := SB.out; unfold MC at h1; exact w64 (by omega) (by omega)
              go_region
              have K6 := Hd.mk ((know_cell K5.out o.toNat (by omega) (sv + 1)).below (Below.drew (Below.refl _ _)))
              have C6 := Hd.mk (show Chg w.heap.size (fun i => i = mt ∨ i = k) w (wr.setCell ⟨k, o.toNat, none⟩ (.int .i64 (sv + 1))).drew from ((CI.out.mono (Nat.le_refl _) (fun _ _ e => .inl e)).setCell (p := ⟨k, o.toNat, none⟩) (fun _ => .inr rfl) _).trans (.of (Below.drew (Below.refl _ _))))
              obtain ⟨w6, hw6⟩ : ∃ w6, w6 = (wr.setCell ⟨k, o.toNat, none⟩ (.int .i64 (sv + 1))).drew := ⟨_, rfl⟩
              rw [← hw6] at K6 C6 ⊢
              have RB6 := Hd.mk (show RepBlk w6 r o (some ⟨k, 0, none⟩) from (C6.out.block r HH.out.blk.lt (by have h1 := RM.out; omega)).trans HH.out.blk)
              have H6 := Hd.mk hw6
              clear hw6 q2 q3 q4 hltz hlt
              have gs : sget (S.f0.set o.toNat (sv + 1)) o = sv + 1 := by
                unfold sget
                rw [List.getD_eq_getElem?_getD, List.getElem?_set_self (by rw [HH.out.kn.len]; omega)]
                rfl
              have BZ : Below w6.heap.size w6 (w6.alloc (.cells #[.int .i64 0, .int .i64 0] 97)) := below_alloc (Below.refl _ _) _
              have p0 := RB6.out.o
              have p1 := K6.out.seen o.toNat (by omega)
              have p2 := (RB6.out.below BZ).o
              have p3 := (K6.out.below BZ).seen o.toNat (by omega)
              rw [show (S.f0.set o.toNat (sv + 1)).getD o.toNat 0 = sv + 1 from gs] at p1 p3
              have MID := Hd.mk (show PutMid w r k mt mn mw o S st nm sv w6.heap.size (w6.alloc (.cells #[.int .i64 o, .int .i64 (sv + 1)] 97)).drew from
                ⟨alloc_at w6 _ _ rfl, (RB6.out.below (below_alloc (Below.refl _ _) _)).below (Below.drew (Below.refl _ _)), (K6.out.below (below_alloc (Below.refl _ _) _)).below (Below.drew (Below.refl _ _)), (C6.out.alloc C6.out.size _).trans (.of (Below.drew (Below.refl _ _)))⟩)
              clear BZ gs
              go_wp2_with fail
              go_cut [12] from 12 to 91 (fun v12 wc => ∃ b, v12 = .pointer (some ⟨b, 0, none⟩) ∧ Hd (PutMid w r k mt mn mw o S st nm sv b wc))
              case first =>
                go_region
                all_goals (go_wp2_with fail; go_meet; exact ⟨_, rfl, MID⟩)
              case rest =>
              clear p0 p1 p2 p3 MID K6 C6 RB6 H6 K5 M5 KB RI' CI
              obtain ⟨b, rfl, PM⟩ := hcut
              have okd : okD (⟨o, sv + 1⟩ : S97) := ⟨okI_of (show (-9223372036854775808 : Int) ≤ o by omega) (show o ≤ (9223372036854775807 : Int) by omega), okI_of (show (-9223372036854775808 : Int) ≤ sv + 1 by have := SB.out; omega) (show sv + 1 ≤ (9223372036854775807 : Int) by have := SB.out; unfold MC at this; omega)⟩
              have MD := PM.out.kn.t.below (Below.drew (Below.refl _ _)) PM.out.kn.t.lt
              obtain ⟨w9, mu, hm9, ht9⟩ := MD.put (by have := List.length_filter_le (fun p => !isTag st nm p) (tagsP S); unfold maxLen; omega) okd (⟨st, nm, ⟨o, sv + 1⟩⟩ : S99)
              change (Instr.mapUpdate 119 _ (.agg #[.int .i64 o, .int .i64 (sv + 1)]) (.agg #[.int .i64 st, .string nm, .int .i64 o, .int .i64 (sv + 1)])).run _ _ = _ at mu
              have p0 : wc.cell? _ = some (.int .i64 o) := cell_of PM.out.dot 0 rfl
              have p1 : wc.cell? _ = some (.int .i64 (sv + 1)) := cell_of PM.out.dot 1 rfl
              have p2 := PM.out.kn.ct
              have FIN := Hd.mk (show PutRes w r k mt mn mw o S st nm (.returned (.int .i64 0)) w9 from
                ⟨by rw [E0.out], (turned_block ht9 RM.out.2.1).trans (PM.out.blk.below (Below.drew (Below.refl _ _))), by
                  have h9 := (PM.out.kn.below (Below.drew (Below.refl _ _))).turnT hm9 ht9
                  unfold putS putT
                  rw [if_pos E0.out, if_pos E0.out, HSV.out]
                  exact h9, (PM.out.chg.trans (.of (Below.drew (Below.refl _ _)))).turned ht9 PM.out.chg.size (fun _ => .inl rfl)⟩)
              clear hm9 ht9 MD okd
              go_wp2_with fail
              go_region
              all_goals
                go_wp2_with fail
                go_ret
                exact FIN.out
end Go.Proofs.YtmeaeapopfcmbaaGreat

namespace Go.Proofs.YtmeaeapopfcmbaaGreat
open Go.RowKit Go.Proofs.YtmeaeapopfcmbaaGreatW.PrintWords Go.Proofs.YtmeaeapopfcmbaaGreatW.PrintLast Go.Proofs.YtmeaeapopfcmbaaGreatW.PrintMore PP
set_option linter.unusedVariables false
set_option linter.unusedSimpArgs false
set_option maxHeartbeats 4000000
set_option maxRecDepth 100000
def leftV (S : S28) (st : Int) : Int := if inR 0 7 st = true then leftY (waysP S) st else 0
theorem left_rep (w : World) (r k mt mn mw : Nat) (o : Int) (S : S28) (h : Rep w r k mt mn mw o S) (hS : Rt S) (st : Int) :
    Calls Tryz.prog 33 #[.pointer (some ⟨r, 0, none⟩), .int .i64 st] w fun e w' => e = .returned (.tuple #[.int .i64 (leftV S st), .int .i64 (errB (inR 0 7 st))]) ∧ Below w.heap.size w w' := by
  have U := Hd.mk (ofs st 0 7 w)
  have K := Hd.mk (fun W (hb : Below w.heap.size w W) b => checked_yes W r k o (h.blk.below hb) b)
  have HH := Hd.mk h
  have HK := Hd.mk hS.kv.yk
  have HL := Hd.mk (ways_len hS.kv.yk hS.kv.yn)
  clear h hS
  have BD := Hd.mk (fun (outs : List (S131 × Int)) (hn : outs.Nodup) (hs : ∀ p ∈ outs, p ∈ waysP S) => part_bound (f := conL st) HL.out hn hs (fun p hp => conL_bound (HK.out p hp) st))
  go_enter Tryz.func33, Tryz.ntmps33
  go_wp2_with fail
  refine U.out.mono ?_
  rintro e w1 ⟨rfl, hb1⟩
  have B1 := Hd.mk hb1
  clear hb1
  cases g1 : inR 0 7 st with
  | false =>
    have ER := Hd.mk (show leftV S st = 0 by unfold leftV; rw [g1]; rfl)
    have E2 := Hd.mk (show errB (inR 0 7 st) = 2 by rw [g1]; rfl)
    clear g1
    go_wp2_with fail
    refine (K.out _ B1.out _).mono ?_
    rintro e w2 ⟨rfl, rfl⟩
    go_wp2_with fail
    go_ret2
    exact ⟨by rw [ER.out, E2.out]; rfl, B1.out⟩
  | true =>
    have ER := Hd.mk (show leftV S st = leftY (waysP S) st by unfold leftV; rw [g1]; rfl)
    have E2 := Hd.mk (show errB (inR 0 7 st) = 0 by rw [g1]; rfl)
    clear g1
    go_wp2_with fail
    refine (K.out _ B1.out _).mono ?_
    rintro e w2 ⟨rfl, rfl⟩
    have R1 := Hd.mk (HH.out.below B1.out)
    have q0 := R1.out.blk.k
    have q1 := R1.out.kn.cw
    have HY := Hd.mk R1.out.kn.y
    have LT := Hd.mk R1.out.kn.y.lt
    generalize hY : waysP S = Y at *
    clear hY
    go_wp2_with (at_range; refine wpL_range _ CW rfl _ rfl mw Y rfl HY.out ?_; intro w3 hr hg hs; have RG := Hd.mk hr; have BW := Hd.mk (show Below w.heap.size w w3 from B1.out.grown hg B1.out.size (by simp)); clear hr hg hs)
    go_frame
    go_loopg [7] Y.length (fun gg v7 wq => ∃ (outs : List (S131 × Int)) (cn : Nat), cn ≤ gg ∧ Hd (Rng CW wq mw w2.heap.size Y outs cn) ∧ Hd (Below w.heap.size w wq) ∧ v7 = .int .i64 (sumF (conL st) outs))
    case atStart => exact ⟨[], Y.length, Nat.le_refl _, RG, BW, rfl⟩
    case round =>
      clear RG BW
      obtain ⟨outs, cn, hg, RG, BQ, rfl⟩ := hrel
      go_wp2_with (at_next; refine wpL_next _ CW rfl _ rfl mw w2.heap.size Y outs cn rfl RG.out ?gd ?gm)
      case gd =>
        intro hd
        have e := sumF_perm (conL st) hd
        rw [e]
        go_wp2_with fail
        go_ret2
        exact ⟨by rw [ER.out, E2.out]; rfl, BQ.out⟩
      case gm =>
        intro x y w3 c5 hp hno hr2 hlt hg2 hs2 hen
        obtain ⟨x0, x1, x2⟩ := x
        change (Instr.entry _).run _ _ = .ok (.tuple #[.agg #[.int .i64 x0, .int .i64 x1, .int .i64 x2], .int .i64 y]) w3 at hen
        have R2 := Hd.mk hr2
        have B2 := Hd.mk (show Below w.heap.size w w3 from BQ.out.grown hg2 BQ.out.size (by simp; exact B1.out.size))
        have b1 := BD.out outs RG.out.nodup RG.out.sub
        have b2 := BD.out _ hr2.nodup hr2.sub
        have e2 : sumF (conL st) (outs ++ [((⟨x0, x1, x2⟩ : S131), y)]) = sumF (conL st) outs + conL st (⟨x0, x1, x2⟩, y) := by rw [sumF_app]; simp [sumF]
        rw [e2] at b2
        have C2 : conL st (⟨x0, x1, x2⟩, y) = if x0 = st then (if x2 = x1 then y else if x2 = -1 then -y else 0) else 0 := rfl
        rw [C2] at b2 e2
        have E4 := Hd.mk e2
        clear hr2 hg2 hs2 hp hno e2 C2
        have NX := Hd.mk (show Below w.heap.size w (w3.alloc (.cells #[.int .i64 x0, .int .i64 x1, .int .i64 x2] 131)) from below_alloc B2.out _)
        have R3 := Hd.mk (R2.out.kept (World.grownBy_alloc w3 (.cells #[.int .i64 x0, .int .i64 x1, .int .i64 x2] 131) none) (by simp) (by simp))
        generalize hn0 : sumF (conL st) outs = n at *
        generalize hn1 : sumF (conL st) (outs ++ [((⟨x0, x1, x2⟩ : S131), y)]) = n' at *
        clear hn0
        by_cases q0 : x0 = st
        · subst q0
          rw [if_pos rfl] at b2
          have E5 := Hd.mk (show n' = n + (if x2 = x1 then y else if x2 = -1 then -y else 0) by rw [E4.out, if_pos rfl])
          have f1 : (x0 == x0) = true := by simp
          have f2 : (x0 != x0) = false := by simp
          by_cases q2 : x2 = x1
          · subst q2
            have g1 : (x2 == x2) = true := by simp
            rw [if_pos rfl] at b2
            have e3 : n' = n + y := by rw [E5.out, if_pos rfl]
            have hw : wrap64 (n + y) = n + y := by simp only [MC] at b1 b2; exact w64 (by omega) (by omega)
            go_wp2_with fail
            go_roundg c5
            case measure => omega
            case rel => exact ⟨_, c5, Nat.le_refl _, R3, NX, by rw [hn1, e3]⟩
          · have g1 : (x2 == x1) = false := by simp [q2]
            rw [if_neg q2] at b2
            by_cases q3 : x2 = -1
            · have g3 : (x2 == -1) = true := by simp [q3]
              rw [if_pos q3] at b2
              have e3 : n' = n - y := by rw [E5.out, if_neg q2, if_pos q3]; omega
              have hw : wrap64 (n - y) = n - y := by simp only [MC] at b1 b2; exact w64 (by omega) (by omega)
              clear q3 q2
              go_wp2_with fail
              go_roundg c5
              case measure => omega
              case rel => exact ⟨_, c5, Nat.le_refl _, R3, NX, by rw [hn1, e3]⟩
            · have g3 : (x2 == -1) = false := by simp [q3]
              have e3 : n' = n := by rw [E5.out, if_neg q2, if_neg q3]; omega
              clear q3 q2
              go_wp2_with fail
              go_roundg c5
              case measure => omega
              case rel => exact ⟨_, c5, Nat.le_refl _, R3, NX, by rw [hn1, e3]⟩
        · have f1 : (x0 == st) = false := by simp [q0]
          have f2 : (x0 != st) = true := by simp [q0]
          have e3 : n' = n := by rw [E4.out, if_neg q0]; omega
          go_wp2_with fail
          go_roundg c5
          case measure => omega
          case rel => exact ⟨_, c5, Nat.le_refl _, R3, NX, by rw [hn1, e3]⟩
end Go.Proofs.YtmeaeapopfcmbaaGreat

namespace Go.Proofs.YtmeaeapopfcmbaaGreat
open Go.RowKit Go.Proofs.YtmeaeapopfcmbaaGreatW.PrintWords Go.Proofs.YtmeaeapopfcmbaaGreatW.PrintLast Go.Proofs.YtmeaeapopfcmbaaGreatW.PrintMore PP
set_option linter.unusedVariables false
set_option linter.unusedSimpArgs false
set_option maxHeartbeats 4000000
set_option maxRecDepth 100000
/-- The time of the next note. -/
def tmF (L : List (Int × S102)) : Int := L.foldl (fun m p => max m (p.2.f2 + 1)) 1
theorem foldl_max (L : List (Int × S102)) : ∀ b m : Int, L.foldl (fun m p => max m (p.2.f2 + 1)) b ≤ m ↔ b ≤ m ∧ ∀ p ∈ L, p.2.f2 + 1 ≤ m := by
  induction L with
  | nil => intro b m; simp
  | cons q L ih =>
    intro b m
    rw [List.foldl_cons, ih]
    rw [Int.max_le]
    simp only [List.mem_cons, forall_eq_or_imp]
    exact ⟨fun h => ⟨h.1.1, h.1.2, h.2⟩, fun h => ⟨⟨h.1, h.2.1⟩, h.2.2⟩⟩
theorem tmF_le {L : List (Int × S102)} {m : Int} : tmF L ≤ m ↔ 1 ≤ m ∧ ∀ p ∈ L, p.2.f2 + 1 ≤ m := foldl_max L 1 m
theorem tmF_perm {L M : List (Int × S102)} (h : L.Perm M) : tmF L = tmF M := by
  apply Int.le_antisymm
  · rw [tmF_le]
    obtain ⟨h1, h2⟩ := tmF_le.1 (Int.le_refl (tmF M))
    exact ⟨h1, fun p hp => h2 p (h.mem_iff.1 hp)⟩
  · rw [tmF_le]
    obtain ⟨h1, h2⟩ := tmF_le.1 (Int.le_refl (tmF L))
    exact ⟨h1, fun p hp => h2 p (h.mem_iff.2 hp)⟩
theorem tmF_snoc (L : List (Int × S102)) (p : Int × S102) : tmF (L ++ [p]) = max (tmF L) (p.2.f2 + 1) := by
  unfold tmF
  rw [List.foldl_append]
  rfl
def argW (st : Int) (tx : ByteArray) : Bool := inR 0 63 st && decide (tx.size ≤ 32)
def writeE (S : S28) (st : Int) (tx : ByteArray) : Int := if argW st tx = false then 2 else if MC < tmF (notesP S) then 4 else 0
def writeN (S : S28) (o st : Int) (tx : ByteArray) : List (Int × S102) := if writeE S st tx = 0 then mput (notesP S) st ⟨st, tx, tmF (notesP S), o⟩ else notesP S
structure WriteRes (w : World) (mn : Nat) (o : Int) (S : S28) (st : Int) (tx : ByteArray) (e : Ending) (w' : World) : Prop where
  ans : e = .returned (.int .i64 (writeE S st tx))
  map : MapIs CN w' mn (writeN S o st tx)
  chg : Chg w.heap.size (· = mn) w w'
theorem WriteRes.err {w w' : World} {mn : Nat} {o : Int} {S : S28} {st : Int} {tx : ByteArray} {v : Int} (hv : writeE S st tx = v) (h0 : v ≠ 0) (h : MapIs CN w mn (notesP S)) (hb : Below w.heap.size w w') : WriteRes w mn o S st tx (.returned (.int .i64 v)) w' :=
  ⟨by rw [hv], by unfold writeN; rw [hv, if_neg h0]; exact h.below hb h.lt, .of hb⟩
theorem write_rep (w : World) (r k mt mn mw : Nat) (o : Int) (S : S28) (h : Rep w r k mt mn mw o S) (hS : Rt S) (st : Int) (tx : ByteArray) :
    Calls Tryz.prog 35 #[.pointer (some ⟨r, 0, none⟩), .int .i64 st, .string tx] w fun e w' => WriteRes w mn o S st tx e w' := by
  have U := Hd.mk (ofs st 0 63 w)
  have K := Hd.mk (fun W (hb : Below w.heap.size w W) b => checked_yes W r k o (h.blk.below hb) b)
  have HH := Hd.mk h
  have HSh := Hd.mk hS
  clear h hS
  go_enter Tryz.func35, Tryz.ntmps35
  go_wp2_with fail
  refine U.out.mono ?_
  rintro e w1 ⟨rfl, hb1⟩
  have B1 := Hd.mk hb1
  clear hb1
  cases g1 : inR 0 63 st with
  | false =>
    have ER := Hd.mk (show writeE S st tx = 2 by unfold writeE argW; rw [g1]; rfl)
    clear g1
    go_wp2_with fail
    refine (K.out _ B1.out _).mono ?_
    rintro e w2 ⟨rfl, rfl⟩
    go_wp2_with fail
    go_ret
    exact WriteRes.err ER.out (by decide) HH.out.kn.n B1.out
  | true =>
    have G1 := Hd.mk g1
    obtain ⟨s0, s1⟩ := inR_iff.1 g1
    clear g1
    by_cases g2 : (tx.size : Int) ≤ 32
    · have GA := Hd.mk (show argW st tx = true by unfold argW; rw [G1.out, decide_eq_true (show tx.size ≤ 32 by omega)]; rfl)
      have E1 := Hd.mk (show writeE S st tx = if MC < tmF (notesP S) then 4 else 0 by unfold writeE; rw [GA.out]; simp)
      go_wp2_with fail
      refine (K.out _ B1.out _).mono ?_
      rintro e w2 ⟨rfl, rfl⟩
      have R1 := Hd.mk (HH.out.below B1.out)
      have q0 := R1.out.blk.k
      have q1 := R1.out.kn.cn
      have HN := Hd.mk R1.out.kn.n
      have TB : Hd (∀ p ∈ notesP S, 1 ≤ p.2.f2 ∧ p.2.f2 ≤ MC) := ⟨fun p hp => by
        have := (HSh.out.kv.nk p hp).2
        simp only [noteB, Bool.and_eq_true, inR_iff] at this
        omega⟩
      generalize hN : notesP S = N at HN TB
      have HNN := Hd.mk hN
      clear hN
      go_wp2_with (at_range; refine wpL_range _ CN rfl _ rfl mn N rfl HN.out ?_; intro w3 hr hg hs; have RG := Hd.mk hr; have BW := Hd.mk (show Below w.heap.size w w3 from B1.out.grown hg B1.out.size (by simp)); clear hr hg hs)
      go_frame
      go_loopg [8] N.length (fun gg v8 wq => ∃ (outs : List (Int × S102)) (cn : Nat), cn ≤ gg ∧ Hd (Rng CN wq mn w2.heap.size N outs cn) ∧ Hd (Below w.heap.size w wq) ∧ v8 = .int .i64 (tmF outs))
      case atStart => exact ⟨[], N.length, Nat.le_refl _, RG, BW, rfl⟩
      case round =>
        clear RG BW
        obtain ⟨outs, cn, hg, RG, BQ, rfl⟩ := hrel
        go_wp2_with (at_next; refine wpL_next _ CN rfl _ rfl mn w2.heap.size N outs cn rfl RG.out ?gd ?gm)
        case gd =>
          intro hd
          have e := tmF_perm hd
          rw [e]
          have TE := Hd.mk (show tmF (notesP S) = tmF N by rw [HNN.out])
          have TU := Hd.mk (show 1 ≤ tmF N ∧ tmF N ≤ MC + 1 from ⟨(tmF_le.1 (Int.le_refl _)).1, tmF_le.2 ⟨by decide, fun p hp => by have := TB.out p hp; omega⟩⟩)
          have E2 := Hd.mk (show writeE S st tx = if MC < tmF N then 4 else 0 by rw [E1.out, TE.out])
          generalize tmF N = tm at *
          by_cases a1 : (1073741824 : Int) < tm
          · have ER := Hd.mk (show writeE S st tx = 4 by rw [E2.out, if_pos (show MC < tm from a1)])
            go_wp2_with fail
            go_ret
            exact WriteRes.err ER.out (by decide) HH.out.kn.n BQ.out
          · have ER := Hd.mk (show writeE S st tx = 0 by rw [E2.out, if_neg (show ¬ MC < tm from a1)])
            have RQ := HH.out.below BQ.out
            have p0 := RQ.blk.k
            have p1 := RQ.blk.o
            have p2 := RQ.kn.cn
            have MD := RQ.kn.n.below (Below.drew (Below.refl _ _)) RQ.kn.n.lt
            have hlen : (notesP S).length < maxLen := by
              have h1 := HSh.out.kv.nn
              have h2 := nodup_len 64 ((notesP S).map fun p => p.1.toNat) (by
                rw [List.Nodup, List.pairwise_map]
                refine List.Pairwise.imp_of_mem (fun {p q} hp hq hne e => hne ?_) (nodup_key h1)
                have a := (HSh.out.kv.nk p hp)
                have b := (HSh.out.kv.nk q hq)
                simp only [noteB, Bool.and_eq_true, inR_iff] at a b
                omega) (fun x hx => by
                  obtain ⟨p, hp, rfl⟩ := List.mem_map.1 hx
                  have a := (HSh.out.kv.nk p hp)
                  simp only [noteB, Bool.and_eq_true, inR_iff] at a
                  omega)
              rw [List.length_map] at h2
              unfold maxLen
              omega
            obtain ⟨w9, mu, hm9, ht9⟩ := MD.put hlen (show CN.ok st from okI_of (by omega) (by omega)) (⟨st, tx, tm, o⟩ : S102)
            change (Instr.mapUpdate 120 _ (.int .i64 st) (.agg #[.int .i64 st, .string tx, .int .i64 tm, .int .i64 o])).run _ _ = _ at mu
            have FIN := Hd.mk (show WriteRes w mn o S st tx (.returned (.int .i64 0)) w9 from
              ⟨by rw [ER.out], by unfold writeN; rw [if_pos ER.out, TE.out]; exact hm9, ((Chg.of BQ.out).trans (.of (Below.drew (Below.refl _ _)))).turned ht9 BQ.out.size (fun _ => rfl)⟩)
            clear hm9 ht9 MD RQ hlen
            go_wp2_with fail
            go_region
            all_goals
              go_wp2_with fail
              go_ret
              exact FIN.out
        case gm =>
          intro x y w3 c5 hp hno hr2 hlt hg2 hs2 hen
          obtain ⟨n0, n1, n2, n3⟩ := y
          change (Instr.entry _).run _ _ = .ok (.tuple #[.int .i64 x, .agg #[.int .i64 n0, .string n1, .int .i64 n2, .int .i64 n3]]) w3 at hen
          have BX := Hd.mk (show Below w.heap.size w (w3.alloc (.cells #[.int .i64 n0, .string n1, .int .i64 n2, .int .i64 n3] 102)) from below_alloc (BQ.out.grown hg2 BQ.out.size (by simp; exact B1.out.size)) _)
          have R3 := Hd.mk (hr2.kept (World.grownBy_alloc w3 (.cells #[.int .i64 n0, .string n1, .int .i64 n2, .int .i64 n3] 102) none) (by simp) (by simp))
          have SN := Hd.mk (tmF_snoc outs (x, ⟨n0, n1, n2, n3⟩))
          have tb := TB.out _ hp
          simp only [MC] at tb
          have hw : wrap64 (n2 + 1) = n2 + 1 := w64 (by omega) (by omega)
          clear hr2 hg2 hs2 hp hno
          go_wp2_with fail
          go_roundg c5
          case measure => omega
          case rel => exact ⟨_, c5, Nat.le_refl _, R3, BX, by rw [SN.out]⟩
    · have ER := Hd.mk (show writeE S st tx = 2 by unfold writeE argW; rw [G1.out, decide_eq_false (show ¬ tx.size ≤ 32 by omega)]; rfl)
      go_wp2_with fail
      refine (K.out _ B1.out _).mono ?_
      rintro e w2 ⟨rfl, rfl⟩
      go_wp2_with fail
      go_ret
      exact WriteRes.err ER.out (by decide) HH.out.kn.n B1.out
end Go.Proofs.YtmeaeapopfcmbaaGreat

namespace Go.Proofs.YtmeaeapopfcmbaaGreat
open Go.RowKit Go.Proofs.YtmeaeapopfcmbaaGreatW.PrintWords Go.Proofs.YtmeaeapopfcmbaaGreatW.PrintLast Go.Proofs.YtmeaeapopfcmbaaGreatW.PrintMore PP
set_option linter.unusedVariables false
set_option linter.unusedSimpArgs false
set_option maxHeartbeats 4000000
set_option maxRecDepth 100000
/-- Does a tag stay, beside one who has T' and has seen s'? -/
def keepB (s' : List Int) (T' : List (S97 × S99)) (p : S97 × S99) : Bool := (mget T' p.1).isSome || decide (sget s' p.1.f0 < p.1.f1)
/-- What is in the map so far. -/
structure StayAt (w : World) (mo : Nat) (s' : List Int) (T' O outs : List (S97 × S99)) (W : World) : Prop where
  map : ∃ O', MapIs CT W mo O' ∧ O'.length ≤ O.length + outs.length ∧ ∀ x, mget O' x = (mget (outs.filter (keepB s' T')) x).or (mget O x)
  chg : Chg w.heap.size (· = mo) w W
theorem StayAt.st {w W W' : World} {mo : Nat} {s' : List Int} {T' O outs : List (S97 × S99)} (h : StayAt w mo s' T' O outs W) (hb : Below W.heap.size W W') : StayAt w mo s' T' O outs W' := by
  obtain ⟨⟨O', h1, h2⟩, h3⟩ := h
  exact ⟨⟨O', h1.below hb h1.lt, h2⟩, h3.below_step hb (Nat.le_refl _)⟩
theorem Rng.below {α β : Type} [DecidableEq α] {C : MK Tryz.prog α β} {w w' : World} {b r cnt : Nat} {L outs : List (α × β)} (h : Rng C w b r L outs cnt) (hb : Below w.heap.size w w') : Rng C w' b r L outs cnt := h.at (hb.block b h.map.lt) (hb.block r h.lt)
theorem stay_put {k : S97 × S99 → Bool} {O O' outs : List (S97 × S99)} {p : S97 × S99} (h : ∀ x, mget O' x = (mget (outs.filter k) x).or (mget O x)) (hk : k p = true) (hn : ((outs ++ [p]).map Prod.fst).Nodup) : ∀ x, mget (mput O' p.1 p.2) x = (mget ((outs ++ [p]).filter k) x).or (mget O x) := by
  intro x
  rw [mget_mput, List.filter_append, mget_app, h x]
  have e : [p].filter k = [p] := by simp [hk]
  rw [e, mget_cons, mget_nil]
  by_cases hx : x = p.1
  · subst hx
    have h0 : mget (outs.filter k) p.1 = none := by
      rw [mget_none]
      intro q hq e
      rw [List.map_append, List.nodup_append] at hn
      exact hn.2.2 q.1 (List.mem_map.2 ⟨q, (List.mem_filter.1 hq).1, rfl⟩) p.1 (by simp) e
    simp [h0]
  · rw [if_neg hx, if_neg (fun e => hx e.symm)]
    simp
theorem stay_skip {k : S97 × S99 → Bool} {outs : List (S97 × S99)} {p : S97 × S99} (hk : k p = false) : (outs ++ [p]).filter k = outs.filter k := by
  rw [List.filter_append]
  simp [hk]
theorem StayAt.put {w W W' : World} {mo : Nat} {s' : List Int} {T' O O' outs : List (S97 × S99)} {p : S97 × S99} (hc : Chg w.heap.size (· = mo) w W) (hl : O'.length ≤ O.length + outs.length) (hg : ∀ x, mget O' x = (mget (outs.filter (keepB s' T')) x).or (mget O x)) (hk : keepB s' T' p = true) (hn : ((outs ++ [p]).map Prod.fst).Nodup) (hm : MapIs CT W' mo (mput O' p.1 p.2)) (ht : W.mapTurned W' mo) : StayAt w mo s' T' O (outs ++ [p]) W' :=
  ⟨⟨_, hm, by have := mput_len O' p.1 p.2; simp; omega, stay_put hg hk hn⟩, hc.turned ht hc.size (fun _ => rfl)⟩
theorem StayAt.skip {w W : World} {mo : Nat} {s' : List Int} {T' O outs : List (S97 × S99)} {p : S97 × S99} (h : StayAt w mo s' T' O outs W) (hk : keepB s' T' p = false) : StayAt w mo s' T' O (outs ++ [p]) W := by
  obtain ⟨⟨O', h1, h2, h3⟩, h4⟩ := h
  exact ⟨⟨O', h1, by simp; omega, fun x => by rw [stay_skip hk]; exact h3 x⟩, h4⟩
/-- In a round of stay. -/
structure StayMid (w w3 : World) (mta mo : Nat) (s' : List Int) (T' O T outs : List (S97 × S99)) (p : S97 × S99) (c5 : Nat) (W : World) : Prop where
  st : StayAt w mo s' T' O outs W
  rg : Rng CT W mta w.heap.size T (outs ++ [p]) c5
  d : W.heap[w3.heap.size]? = some (.cells #[.int .i64 p.1.f0, .int .i64 p.1.f1] 97 (0, 0))
  t : W.heap[w3.heap.size + 1]? = some (.cells #[.int .i64 p.2.f0, .string p.2.f1, .int .i64 p.2.f2.f0, .int .i64 p.2.f2.f1] 99 (0, 0))
theorem StayMid.below {w w3 W W' : World} {mta mo : Nat} {s' : List Int} {T' O T outs : List (S97 × S99)} {p : S97 × S99} {c5 : Nat} (h : StayMid w w3 mta mo s' T' O T outs p c5 W) (hb : Below W.heap.size W W') : StayMid w w3 mta mo s' T' O T outs p c5 W' :=
  ⟨h.st.st hb, h.rg.below hb, (hb.block _ (Array.getElem?_eq_some_iff.1 h.d).1).trans h.d, (hb.block _ (Array.getElem?_eq_some_iff.1 h.t).1).trans h.t⟩
theorem stay_run (w : World) (ka mta mna mwa kb mtb mnb mwb mo : Nat) (s : List Int) (T : List (S97 × S99)) (N : List (Int × S102)) (Y : List (S131 × Int)) (s' : List Int) (T' : List (S97 × S99)) (N' : List (Int × S102)) (Y' : List (S131 × Int)) (O : List (S97 × S99))
    (ha : KnowAt w ka mta mna mwa s T N Y) (hb : KnowAt w kb mtb mnb mwb s' T' N' Y') (ho : MapIs CT w mo O) (hT : ∀ p ∈ T, 0 ≤ p.1.f0 ∧ p.1.f0 ≤ 7) (hl : T.length ≤ 1000 ∧ O.length ≤ 1000) (hna : ∀ i, i = ka ∨ i = mta ∨ i = mna ∨ i = mwa → i ≠ mo) (hnb : ∀ i, i = kb ∨ i = mtb ∨ i = mnb ∨ i = mwb → i ≠ mo) :
    Calls Tryz.prog 125 #[.pointer (some ⟨ka, 0, none⟩), .pointer (some ⟨kb, 0, none⟩), .map (some mo)] w fun e w' => e = .returned (.tuple #[]) ∧ StayAt w mo s' T' O T w' := by
  have HA := Hd.mk ha
  have HB := Hd.mk hb
  have HO := Hd.mk ho
  have HT := Hd.mk hT
  have HL := Hd.mk hl
  have NA := Hd.mk hna
  have NB := Hd.mk hnb
  have LT := Hd.mk ha.t.lt
  have LO := Hd.mk ho.lt
  have q0 := ha.ct
  have HY := Hd.mk ha.t
  clear ha hb ho hT hl hna hnb
  go_enter Tryz.func125, Tryz.ntmps125
  go_wp2_with (at_range; refine wpL_range _ CT rfl _ rfl mta T rfl HY.out ?_; intro w1 hr hg hs; have RG := Hd.mk hr; have BW := Hd.mk (show Below w.heap.size w w1 from (Below.refl _ _).grown hg (Nat.le_refl _) (by simp)); clear hr hg hs)
  go_frame
  go_loopg [] T.length (fun gg wq => ∃ (outs : List (S97 × S99)) (cn : Nat), cn ≤ gg ∧ Hd (Rng CT wq mta w.heap.size T outs cn) ∧ Hd (StayAt w mo s' T' O outs wq))
  case atStart => exact ⟨[], T.length, Nat.le_refl _, RG, ⟨⟨O, HO.out.below BW.out HO.out.lt, by simp, fun x => by simp [mget_nil]⟩, .of BW.out⟩⟩
  case round =>
    clear RG BW
    obtain ⟨outs, cn, hg, RG, SQ⟩ := hrel
    go_wp2_with (at_next; refine wpL_next _ CT rfl _ rfl mta w.heap.size T outs cn rfl RG.out ?gd ?gm)
    case gd =>
      intro hd
      have FIN := Hd.mk (show StayAt w mo s' T' O T wr from by
        obtain ⟨⟨O', h1, h2, h3⟩, h4⟩ := SQ.out
        refine ⟨⟨O', h1, by rw [← hd.length_eq]; exact h2, fun x => ?_⟩, h4⟩
        rw [h3 x]
        congr 1
        have hn : ((T.filter (keepB s' T')).map Prod.fst).Nodup := (HY.out.nodup).sublist (List.Sublist.map _ List.filter_sublist)
        exact (mget_perm hn (hd.filter _).symm x))
      clear hd
      go_wp2_with fail
      go_end0
      exact ⟨rfl, FIN.out⟩
    case gm =>
      intro x y w3 c5 hp hno hr2 hlt hg2 hs2 hen
      obtain ⟨d0, d1⟩ := x
      obtain ⟨t0, t1, e0, e1⟩ := y
      change (Instr.entry _).run _ _ = .ok (.tuple #[.agg #[.int .i64 d0, .int .i64 d1], .agg #[.int .i64 t0, .string t1, .int .i64 e0, .int .i64 e1]]) w3 at hen
      have OFF := Hd.mk (HT.out _ hp)
      have S3 := Hd.mk (show StayAt w mo s' T' O outs w3 from by
        obtain ⟨⟨O', h1, h2⟩, h4⟩ := SQ.out
        exact ⟨⟨O', h1.kept hg2 (fun e => by injection e with e; have := LO.out; omega), h2⟩, h4.grown hg2 h4.size (fun j e hj => by injection e with e; omega)⟩)
      have M4 := Hd.mk (show StayMid w w3 mta mo s' T' O T outs (⟨d0, d1⟩, ⟨t0, t1, e0, e1⟩) c5 ((w3.alloc (.cells #[.int .i64 d0, .int .i64 d1] 97)).alloc (.cells #[.int .i64 t0, .string t1, .int .i64 e0, .int .i64 e1] 99)) from
        ⟨(S3.out.st (below_alloc (Below.refl _ _) _)).st (below_alloc (Below.refl _ _) _), (hr2.below (below_alloc (Below.refl _ _) _)).below (below_alloc (Below.refl _ _) _), (Below.heap_alloc _ _ _ (by simp)).trans (alloc_at _ _ _ rfl), alloc_at _ _ _ (by simp)⟩)
      have OKD := Hd.mk (HY.out.ok _ hp)
      clear hr2 hg2 hs2 hp hno S3 SQ RG
      obtain ⟨W4, hW4⟩ : ∃ W4, W4 = (w3.alloc (.cells #[.int .i64 d0, .int .i64 d1] 97)).alloc (.cells #[.int .i64 t0, .string t1, .int .i64 e0, .int .i64 e1] 99) := ⟨_, rfl⟩
      rw [← hW4] at M4
      have H4 := Hd.mk hW4
      have hbk := M4.out.st.chg.know HB.out NB.out
      have p0 : W4.cell? _ = some (.int .i64 d0) := cell_of M4.out.d 0 rfl
      have p1 : W4.cell? _ = some (.int .i64 d1) := cell_of M4.out.d 1 rfl
      have p2 := hbk.ct
      have BZ : Below W4.heap.size W4 (W4.alloc (.cells #[.int .i64 0, .string ⟨#[]⟩, .int .i64 0, .int .i64 0] 99)) := below_alloc (Below.refl _ _) _
      have p3 : (W4.alloc (.cells #[.int .i64 0, .string ⟨#[]⟩, .int .i64 0, .int .i64 0] 99)).cell? _ = some (.int .i64 d0) := cell_of (M4.out.below BZ).d 0 rfl
      have p4 : (W4.alloc (.cells #[.int .i64 0, .string ⟨#[]⟩, .int .i64 0, .int .i64 0] 99)).cell? _ = some (.int .i64 d1) := cell_of (M4.out.below BZ).d 1 rfl
      have p5 := (hbk.below BZ).ct
      have lk := (hbk.t.below (Below.drew (Below.refl _ _)) hbk.t.lt).look_ok OKD.out
      have lk2 := ((hbk.below BZ).t.below (Below.drew (Below.refl _ _)) (hbk.below BZ).t.lt).look_ok OKD.out
      generalize hq : mget T' (⟨d0, d1⟩ : S97) = g at lk lk2
      have HQ := Hd.mk hq
      clear hq hbk BZ
      generalize g.getD CT.z = z at lk lk2
      obtain ⟨z0, z1, z2, z3⟩ := z
      change (Instr.lookup 119 _ (.agg #[.int .i64 d0, .int .i64 d1]) true).run _ _ = .ok (.tuple #[.agg #[.int .i64 z0, .string z1, .int .i64 z2, .int .i64 z3], .bool g.isSome]) _ at lk
      change (Instr.lookup 119 _ (.agg #[.int .i64 d0, .int .i64 d1]) true).run _ _ = .ok (.tuple #[.agg #[.int .i64 z0, .string z1, .int .i64 z2, .int .i64 z3], .bool g.isSome]) _ at lk2
      generalize hi : g.isSome = gi at lk lk2
      have HI := Hd.mk hi
      clear hi
      have MF := Hd.mk ((M4.out.below (below_alloc (Below.refl _ _) (.cells #[.int .i64 z0, .string z1, .int .i64 z2, .int .i64 z3] 99))).below (Below.drew (Below.refl _ _)))
      have SZ := Hd.mk (show W4.heap.size = w3.heap.size + 2 by rw [hW4]; simp)
      go_wp2_with fail
      rw [← hW4]
      clear hW4
      go_cut [8, 9] from 20 to 28 (fun v8 v9 wc => v9 = .bool gi ∧ Hd (StayMid w w3 mta mo s' T' O T outs (⟨d0, d1⟩, ⟨t0, t1, e0, e1⟩) c5 wc))
      case first =>
        go_region
        all_goals (go_wp2_with fail; go_meet; exact ⟨rfl, MF⟩)
      case rest =>
      clear p0 p1 p2 p3 p4 p5 lk lk2 MF M4 H4
      obtain ⟨rfl, MD⟩ := hcut
      have hbk := MD.out.st.chg.know HB.out NB.out
      have p0 : wc.cell? _ = some (.int .i64 d0) := cell_of MD.out.d 0 rfl
      have p1 : wc.cell? _ = some (.int .i64 d1) := cell_of MD.out.d 1 rfl
      obtain ⟨o0, o7⟩ := OFF.out
      change 0 ≤ d0 at o0
      change d0 ≤ 7 at o7
      have p2 := hbk.seen d0.toNat (by omega)
      have KQ := Hd.mk (show keepB s' T' (⟨d0, d1⟩, ⟨t0, t1, e0, e1⟩) = (gi || decide (sget s' d0 < d1)) by unfold keepB; rw [HQ.out, HI.out])
      rw [show s'.getD d0.toNat 0 = sget s' d0 from rfl] at p2
      generalize sget s' d0 = sv at p2 KQ
      clear hbk
      have p3 : wc.cell? _ = some (.int .i64 t0) := cell_of MD.out.t 0 rfl
      have p4 : wc.cell? _ = some (.string t1) := cell_of MD.out.t 1 rfl
      have p5 : wc.cell? _ = some (.int .i64 e0) := cell_of MD.out.t 2 rfl
      have p6 : wc.cell? _ = some (.int .i64 e1) := cell_of MD.out.t 3 rfl
      have NMO := Hd.mk (show mta ≠ mo ∧ w.heap.size ≠ mo from ⟨NA.out _ (.inr (.inl rfl)), by have := LO.out; omega⟩)
      cases gi with
      | true =>
        have KP := Hd.mk (show keepB s' T' (⟨d0, d1⟩, ⟨t0, t1, e0, e1⟩) = true by rw [KQ.out]; simp )
        go_wp2_with fail
        go_quiet (fail)
        obtain ⟨O', hO, hOl, hOg⟩ := MD.out.st.map
        have HO' := Hd.mk hO
        have OL := Hd.mk hOl
        have OG := Hd.mk hOg
        clear hO hOl hOg
        have LEN := Hd.mk (show O'.length < maxLen by
          have h1 := OL.out
          have h2 := HL.out
          have h3 := sub_len MD.out.rg.nodup MD.out.rg.sub
          simp at h3
          unfold maxLen
          omega)
        go_wp2_with (at_mapUpdate; refine wpL_mput _ CT rfl _ _ _ rfl mo O' (⟨d0, d1⟩ : S97) (⟨t0, t1, e0, e1⟩ : S99) OKD.out rfl rfl rfl (HO'.out.drewN nq) LEN.out ?_; intro w9 hm9 ht9; have M9 := Hd.mk hm9; have T9 := Hd.mk ht9; clear hm9 ht9)
        have NN := nodup_part HY.out.nodup MD.out.rg.nodup MD.out.rg.sub
        have S9 := Hd.mk (StayAt.put (p := (⟨d0, d1⟩, ⟨t0, t1, e0, e1⟩)) (chg_drewN MD.out.st.chg nq) OL.out OG.out KP.out NN M9.out T9.out)
        have R9 := Hd.mk ((MD.out.rg.below (below_drewN (Below.refl _ _) nq)).at (w' := w9) (turned_block T9.out NMO.out.1) (turned_block T9.out NMO.out.2))
        go_roundg c5
        case measure => omega
        case rel => exact ⟨_, c5, Nat.le_refl _, R9, S9⟩
      | false =>
        by_cases a1 : sv < d1
        · have a2 : decide (sv < d1) = true := decide_eq_true a1
          have KP := Hd.mk (show keepB s' T' (⟨d0, d1⟩, ⟨t0, t1, e0, e1⟩) = true by rw [KQ.out]; simp [a1])
          go_wp2_with fail
          go_quiet (fail)
          obtain ⟨O', hO, hOl, hOg⟩ := MD.out.st.map
          have HO' := Hd.mk hO
          have OL := Hd.mk hOl
          have OG := Hd.mk hOg
          clear hO hOl hOg
          have LEN := Hd.mk (show O'.length < maxLen by
            have h1 := OL.out
            have h2 := HL.out
            have h3 := sub_len MD.out.rg.nodup MD.out.rg.sub
            simp at h3
            unfold maxLen
            omega)
          go_wp2_with (at_mapUpdate; refine wpL_mput _ CT rfl _ _ _ rfl mo O' (⟨d0, d1⟩ : S97) (⟨t0, t1, e0, e1⟩ : S99) OKD.out rfl rfl rfl (HO'.out.drewN nq) LEN.out ?_; intro w9 hm9 ht9; have M9 := Hd.mk hm9; have T9 := Hd.mk ht9; clear hm9 ht9)
          have NN := nodup_part HY.out.nodup MD.out.rg.nodup MD.out.rg.sub
          have S9 := Hd.mk (StayAt.put (p := (⟨d0, d1⟩, ⟨t0, t1, e0, e1⟩)) (chg_drewN MD.out.st.chg nq) OL.out OG.out KP.out NN M9.out T9.out)
          have R9 := Hd.mk ((MD.out.rg.below (below_drewN (Below.refl _ _) nq)).at (w' := w9) (turned_block T9.out NMO.out.1) (turned_block T9.out NMO.out.2))
          go_roundg c5
          case measure => omega
          case rel => exact ⟨_, c5, Nat.le_refl _, R9, S9⟩
        · have a2 : decide (sv < d1) = false := decide_eq_false a1
          have KP := Hd.mk (show keepB s' T' (⟨d0, d1⟩, ⟨t0, t1, e0, e1⟩) = false by rw [KQ.out]; simpa using a1)
          go_wp2_with fail
          go_quiet (fail)
          have S9 := Hd.mk ((MD.out.st.st (below_drewN (Below.refl _ _) nq)).skip KP.out)
          have R9 := Hd.mk (MD.out.rg.below (below_drewN (Below.refl _ _) nq))
          go_wp2_with fail
          go_roundg c5
          case measure => omega
          case rel => exact ⟨_, c5, Nat.le_refl _, R9, S9⟩
end Go.Proofs.YtmeaeapopfcmbaaGreat

namespace Go.Proofs.YtmeaeapopfcmbaaGreat
open Go.RowKit Go.Proofs.YtmeaeapopfcmbaaGreatW.PrintWords Go.Proofs.YtmeaeapopfcmbaaGreatW.PrintLast Go.Proofs.YtmeaeapopfcmbaaGreatW.PrintMore PP
set_option linter.unusedVariables false
set_option linter.unusedSimpArgs false
set_option maxHeartbeats 4000000
set_option maxRecDepth 100000
theorem comb_none {β : Type} (c : β → β → Int) (u : Option β) : comb c u none = u := by cases u <;> rfl
/-- The rows so far are those of both. -/
def MrgTo {α β : Type} [DecidableEq α] (c : β → β → Int) (L outs R : List (α × β)) : Prop := R.length ≤ L.length + outs.length ∧ ∀ x, mget R x = comb c (mget L x) (mget outs x)
theorem mrgTo_nil {α β : Type} [DecidableEq α] (c : β → β → Int) (L : List (α × β)) : MrgTo c L [] L := ⟨by simp, fun x => by rw [mget_nil, comb_none]⟩
theorem mrgTo_snoc {α β : Type} [DecidableEq α] {c : β → β → Int} {L outs R : List (α × β)} {p : α × β} (h : MrgTo c L outs R) (hn : ((outs ++ [p]).map Prod.fst).Nodup) : MrgTo c L (outs ++ [p]) (tput c R p.1 p.2) := by
  refine ⟨by have := tput_len (c := c) R p.1 p.2; have := h.1; simp; omega, fun x => ?_⟩
  have h0 : mget outs p.1 = none := by
    rw [mget_none]
    intro q hq e
    rw [List.map_append, List.nodup_append] at hn
    exact hn.2.2 q.1 (List.mem_map.2 ⟨q, hq, rfl⟩) p.1 (by simp) e
  rw [mget_tput, mget_snoc, h.2 p.1, h.2 x, h0, comb_none]
  by_cases hx : x = p.1
  · subst hx
    rw [if_pos rfl, if_pos rfl, h0]
    rfl
  · rw [if_neg hx, if_neg (fun e => hx e.symm), Option.or_none]
/-- Ahead of the loop of merged. -/
structure MClsN (w : World) (m1 m2 : Nat) (W : World) : Prop where
  base : Below w.heap.size w W
  b1 : W.heap[w.heap.size]? = some (.cells #[.map (some m1), .func (.func 122) #[] #[]] 123 (0, 0))
  b2 : W.heap[w.heap.size + 1]? = some (.cells #[.map (some m2), .func (.func 122) #[] #[]] 123 (0, 0))
  b3 : ∃ cs, W.heap[w.heap.size + 2]? = some (.cells cs 123 (0, 0)) ∧ cs.size = 2
theorem MClsN.below {w W W' : World} {m1 m2 : Nat} (h : MClsN w m1 m2 W) (hb : Below W.heap.size W W') : MClsN w m1 m2 W' := by
  obtain ⟨cs, h1, h2⟩ := h.b3
  exact ⟨h.base.trans (hb.mono h.base.size), (hb.block _ (Array.getElem?_eq_some_iff.1 h.b1).1).trans h.b1, (hb.block _ (Array.getElem?_eq_some_iff.1 h.b2).1).trans h.b2, cs, (hb.block _ (Array.getElem?_eq_some_iff.1 h1).1).trans h1, h2⟩
structure MMidN (w : World) (m1 m2 : Nat) (L : List (Int × S102)) (b m : Nat) (W : World) : Prop where
  cl : MClsN w m1 m2 W
  t : W.heap[b]? = some (.cells #[.map (some m), .func (.func 122) #[] #[]] 123 (0, 0))
  map : MapIs CN W m L
  mb : w.heap.size ≤ m
theorem mmidN_A {w w4 : World} {m1 m2 m : Nat} {L : List (Int × S102)} (hC : MClsN w m1 m2 w4) (hM : MapIs CN w4 m L) (hm : w.heap.size ≤ m) : MMidN w m1 m2 L w4.heap.size m (w4.alloc (.cells #[.map (some m), .func (.func 122) #[] #[]] 123)) :=
  ⟨hC.below (below_alloc (Below.refl _ _) _), alloc_at _ _ _ rfl, hM.al _, hm⟩
theorem mmidN_B {w w4 : World} {m1 m2 m b : Nat} {L : List (Int × S102)} (hC : MClsN w m1 m2 w4) (hM : MapIs CN w4 m L) (hm : w.heap.size ≤ m) (hz : w4.heap[b]? = some (.cells #[.map none, .nilFunc] 123 (0, 0))) (hb : w.heap.size + 3 ≤ b) : MMidN w m1 m2 L b m ((w4.setCell ⟨b, 0, none⟩ (.map (some m))).setCell ⟨b, 1, none⟩ (.func (.func 122) #[] #[])) := by
  have e1 := heap_setCell_same w4 b 0 _ 123 (.map (some m)) hz
  have e2 := heap_setCell_same _ b 1 _ 123 (.func (.func 122) #[] #[]) e1
  have o : ∀ i, i ≠ b → ((w4.setCell ⟨b, 0, none⟩ (.map (some m))).setCell ⟨b, 1, none⟩ (.func (.func 122) #[] #[])).heap[i]? = w4.heap[i]? := fun i hi => (Below.heap_setCell _ _ _ _ hi).trans (Below.heap_setCell _ _ _ _ hi)
  obtain ⟨cs, c1, c2⟩ := hC.b3
  exact ⟨⟨(hC.base.setCell (p := ⟨b, 0, none⟩) (by show w.heap.size ≤ b; omega) _).setCell (p := ⟨b, 1, none⟩) (by show w.heap.size ≤ b; omega) _, (o _ (by omega)).trans hC.b1, (o _ (by omega)).trans hC.b2, cs, (o _ (by omega)).trans c1, c2⟩, e2, hM.at (o m (hM.ne hz).symm), hm⟩
theorem MMidN.below {w W W' : World} {m1 m2 b m : Nat} {L : List (Int × S102)} (h : MMidN w m1 m2 L b m W) (hb : Below W.heap.size W W') : MMidN w m1 m2 L b m W' :=
  ⟨h.cl.below hb, (hb.block _ (Array.getElem?_eq_some_iff.1 h.t).1).trans h.t, h.map.below hb h.map.lt, h.mb⟩
theorem MMidN.keep {w W W' : World} {m1 m2 b m j : Nat} {L L' : List (Int × S102)} (h : MMidN w m1 m2 L b m W) (hm : MapIs CN W' m L') (hb : Below w.heap.size w W') (hk : ∀ i, i = w.heap.size ∨ i = w.heap.size + 1 ∨ i = w.heap.size + 2 ∨ i = b → W'.heap[i]? = W.heap[i]?) : MMidN w m1 m2 L' b m W' := by
  obtain ⟨cs, c1, c2⟩ := h.cl.b3
  exact ⟨⟨hb, (hk _ (.inl rfl)).trans h.cl.b1, (hk _ (.inr (.inl rfl))).trans h.cl.b2, cs, (hk _ (.inr (.inr (.inl rfl)))).trans c1, c2⟩, (hk _ (.inr (.inr (.inr rfl)))).trans h.t, hm, h.mb⟩
theorem mergedN_run (w : World) (m1 m2 : Nat) (L M : List (Int × S102)) (h1 : MapIs CN w m1 L) (h2 : MapIs CN w m2 M) (hl : L.length ≤ 1000 ∧ M.length ≤ 1000) :
    Calls Tryz.prog 126 #[.agg #[.map (some m1), .func (.func 122) #[] #[]], .agg #[.map (some m2), .func (.func 122) #[] #[]]] w fun e w' => ∃ m R, e = .returned (.agg #[.map (some m), .func (.func 122) #[] #[]]) ∧ w.heap.size ≤ m ∧ MapIs CN w' m R ∧ MrgTo cmpN L M R ∧ Below w.heap.size w w' := by
  have CL := Hd.mk (fun W (hb : MClsN w m1 m2 W) => (cloneN_run W m1 L (h1.below hb.base h1.lt)).mono fun e w' hh => (show ∃ m, e = .returned (.map (some m)) ∧ w.heap.size ≤ m ∧ MapIs CN w' m L ∧ MClsN w m1 m2 w' ∧ Below W.heap.size W w' from by
    obtain ⟨m, e1, e2, e3, e4⟩ := hh
    exact ⟨m, e1, Nat.le_trans hb.base.size e2, e3, hb.below e4, e4⟩))
  have H1 := Hd.mk h1
  have H2 := Hd.mk h2
  have HL := Hd.mk hl
  clear h1 h2 hl
  go_enter Tryz.func126, Tryz.ntmps126
  go_wp2_with fail
  obtain ⟨wB, hwB⟩ : ∃ wB, wB = ((w.alloc (.cells #[.map (some m1), .func (.func 122) #[] #[]] 123)).alloc (.cells #[.map (some m2), .func (.func 122) #[] #[]] 123)).alloc (.cells #[.map none, .nilFunc] 123) := ⟨_, rfl⟩
  rw [← hwB]
  have MB := Hd.mk (show MClsN w m1 m2 wB from by
    rw [hwB]
    refine ⟨below_alloc (below_alloc (below_alloc (Below.refl _ _) _) _) _, ?_, ?_, ⟨_, alloc_at _ _ _ (by simp), rfl⟩⟩
    · exact (Below.heap_alloc _ _ _ (by simp; omega)).trans ((Below.heap_alloc _ _ _ (by simp)).trans (alloc_at _ _ _ rfl))
    · exact (Below.heap_alloc _ _ _ (by simp)).trans (alloc_at _ _ _ (by simp)))
  have HWB := Hd.mk hwB
  clear hwB
  have MBd := Hd.mk (MB.out.below (Below.drew (Below.refl _ _)))
  have MZ := Hd.mk ((MB.out.below (below_alloc (Below.refl _ _) (.cells #[.map none, .nilFunc] 123))).below (Below.drew (Below.refl _ _)))
  have p0 : wB.cell? _ = some (.map (some m1)) := cell_of MB.out.b1 0 rfl
  have p1 : wB.cell? _ = some (.func (.func 122) #[] #[]) := cell_of MB.out.b1 1 rfl
  have p2 : (wB.alloc (.cells #[.map none, .nilFunc] 123)).cell? _ = some (.map (some m1)) := cell_of MZ.out.b1 0 rfl
  have p3 : (wB.alloc (.cells #[.map none, .nilFunc] 123)).cell? _ = some (.func (.func 122) #[] #[]) := cell_of MZ.out.b1 1 rfl
  have u0 : ∀ (W : World) (v : Value), (W.alloc (.cells #[v, .nilFunc] 123)).cell? ⟨W.heap.size, 1, none⟩ = some .nilFunc := fun W v => cell_of (alloc_at W _ _ rfl) 1 rfl
  have u1 : ∀ (W : World) (v : Value), (W.alloc (.cells #[v, .nilFunc] 123)).frozen? ⟨W.heap.size, 1, none⟩ = false := fun W v => frozen_of (alloc_at W _ _ rfl) 1 none
  have SB := Hd.mk (show w.heap.size + 3 ≤ wB.heap.size by rw [HWB.out]; simp)
  go_cut [5] from 8 to 13 (fun v5 wc => ∃ b m, v5 = .pointer (some ⟨b, 0, none⟩) ∧ Hd (MMidN w m1 m2 L b m wc))
  case first =>
    go_region_with (go_at_call 137; first
      | (refine (CL.out wB.drew MBd.out).mono ?_; rintro e w4 ⟨m, rfl, hm, hM, hC, hb4⟩; have M4 := Hd.mk hM; have C4 := Hd.mk hC; have N4 := Hd.mk hm; have r0 : w4.cell? _ = some (.map (some m1)) := cell_of hC.b1 0 rfl; have r1 : w4.cell? _ = some (.func (.func 122) #[] #[]) := cell_of hC.b1 1 rfl; have r6 : (w4.alloc (.cells #[.map none, .nilFunc] 123)).cell? _ = some (.map (some m1)) := cell_of (hC.below (below_alloc (Below.refl _ _) (.cells #[.map none, .nilFunc] 123))).b1 0 rfl; have r7 : (w4.alloc (.cells #[.map none, .nilFunc] 123)).cell? _ = some (.func (.func 122) #[] #[]) := cell_of (hC.below (below_alloc (Below.refl _ _) (.cells #[.map none, .nilFunc] 123))).b1 1 rfl; clear hM hC hm hb4)
      | (refine (CL.out (wB.alloc (.cells #[.map none, .nilFunc] 123)).drew MZ.out).mono ?_; rintro e w4 ⟨m, rfl, hm, hM, hC, hb4⟩; have M4 := Hd.mk hM; have C4 := Hd.mk hC; have N4 := Hd.mk hm; have r0 : w4.cell? _ = some (.map (some m1)) := cell_of hC.b1 0 rfl; have r1 : w4.cell? _ = some (.func (.func 122) #[] #[]) := cell_of hC.b1 1 rfl; have hz := (hb4.block wB.heap.size (by simp [World.drew])).trans (alloc_at wB (.cells #[.map none, .nilFunc] 123) _ rfl); have r2 : w4.cell? _ = some (.map none) := cell_of hz 0 rfl; have r3 : w4.cell? _ = some .nilFunc := cell_of hz 1 rfl; have r4 := frozen_of hz 0 none; have r5 := frozen_of hz 1 none; have HZ := Hd.mk hz; clear hM hC hm hb4 hz))
    all_goals (go_wp2_with fail; go_meet; first | exact ⟨_, _, rfl, ⟨mmidN_A C4.out M4.out N4.out⟩⟩ | exact ⟨_, _, rfl, ⟨mmidN_B C4.out M4.out N4.out HZ.out SB.out⟩⟩)
  case rest =>
  clear p0 p1 p2 p3 u0 u1 MBd MZ CL
  obtain ⟨b, m, rfl, MD⟩ := hcut
  have p0 : wc.cell? _ = some (.map (some m2)) := cell_of MD.out.cl.b2 0 rfl
  have HM2 := Hd.mk (H2.out.below MD.out.cl.base H2.out.lt)
  go_wp2_with (at_range; refine wpL_range _ CN rfl _ rfl m2 M rfl HM2.out ?_; intro w3 hr hg hs; have RG := Hd.mk hr; have BG := Hd.mk hg; have BS := Hd.mk hs; clear hr hg hs)
  have BM := Hd.mk (show b < wc.heap.size ∧ m < wc.heap.size from ⟨(Array.getElem?_eq_some_iff.1 MD.out.t).1, MD.out.map.lt⟩)
  have W3 := Hd.mk (show w.heap.size + 2 < wc.heap.size by obtain ⟨cs, c1, _⟩ := MD.out.cl.b3; exact (Array.getElem?_eq_some_iff.1 c1).1)
  have M3 := Hd.mk (show MMidN w m1 m2 L b m w3 from MD.out.below ((Below.refl _ _).grown BG.out (Nat.le_refl _) (by simp)))
  have NE := Hd.mk (show m ≠ m2 from fun e => by have h1 := MD.out.mb; have h2 := H2.out.lt; omega)
  clear MD p0 BG HM2
  go_frame
  go_loopg [6] M.length (fun gg v6 wq => ∃ (outs R : List (Int × S102)) (cn : Nat), cn ≤ gg ∧ Hd (Rng CN wq m2 wc.heap.size M outs cn) ∧ Hd (MMidN w m1 m2 R b m wq) ∧ Hd (MrgTo cmpN L outs R))
  case atStart => exact ⟨[], L, M.length, Nat.le_refl _, RG, M3, ⟨mrgTo_nil _ _⟩⟩
  case round =>
    clear RG M3
    obtain ⟨outs, R, cn, hg, RG, MQ, TQ⟩ := hrel
    go_wp2_with (at_next; refine wpL_next _ CN rfl _ rfl m2 wc.heap.size M outs cn rfl RG.out ?gd ?gm)
    case gd =>
      intro hd
      have FIN := Hd.mk (show MrgTo cmpN L M R from ⟨by rw [← hd.length_eq]; exact TQ.out.1, fun x => by rw [TQ.out.2 x]; congr 1; exact mget_perm H2.out.nodup hd.symm x⟩)
      have t0 : wr.cell? _ = some (.map (some m)) := cell_of MQ.out.t 0 rfl
      have t1 : wr.cell? _ = some (.func (.func 122) #[] #[]) := cell_of MQ.out.t 1 rfl
      obtain ⟨cs, c1, c2⟩ := MQ.out.cl.b3
      obtain ⟨v0, v1, rfl⟩ : ∃ v0 v1, cs = #[v0, v1] := by
        obtain ⟨l⟩ := cs
        match l, c2 with
        | [v0, v1], _ => exact ⟨v0, v1, rfl⟩
      have t2 : wr.cell? ⟨w.heap.size + 2, 0, none⟩ = some v0 := cell_of c1 0 rfl
      have t3 : wr.cell? ⟨w.heap.size + 2, 1, none⟩ = some v1 := cell_of c1 1 rfl
      have t4 := frozen_of c1 0 none
      have t5 := frozen_of c1 1 none
      have e1 := heap_setCell_same wr (w.heap.size + 2) 0 _ 123 (.map (some m)) c1
      have e2 := heap_setCell_same _ (w.heap.size + 2) 1 _ 123 (.func (.func 122) #[] #[]) e1
      have FB := Hd.mk (show Below w.heap.size w ((wr.setCell ⟨w.heap.size + 2, 0, none⟩ (.map (some m))).setCell ⟨w.heap.size + 2, 1, none⟩ (.func (.func 122) #[] #[])) from (MQ.out.cl.base.setCell (p := ⟨w.heap.size + 2, 0, none⟩) (by show w.heap.size ≤ w.heap.size + 2; omega) _).setCell (p := ⟨w.heap.size + 2, 1, none⟩) (by show w.heap.size ≤ w.heap.size + 2; omega) _)
      have FM := Hd.mk (MQ.out.map.at (w' := (wr.setCell ⟨w.heap.size + 2, 0, none⟩ (.map (some m))).setCell ⟨w.heap.size + 2, 1, none⟩ (.func (.func 122) #[] #[])) ((Below.heap_setCell _ _ _ _ (MQ.out.map.ne c1).symm).trans (Below.heap_setCell _ _ _ _ (MQ.out.map.ne c1).symm)))
      have E2 := Hd.mk e2
      have MB' := Hd.mk MQ.out.mb
      clear e1 e2 c1 hd
      go_wp2_with fail
      refine bodyPost_ret (results_cell_row rfl _ _ (w.heap.size + 2) 123 #[.map (some m), .func (.func 122) #[] #[]] (0, 0) _ rfl E2.out Tryz.underlying123 rfl (by kernel_rfl)) rfl ?_
      exact ⟨m, R, rfl, MB'.out, FM.out, FIN.out, FB.out⟩
    case gm =>
      intro x y w4 c5 hp hno hr2 hlt hg2 hs2 hen
      obtain ⟨n0, n1, n2, n3⟩ := y
      change (Instr.entry _).run _ _ = .ok (.tuple #[.int .i64 x, .agg #[.int .i64 n0, .string n1, .int .i64 n2, .int .i64 n3]]) w4 at hen
      have OX := Hd.mk (H2.out.ok _ hp)
      have KB : ∀ i, i < wc.heap.size → w4.heap[i]? = wr.heap[i]? := fun i hi => hg2.block i (by have := RG.out.lt; omega) (fun e => by injection e with e; omega)
      have M4 := Hd.mk (show MMidN w m1 m2 R b m w4 from MQ.out.keep (j := 0) (MQ.out.map.at (KB m BM.out.2)) (MQ.out.cl.base.grown hg2 MQ.out.cl.base.size (fun j e => by injection e with e; have := W3.out; omega)) (fun i hi => KB i (by have h1 := W3.out; have h2 := BM.out.1; omega)))
      have BA : Below w4.heap.size w4 (w4.alloc (.cells #[.int .i64 n0, .string n1, .int .i64 n2, .int .i64 n3] 102)) := below_alloc (Below.refl _ _) _
      have M5 := Hd.mk (M4.out.below BA)
      have R5 := Hd.mk (hr2.below BA)
      have t0 : (w4.alloc (.cells #[.int .i64 n0, .string n1, .int .i64 n2, .int .i64 n3] 102)).cell? _ = some (.map (some m)) := cell_of M5.out.t 0 rfl
      have t1 : (w4.alloc (.cells #[.int .i64 n0, .string n1, .int .i64 n2, .int .i64 n3] 102)).cell? _ = some (.func (.func 122) #[] #[]) := cell_of M5.out.t 1 rfl
      have RL := Hd.mk (show R.length < 9223372036854775807 by
        have h1 := TQ.out.1
        have h2 := HL.out
        have h3 := sub_len hr2.nodup hr2.sub
        simp at h3
        omega)
      have NN := Hd.mk (mrgTo_snoc (p := (x, (⟨n0, n1, n2, n3⟩ : S102))) TQ.out (nodup_part H2.out.nodup hr2.nodup hr2.sub))
      have PUT := Hd.mk (putN_run _ m R x ⟨n0, n1, n2, n3⟩ OX.out M5.out.map RL.out)
      simp only [vN] at PUT
      clear hr2 hg2 hs2 hp hno KB BA MQ M4 TQ RG
      go_wp2_with fail
      refine PUT.out.mono ?_
      rintro e w6 ⟨rfl, hm6, hc6⟩
      have M6 := Hd.mk (show MMidN w m1 m2 (tput cmpN R x ⟨n0, n1, n2, n3⟩) b m w6 from by
        have hk := fun i cs t z hb => chg_cells M5.out.map hc6 i cs t z hb
        obtain ⟨cs, c1, c2⟩ := M5.out.cl.b3
        exact M5.out.keep (j := 0) hm6 (M5.out.cl.base.trans (chg_below hc6 M5.out.mb M5.out.cl.base.size)) (fun i hi => by rcases hi with rfl | rfl | rfl | rfl <;> first | exact hk _ _ _ _ M5.out.cl.b1 | exact hk _ _ _ _ M5.out.cl.b2 | exact hk _ _ _ _ c1 | exact hk _ _ _ _ M5.out.t))
      have R6 := Hd.mk (R5.out.at (hc6.block m2 R5.out.map.lt (fun e => NE.out e.symm)) (hc6.block wc.heap.size R5.out.lt (by have := BM.out.2; omega)))
      clear hm6 hc6
      go_wp2_with fail
      go_roundg c5
      case measure => omega
      case rel => exact ⟨_, _, c5, Nat.le_refl _, R6, M6, NN⟩
end Go.Proofs.YtmeaeapopfcmbaaGreat

namespace Go.Proofs.YtmeaeapopfcmbaaGreat
open Go.RowKit Go.Proofs.YtmeaeapopfcmbaaGreatW.PrintWords Go.Proofs.YtmeaeapopfcmbaaGreatW.PrintLast Go.Proofs.YtmeaeapopfcmbaaGreatW.PrintMore PP
set_option linter.unusedVariables false
set_option linter.unusedSimpArgs false
set_option maxHeartbeats 4000000
set_option maxRecDepth 100000
/-- Ahead of the loop of merged. -/
structure MClsW (w : World) (m1 m2 : Nat) (W : World) : Prop where
  base : Below w.heap.size w W
  b1 : W.heap[w.heap.size]? = some (.cells #[.map (some m1), .func (.func 102) #[] #[]] 127 (0, 0))
  b2 : W.heap[w.heap.size + 1]? = some (.cells #[.map (some m2), .func (.func 102) #[] #[]] 127 (0, 0))
  b3 : ∃ cs, W.heap[w.heap.size + 2]? = some (.cells cs 127 (0, 0)) ∧ cs.size = 2
theorem MClsW.below {w W W' : World} {m1 m2 : Nat} (h : MClsW w m1 m2 W) (hb : Below W.heap.size W W') : MClsW w m1 m2 W' := by
  obtain ⟨cs, h1, h2⟩ := h.b3
  exact ⟨h.base.trans (hb.mono h.base.size), (hb.block _ (Array.getElem?_eq_some_iff.1 h.b1).1).trans h.b1, (hb.block _ (Array.getElem?_eq_some_iff.1 h.b2).1).trans h.b2, cs, (hb.block _ (Array.getElem?_eq_some_iff.1 h1).1).trans h1, h2⟩
structure MMidW (w : World) (m1 m2 : Nat) (L : List (S131 × Int)) (b m : Nat) (W : World) : Prop where
  cl : MClsW w m1 m2 W
  t : W.heap[b]? = some (.cells #[.map (some m), .func (.func 102) #[] #[]] 127 (0, 0))
  map : MapIs CW W m L
  mb : w.heap.size ≤ m
theorem mmidW_A {w w4 : World} {m1 m2 m : Nat} {L : List (S131 × Int)} (hC : MClsW w m1 m2 w4) (hM : MapIs CW w4 m L) (hm : w.heap.size ≤ m) : MMidW w m1 m2 L w4.heap.size m (w4.alloc (.cells #[.map (some m), .func (.func 102) #[] #[]] 127)) :=
  ⟨hC.below (below_alloc (Below.refl _ _) _), alloc_at _ _ _ rfl, hM.al _, hm⟩
theorem mmidW_B {w w4 : World} {m1 m2 m b : Nat} {L : List (S131 × Int)} (hC : MClsW w m1 m2 w4) (hM : MapIs CW w4 m L) (hm : w.heap.size ≤ m) (hz : w4.heap[b]? = some (.cells #[.map none, .nilFunc] 127 (0, 0))) (hb : w.heap.size + 3 ≤ b) : MMidW w m1 m2 L b m ((w4.setCell ⟨b, 0, none⟩ (.map (some m))).setCell ⟨b, 1, none⟩ (.func (.func 102) #[] #[])) := by
  have e1 := heap_setCell_same w4 b 0 _ 127 (.map (some m)) hz
  have e2 := heap_setCell_same _ b 1 _ 127 (.func (.func 102) #[] #[]) e1
  have o : ∀ i, i ≠ b → ((w4.setCell ⟨b, 0, none⟩ (.map (some m))).setCell ⟨b, 1, none⟩ (.func (.func 102) #[] #[])).heap[i]? = w4.heap[i]? := fun i hi => (Below.heap_setCell _ _ _ _ hi).trans (Below.heap_setCell _ _ _ _ hi)
  obtain ⟨cs, c1, c2⟩ := hC.b3
  exact ⟨⟨(hC.base.setCell (p := ⟨b, 0, none⟩) (by show w.heap.size ≤ b; omega) _).setCell (p := ⟨b, 1, none⟩) (by show w.heap.size ≤ b; omega) _, (o _ (by omega)).trans hC.b1, (o _ (by omega)).trans hC.b2, cs, (o _ (by omega)).trans c1, c2⟩, e2, hM.at (o m (hM.ne hz).symm), hm⟩
theorem MMidW.below {w W W' : World} {m1 m2 b m : Nat} {L : List (S131 × Int)} (h : MMidW w m1 m2 L b m W) (hb : Below W.heap.size W W') : MMidW w m1 m2 L b m W' :=
  ⟨h.cl.below hb, (hb.block _ (Array.getElem?_eq_some_iff.1 h.t).1).trans h.t, h.map.below hb h.map.lt, h.mb⟩
theorem MMidW.keep {w W W' : World} {m1 m2 b m j : Nat} {L L' : List (S131 × Int)} (h : MMidW w m1 m2 L b m W) (hm : MapIs CW W' m L') (hb : Below w.heap.size w W') (hk : ∀ i, i = w.heap.size ∨ i = w.heap.size + 1 ∨ i = w.heap.size + 2 ∨ i = b → W'.heap[i]? = W.heap[i]?) : MMidW w m1 m2 L' b m W' := by
  obtain ⟨cs, c1, c2⟩ := h.cl.b3
  exact ⟨⟨hb, (hk _ (.inl rfl)).trans h.cl.b1, (hk _ (.inr (.inl rfl))).trans h.cl.b2, cs, (hk _ (.inr (.inr (.inl rfl)))).trans c1, c2⟩, (hk _ (.inr (.inr (.inr rfl)))).trans h.t, hm, h.mb⟩
theorem mergedW_run (w : World) (m1 m2 : Nat) (L M : List (S131 × Int)) (h1 : MapIs CW w m1 L) (h2 : MapIs CW w m2 M) (hl : L.length ≤ 1000 ∧ M.length ≤ 1000) :
    Calls Tryz.prog 127 #[.agg #[.map (some m1), .func (.func 102) #[] #[]], .agg #[.map (some m2), .func (.func 102) #[] #[]]] w fun e w' => ∃ m R, e = .returned (.agg #[.map (some m), .func (.func 102) #[] #[]]) ∧ w.heap.size ≤ m ∧ MapIs CW w' m R ∧ MrgTo cmpI L M R ∧ Below w.heap.size w w' := by
  have CL := Hd.mk (fun W (hb : MClsW w m1 m2 W) => (cloneW_run W m1 L (h1.below hb.base h1.lt)).mono fun e w' hh => (show ∃ m, e = .returned (.map (some m)) ∧ w.heap.size ≤ m ∧ MapIs CW w' m L ∧ MClsW w m1 m2 w' ∧ Below W.heap.size W w' from by
    obtain ⟨m, e1, e2, e3, e4⟩ := hh
    exact ⟨m, e1, Nat.le_trans hb.base.size e2, e3, hb.below e4, e4⟩))
  have H1 := Hd.mk h1
  have H2 := Hd.mk h2
  have HL := Hd.mk hl
  clear h1 h2 hl
  go_enter Tryz.func127, Tryz.ntmps127
  go_wp2_with fail
  obtain ⟨wB, hwB⟩ : ∃ wB, wB = ((w.alloc (.cells #[.map (some m1), .func (.func 102) #[] #[]] 127)).alloc (.cells #[.map (some m2), .func (.func 102) #[] #[]] 127)).alloc (.cells #[.map none, .nilFunc] 127) := ⟨_, rfl⟩
  rw [← hwB]
  have MB := Hd.mk (show MClsW w m1 m2 wB from by
    rw [hwB]
    refine ⟨below_alloc (below_alloc (below_alloc (Below.refl _ _) _) _) _, ?_, ?_, ⟨_, alloc_at _ _ _ (by simp), rfl⟩⟩
    · exact (Below.heap_alloc _ _ _ (by simp; omega)).trans ((Below.heap_alloc _ _ _ (by simp)).trans (alloc_at _ _ _ rfl))
    · exact (Below.heap_alloc _ _ _ (by simp)).trans (alloc_at _ _ _ (by simp)))
  have HWB := Hd.mk hwB
  clear hwB
  have MBd := Hd.mk (MB.out.below (Below.drew (Below.refl _ _)))
  have MZ := Hd.mk ((MB.out.below (below_alloc (Below.refl _ _) (.cells #[.map none, .nilFunc] 127))).below (Below.drew (Below.refl _ _)))
  have p0 : wB.cell? _ = some (.map (some m1)) := cell_of MB.out.b1 0 rfl
  have p1 : wB.cell? _ = some (.func (.func 102) #[] #[]) := cell_of MB.out.b1 1 rfl
  have p2 : (wB.alloc (.cells #[.map none, .nilFunc] 127)).cell? _ = some (.map (some m1)) := cell_of MZ.out.b1 0 rfl
  have p3 : (wB.alloc (.cells #[.map none, .nilFunc] 127)).cell? _ = some (.func (.func 102) #[] #[]) := cell_of MZ.out.b1 1 rfl
  have u0 : ∀ (W : World) (v : Value), (W.alloc (.cells #[v, .nilFunc] 127)).cell? ⟨W.heap.size, 1, none⟩ = some .nilFunc := fun W v => cell_of (alloc_at W _ _ rfl) 1 rfl
  have u1 : ∀ (W : World) (v : Value), (W.alloc (.cells #[v, .nilFunc] 127)).frozen? ⟨W.heap.size, 1, none⟩ = false := fun W v => frozen_of (alloc_at W _ _ rfl) 1 none
  have SB := Hd.mk (show w.heap.size + 3 ≤ wB.heap.size by rw [HWB.out]; simp)
  go_cut [5] from 8 to 13 (fun v5 wc => ∃ b m, v5 = .pointer (some ⟨b, 0, none⟩) ∧ Hd (MMidW w m1 m2 L b m wc))
  case first =>
    go_region_with (go_at_call 138; first
      | (refine (CL.out wB.drew MBd.out).mono ?_; rintro e w4 ⟨m, rfl, hm, hM, hC, hb4⟩; have M4 := Hd.mk hM; have C4 := Hd.mk hC; have N4 := Hd.mk hm; have r0 : w4.cell? _ = some (.map (some m1)) := cell_of hC.b1 0 rfl; have r1 : w4.cell? _ = some (.func (.func 102) #[] #[]) := cell_of hC.b1 1 rfl; have r6 : (w4.alloc (.cells #[.map none, .nilFunc] 127)).cell? _ = some (.map (some m1)) := cell_of (hC.below (below_alloc (Below.refl _ _) (.cells #[.map none, .nilFunc] 127))).b1 0 rfl; have r7 : (w4.alloc (.cells #[.map none, .nilFunc] 127)).cell? _ = some (.func (.func 102) #[] #[]) := cell_of (hC.below (below_alloc (Below.refl _ _) (.cells #[.map none, .nilFunc] 127))).b1 1 rfl; clear hM hC hm hb4)
      | (refine (CL.out (wB.alloc (.cells #[.map none, .nilFunc] 127)).drew MZ.out).mono ?_; rintro e w4 ⟨m, rfl, hm, hM, hC, hb4⟩; have M4 := Hd.mk hM; have C4 := Hd.mk hC; have N4 := Hd.mk hm; have r0 : w4.cell? _ = some (.map (some m1)) := cell_of hC.b1 0 rfl; have r1 : w4.cell? _ = some (.func (.func 102) #[] #[]) := cell_of hC.b1 1 rfl; have hz := (hb4.block wB.heap.size (by simp [World.drew])).trans (alloc_at wB (.cells #[.map none, .nilFunc] 127) _ rfl); have r2 : w4.cell? _ = some (.map none) := cell_of hz 0 rfl; have r3 : w4.cell? _ = some .nilFunc := cell_of hz 1 rfl; have r4 := frozen_of hz 0 none; have r5 := frozen_of hz 1 none; have HZ := Hd.mk hz; clear hM hC hm hb4 hz))
    all_goals (go_wp2_with fail; go_meet; first | exact ⟨_, _, rfl, ⟨mmidW_A C4.out M4.out N4.out⟩⟩ | exact ⟨_, _, rfl, ⟨mmidW_B C4.out M4.out N4.out HZ.out SB.out⟩⟩)
  case rest =>
  clear p0 p1 p2 p3 u0 u1 MBd MZ CL
  obtain ⟨b, m, rfl, MD⟩ := hcut
  have p0 : wc.cell? _ = some (.map (some m2)) := cell_of MD.out.cl.b2 0 rfl
  have HM2 := Hd.mk (H2.out.below MD.out.cl.base H2.out.lt)
  go_wp2_with (at_range; refine wpL_range _ CW rfl _ rfl m2 M rfl HM2.out ?_; intro w3 hr hg hs; have RG := Hd.mk hr; have BG := Hd.mk hg; have BS := Hd.mk hs; clear hr hg hs)
  have BM := Hd.mk (show b < wc.heap.size ∧ m < wc.heap.size from ⟨(Array.getElem?_eq_some_iff.1 MD.out.t).1, MD.out.map.lt⟩)
  have W3 := Hd.mk (show w.heap.size + 2 < wc.heap.size by obtain ⟨cs, c1, _⟩ := MD.out.cl.b3; exact (Array.getElem?_eq_some_iff.1 c1).1)
  have M3 := Hd.mk (show MMidW w m1 m2 L b m w3 from MD.out.below ((Below.refl _ _).grown BG.out (Nat.le_refl _) (by simp)))
  have NE := Hd.mk (show m ≠ m2 from fun e => by have h1 := MD.out.mb; have h2 := H2.out.lt; omega)
  clear MD p0 BG HM2
  go_frame
  go_loopg [7] M.length (fun gg v7 wq => ∃ (outs R : List (S131 × Int)) (cn : Nat), cn ≤ gg ∧ Hd (Rng CW wq m2 wc.heap.size M outs cn) ∧ Hd (MMidW w m1 m2 R b m wq) ∧ Hd (MrgTo cmpI L outs R))
  case atStart => exact ⟨[], L, M.length, Nat.le_refl _, RG, M3, ⟨mrgTo_nil _ _⟩⟩
  case round =>
    clear RG M3
    obtain ⟨outs, R, cn, hg, RG, MQ, TQ⟩ := hrel
    go_wp2_with (at_next; refine wpL_next _ CW rfl _ rfl m2 wc.heap.size M outs cn rfl RG.out ?gd ?gm)
    case gd =>
      intro hd
      have FIN := Hd.mk (show MrgTo cmpI L M R from ⟨by rw [← hd.length_eq]; exact TQ.out.1, fun x => by rw [TQ.out.2 x]; congr 1; exact mget_perm H2.out.nodup hd.symm x⟩)
      have t0 : wr.cell? _ = some (.map (some m)) := cell_of MQ.out.t 0 rfl
      have t1 : wr.cell? _ = some (.func (.func 102) #[] #[]) := cell_of MQ.out.t 1 rfl
      obtain ⟨cs, c1, c2⟩ := MQ.out.cl.b3
      obtain ⟨v0, v1, rfl⟩ : ∃ v0 v1, cs = #[v0, v1] := by
        obtain ⟨l⟩ := cs
        match l, c2 with
        | [v0, v1], _ => exact ⟨v0, v1, rfl⟩
      have t2 : wr.cell? ⟨w.heap.size + 2, 0, none⟩ = some v0 := cell_of c1 0 rfl
      have t3 : wr.cell? ⟨w.heap.size + 2, 1, none⟩ = some v1 := cell_of c1 1 rfl
      have t4 := frozen_of c1 0 none
      have t5 := frozen_of c1 1 none
      have e1 := heap_setCell_same wr (w.heap.size + 2) 0 _ 127 (.map (some m)) c1
      have e2 := heap_setCell_same _ (w.heap.size + 2) 1 _ 127 (.func (.func 102) #[] #[]) e1
      have FB := Hd.mk (show Below w.heap.size w ((wr.setCell ⟨w.heap.size + 2, 0, none⟩ (.map (some m))).setCell ⟨w.heap.size + 2, 1, none⟩ (.func (.func 102) #[] #[])) from (MQ.out.cl.base.setCell (p := ⟨w.heap.size + 2, 0, none⟩) (by show w.heap.size ≤ w.heap.size + 2; omega) _).setCell (p := ⟨w.heap.size + 2, 1, none⟩) (by show w.heap.size ≤ w.heap.size + 2; omega) _)
      have FM := Hd.mk (MQ.out.map.at (w' := (wr.setCell ⟨w.heap.size + 2, 0, none⟩ (.map (some m))).setCell ⟨w.heap.size + 2, 1, none⟩ (.func (.func 102) #[] #[])) ((Below.heap_setCell _ _ _ _ (MQ.out.map.ne c1).symm).trans (Below.heap_setCell _ _ _ _ (MQ.out.map.ne c1).symm)))
      have E2 := Hd.mk e2
      have MB' := Hd.mk MQ.out.mb
      clear e1 e2 c1 hd
      go_wp2_with fail
      refine bodyPost_ret (results_cell_row rfl _ _ (w.heap.size + 2) 127 #[.map (some m), .func (.func 102) #[] #[]] (0, 0) _ rfl E2.out Tryz.underlying127 rfl (by kernel_rfl)) rfl ?_
      exact ⟨m, R, rfl, MB'.out, FM.out, FIN.out, FB.out⟩
    case gm =>
      intro x y w4 c5 hp hno hr2 hlt hg2 hs2 hen
      obtain ⟨n0, n1, n2⟩ := x
      change (Instr.entry _).run _ _ = .ok (.tuple #[.agg #[.int .i64 n0, .int .i64 n1, .int .i64 n2], .int .i64 y]) w4 at hen
      have OX := Hd.mk (H2.out.ok _ hp)
      have KB : ∀ i, i < wc.heap.size → w4.heap[i]? = wr.heap[i]? := fun i hi => hg2.block i (by have := RG.out.lt; omega) (fun e => by injection e with e; omega)
      have M4 := Hd.mk (show MMidW w m1 m2 R b m w4 from MQ.out.keep (j := 0) (MQ.out.map.at (KB m BM.out.2)) (MQ.out.cl.base.grown hg2 MQ.out.cl.base.size (fun j e => by injection e with e; have := W3.out; omega)) (fun i hi => KB i (by have h1 := W3.out; have h2 := BM.out.1; omega)))
      have BA : Below w4.heap.size w4 (w4.alloc (.cells #[.int .i64 n0, .int .i64 n1, .int .i64 n2] 131)) := below_alloc (Below.refl _ _) _
      have M5 := Hd.mk (M4.out.below BA)
      have R5 := Hd.mk (hr2.below BA)
      have t0 : (w4.alloc (.cells #[.int .i64 n0, .int .i64 n1, .int .i64 n2] 131)).cell? _ = some (.map (some m)) := cell_of M5.out.t 0 rfl
      have t1 : (w4.alloc (.cells #[.int .i64 n0, .int .i64 n1, .int .i64 n2] 131)).cell? _ = some (.func (.func 102) #[] #[]) := cell_of M5.out.t 1 rfl
      have RL := Hd.mk (show R.length < 9223372036854775807 by
        have h1 := TQ.out.1
        have h2 := HL.out
        have h3 := sub_len hr2.nodup hr2.sub
        simp at h3
        omega)
      have NN := Hd.mk (mrgTo_snoc (p := ((⟨n0, n1, n2⟩ : S131), y)) TQ.out (nodup_part H2.out.nodup hr2.nodup hr2.sub))
      have PUT := Hd.mk (putW_run _ m R ⟨n0, n1, n2⟩ y OX.out M5.out.map RL.out)
      simp only [vW] at PUT
      clear hr2 hg2 hs2 hp hno KB BA MQ M4 TQ RG
      go_wp2_with fail
      refine PUT.out.mono ?_
      rintro e w6 ⟨rfl, hm6, hc6⟩
      have M6 := Hd.mk (show MMidW w m1 m2 (tput cmpI R ⟨n0, n1, n2⟩ y) b m w6 from by
        have hk := fun i cs t z hb => chg_cells M5.out.map hc6 i cs t z hb
        obtain ⟨cs, c1, c2⟩ := M5.out.cl.b3
        exact M5.out.keep (j := 0) hm6 (M5.out.cl.base.trans (chg_below hc6 M5.out.mb M5.out.cl.base.size)) (fun i hi => by rcases hi with rfl | rfl | rfl | rfl <;> first | exact hk _ _ _ _ M5.out.cl.b1 | exact hk _ _ _ _ M5.out.cl.b2 | exact hk _ _ _ _ c1 | exact hk _ _ _ _ M5.out.t))
      have R6 := Hd.mk (R5.out.at (hc6.block m2 R5.out.map.lt (fun e => NE.out e.symm)) (hc6.block wc.heap.size R5.out.lt (by have := BM.out.2; omega)))
      clear hm6 hc6
      go_wp2_with fail
      go_roundg c5
      case measure => omega
      case rel => exact ⟨_, _, c5, Nat.le_refl _, R6, M6, NN⟩
end Go.Proofs.YtmeaeapopfcmbaaGreat

namespace Go.Proofs.YtmeaeapopfcmbaaGreat
open Go.RowKit Go.Proofs.YtmeaeapopfcmbaaGreatW.PrintWords Go.Proofs.YtmeaeapopfcmbaaGreatW.PrintLast Go.Proofs.YtmeaeapopfcmbaaGreatW.PrintMore PP
set_option linter.unusedVariables false
set_option linter.unusedSimpArgs false
theorem Rep.mk' {w : World} {r k mt mn mw : Nat} {o : Int} {s : List Int} {T : List (S97 × S99)} {N : List (Int × S102)} {Y : List (S131 × Int)} (hb : RepBlk w r o (some ⟨k, 0, none⟩)) (hk : KnowAt w k mt mn mw s T N Y) (hv : Kv s T N Y) : Rep w r k mt mn mw o (mkS s T N Y) :=
  ⟨hb, ⟨hk.len, hk.blk, hk.t.perm hv.tags.symm, hk.n.perm hv.notes.symm, hk.y.perm ways_mk.symm, hk.tn, hk.tw, hk.nw⟩⟩
theorem perm_mput {α β : Type} [DecidableEq α] {Y : List (α × β)} (hn : (Y.map Prod.fst).Nodup) {x : α} {u : β} (h : mget Y x = some u) : Y.Perm ((x, u) :: mdel Y x) := by
  have : Y.Perm (mput Y x u) := perm_of_mget hn (nodup_mput hn x u) fun y => by
    rw [mget_mput]
    split
    · rename_i e; rw [e, h]
    · rfl
  exact this
theorem mput_sum {α β : Type} [DecidableEq α] (f : α × β → Int) {Y : List (α × β)} (hn : (Y.map Prod.fst).Nodup) (x : α) (v : β) : sumF f (mput Y x v) = sumF f Y + f (x, v) - (match mget Y x with | some u => f (x, u) | none => 0) := by
  cases h : mget Y x with
  | none =>
    simp only
    unfold mput
    rw [mdel_none h]
    simp [sumF]
    omega
  | some u =>
    simp only
    rw [sumF_perm f (perm_mput hn h)]
    simp [mput, sumF]
    omega
theorem conF_add (s o : Int) (x : S131) (c a : Int) : conF s o (x, c + a) = conF s o (x, c) + conF s o (x, a) := by
  unfold conF
  simp only
  repeat' split
  all_goals omega
theorem conF_zero (s o : Int) (x : S131) : conF s o (x, 0) = 0 := by
  unfold conF
  simp only
  repeat' split
  all_goals omega
theorem conL_add (s : Int) (x : S131) (c a : Int) : conL s (x, c + a) = conL s (x, c) + conL s (x, a) := by
  unfold conL
  simp only
  repeat' split
  all_goals omega
theorem conL_zero (s : Int) (x : S131) : conL s (x, 0) = 0 := by
  unfold conL
  simp only
  repeat' split
  all_goals omega
theorem free_mput {Y : List (S131 × Int)} (hn : (Y.map Prod.fst).Nodup) (s o : Int) (x : S131) (a : Int) : freeY (mput Y x ((mget Y x).getD 0 + a)) s o = freeY Y s o + conF s o (x, a) := by
  unfold freeY
  rw [mput_sum (conF s o) hn, conF_add]
  cases h : mget Y x with
  | none => simp only [Option.getD_none]; rw [conF_zero]; omega
  | some u => simp only [Option.getD_some]; omega
theorem left_mput {Y : List (S131 × Int)} (hn : (Y.map Prod.fst).Nodup) (s : Int) (x : S131) (a : Int) : leftY (mput Y x ((mget Y x).getD 0 + a)) s = leftY Y s + conL s (x, a) := by
  unfold leftY
  rw [mput_sum (conL s) hn, conL_add]
  cases h : mget Y x with
  | none => simp only [Option.getD_none]; rw [conL_zero]; omega
  | some u => simp only [Option.getD_some]; omega
/-- What the callers of add keep to. -/
structure AddOk (o : Int) (x : S131) (ok asks : Bool) : Prop where
  f1 : x.f1 = o
  o0 : 0 ≤ o
  o7 : o ≤ 7
  t : ok = true → -1 ≤ x.f2 ∧ x.f2 ≤ 7
  m : asks = false → x.f2 = o
theorem addE_0 {S : S28} {o : Int} {x : S131} {a : Int} {ok asks : Bool} (h : addE S o x a ok asks = 0) : ok = true ∧ inR 0 7 x.f0 = true ∧ inR 1 MC a = true ∧ (asks = true → a ≤ freeY (waysP S) x.f0 o) ∧ curW S x + a ≤ MC := by
  unfold addE at h
  split at h
  · omega
  · rename_i h1
    split at h
    · omega
    · rename_i h2
      split at h
      · omega
      · rename_i h3
        simp only [Bool.and_eq_false_iff, not_or, Bool.not_eq_false, Bool.and_eq_true, decide_eq_true_eq, not_and] at h1 h2
        exact ⟨h1.1.1, h1.1.2, h1.2, fun h => by have := h2 h; omega, by omega⟩
theorem add_kv {S : S28} (hS : Rt S) {o : Int} {x : S131} {ok asks : Bool} (h : AddOk o x ok asks) (a : Int) : Kv S.f0 (tagsP S) (notesP S) (addY S o x a ok asks) ∧ Fund (addY S o x a ok asks) := by
  have kv := hS.kv
  unfold addY
  split
  · rename_i h0
    obtain ⟨g1, g2, g3, g4, g5⟩ := addE_0 h0
    have cb := cur_bound hS x
    rw [inR_iff] at g2 g3
    have hx := h.t g1
    have f1 := h.f1
    have o0 := h.o0
    have o7 := h.o7
    refine ⟨⟨kv.sl, kv.sr, kv.tk, kv.tn, kv.nk, kv.nn, fun p hp => ?_, nodup_mput kv.yn _ _⟩, fun s q s0 s7 q0 q7 => ?_⟩
    · rcases List.mem_cons.1 hp with rfl | hp
      · simp only [wayB, Bool.and_eq_true, inR_iff]
        omega
      · exact kv.yk p (mem_mdel.1 hp).1
    · have e := free_mput kv.yn s q x a
      rw [show (mget (waysP S) x).getD 0 = curW S x from rfl] at e
      rw [e]
      have hf := hS.fu s q s0 s7 q0 q7
      cases asks with
      | false =>
        have := h.m rfl
        unfold conF
        simp only
        repeat' split
        all_goals omega
      | true =>
        have g4 := g4 rfl
        unfold conF
        simp only
        by_cases e1 : x.f0 = s
        · rw [if_pos e1]
          by_cases e2 : x.f1 = q
          · have : q = o := by omega
            subst this
            rw [e1] at g4
            repeat' split
            all_goals omega
          · have e3 : ¬ (x.f1 = q ∧ x.f2 ≠ q) := fun hh => e2 hh.1
            rw [if_neg e3]
            repeat' split
            all_goals omega
        · rw [if_neg e1]; omega
  · exact ⟨kv, hS.fu⟩
theorem tagsP_len (S : S28) : (tagsP S).length = S.f1.length := by unfold tagsP; rw [List.length_map]
def aAdd (S : S28) (o : Int) (x : S131) (a : Int) (ok asks : Bool) : S28 := mkS S.f0 (tagsP S) (notesP S) (addY S o x a ok asks)
theorem aAdd_rt {S : S28} (hS : Rt S) {o : Int} {x : S131} {ok asks : Bool} (h : AddOk o x ok asks) (a : Int) : Rt (aAdd S o x a ok asks) :=
  (add_kv hS h a).1.rt (by rw [tagsP_len]; exact hS.tl) (add_kv hS h a).2
theorem aAdd_err {S : S28} (hS : Rt S) {o : Int} {x : S131} {a : Int} {ok asks : Bool} (h : addE S o x a ok asks ≠ 0) : aAdd S o x a ok asks = S := by
  unfold aAdd addY
  rw [if_neg h]
  exact hS.mk_eq
theorem rep_add {w w' : World} {r k mt mn mw : Nat} {o : Int} {S : S28} {x : S131} {a : Int} {ok asks : Bool} {e : Ending} (h : Rep w r k mt mn mw o S) (hS : Rt S) (hx : AddOk o x ok asks) (hr : AddRes w mw S o x a ok asks e w') : Rep w' r k mt mn mw o (aAdd S o x a ok asks) := by
  have kt := h.kn.kt
  have ne := h.ne
  have lt := h.kn.lt
  refine Rep.mk' ((hr.chg.block r h.blk.lt ne.2.2.2).trans h.blk) (h.kn.chgY hr.map ?_) (add_kv hS hx a).1
  rintro i (rfl | rfl | rfl)
  · exact hr.chg.block _ lt.1 kt.2.2
  · exact hr.chg.block _ lt.2.1 h.kn.tw
  · exact hr.chg.block _ lt.2.2.1 h.kn.nw
/-! ### tags -/
theorem sget_set {s : List Int} {o : Int} (hl : s.length = 8) (h0 : 0 ≤ o) (h7 : o ≤ 7) (v q : Int) (hq : 0 ≤ q) : sget (s.set o.toNat v) q = if q = o then v else sget s q := by
  unfold sget
  by_cases e : q = o
  · subst e
    rw [if_pos rfl, List.getD_eq_getElem?_getD, List.getElem?_set_self (by omega)]
    rfl
  · rw [if_neg e, List.getD_eq_getElem?_getD, List.getD_eq_getElem?_getD, List.getElem?_set_ne (by omega)]
theorem sget_mem {s : List Int} (hl : s.length = 8) {o : Int} (h0 : 0 ≤ o) (h7 : o ≤ 7) : sget s o ∈ s := by
  unfold sget
  rw [List.getD_eq_getElem?_getD, List.getElem?_eq_getElem (by omega)]
  exact List.getElem_mem _
theorem putE_0 {S : S28} {o st : Int} {nm : ByteArray} (h : putE S o st nm = 0) : argB st nm = true ∧ ((tagsP S).length : Int) - ((dotsOf st nm (tagsP S)).length : Int) < 128 ∧ sget S.f0 o < MC := by
  unfold putE at h
  split at h
  · omega
  · split at h
    · omega
    · split at h
      · omega
      · rename_i h1 h2 h3
        exact ⟨by simpa using h1, by omega, by omega⟩
theorem tag_grow {s s' : List Int} {t : S99} (h : tagB s t = true) (hs : ∀ q, 0 ≤ q → q ≤ 7 → sget s q ≤ sget s' q) : tagB s' t = true := by
  simp only [tagB, Bool.and_eq_true, inR_iff, decide_eq_true_eq] at *
  have := hs t.f2.f0 h.1.1.2.1 h.1.1.2.2
  exact ⟨⟨h.1.1, h.1.2⟩, by omega⟩
theorem filter_split {α : Type} (l : List α) (p : α → Bool) : (l.filter p).length + (l.filter fun x => !p x).length = l.length := by
  induction l with
  | nil => rfl
  | cons x l ih =>
    rw [List.filter_cons, List.filter_cons]
    cases h : p x
    · simp; omega
    · simp; omega
theorem put_kv {S : S28} (hS : Rt S) {o : Int} (ho : inR 0 7 o = true) (st : Int) (nm : ByteArray) : Kv (putS S o st nm) (putT S o st nm) (notesP S) (waysP S) ∧ (putT S o st nm).length ≤ 128 := by
  have kv := hS.kv
  rw [inR_iff] at ho
  unfold putS putT
  split
  · rename_i h0
    obtain ⟨g1, g2, g3⟩ := putE_0 h0
    have hs := sget_set kv.sl ho.1 ho.2 (sget S.f0 o + 1)
    have hm := kv.sr _ (sget_mem kv.sl ho.1 ho.2)
    simp only [argB, Bool.and_eq_true] at g1
    refine ⟨⟨by rw [List.length_set]; exact kv.sl, fun x hx => ?_, fun p hp => ?_, nodup_mput (kv.tn.sublist (List.Sublist.map _ List.filter_sublist)) _ _, kv.nk, kv.nn, kv.yk, kv.yn⟩, ?_⟩
    · rcases List.mem_or_eq_of_mem_set hx with hx | rfl
      · exact kv.sr x hx
      · omega
    · rcases List.mem_cons.1 hp with rfl | hp
      · refine ⟨rfl, ?_⟩
        have e := hs o ho.1
        rw [if_pos rfl] at e
        have i0 : inR 0 7 o = true := inR_iff.2 ho
        simp only [tagB, Bool.and_eq_true, decide_eq_true_eq, e]
        exact ⟨⟨⟨⟨g1.1, g1.2⟩, i0⟩, by omega⟩, by omega⟩
      · have hp2 := (List.mem_filter.1 (mem_mdel.1 hp).1).1
        refine ⟨(kv.tk p hp2).1, tag_grow (kv.tk p hp2).2 fun q q0 q7 => ?_⟩
        rw [hs q q0]
        split
        · rename_i e; rw [e]; omega
        · omega
    · have h1 := mput_len ((tagsP S).filter fun p => !isTag st nm p) (⟨o, sget S.f0 o + 1⟩ : S97) (⟨st, nm, ⟨o, sget S.f0 o + 1⟩⟩ : S99)
      have h2 := filter_split (tagsP S) (isTag st nm)
      have h3 : (dotsOf st nm (tagsP S)).length = ((tagsP S).filter (isTag st nm)).length := by unfold dotsOf; rw [List.length_map]
      omega
  · exact ⟨kv, by rw [tagsP_len]; exact hS.tl⟩
def aPut (S : S28) (o st : Int) (nm : ByteArray) : S28 := mkS (putS S o st nm) (putT S o st nm) (notesP S) (waysP S)
theorem aPut_rt {S : S28} (hS : Rt S) {o : Int} (ho : inR 0 7 o = true) (st : Int) (nm : ByteArray) : Rt (aPut S o st nm) :=
  (put_kv hS ho st nm).1.rt (put_kv hS ho st nm).2 hS.fu
theorem aPut_err {S : S28} (hS : Rt S) {o st : Int} {nm : ByteArray} (h : putE S o st nm ≠ 0) : aPut S o st nm = S := by
  unfold aPut putS putT
  rw [if_neg h, if_neg h]
  exact hS.mk_eq
theorem rep_put {w w' : World} {r k mt mn mw : Nat} {o : Int} {S : S28} {st : Int} {nm : ByteArray} {e : Ending} (hS : Rt S) (ho : inR 0 7 o = true) (hr : PutRes w r k mt mn mw o S st nm e w') : Rep w' r k mt mn mw o (aPut S o st nm) :=
  Rep.mk' hr.blk hr.kn (put_kv hS ho st nm).1
theorem drop_kv {S : S28} (hS : Rt S) (st : Int) (nm : ByteArray) : Kv S.f0 (dropT S st nm) (notesP S) (waysP S) ∧ (dropT S st nm).length ≤ 128 := by
  have kv := hS.kv
  have hl := hS.tl
  rw [← tagsP_len] at hl
  unfold dropT
  split
  · exact ⟨⟨kv.sl, kv.sr, fun p hp => kv.tk p (List.mem_filter.1 hp).1, kv.tn.sublist (List.Sublist.map _ List.filter_sublist), kv.nk, kv.nn, kv.yk, kv.yn⟩, Nat.le_trans (List.length_filter_le _ _) hl⟩
  · exact ⟨kv, hl⟩
def aDrop (S : S28) (st : Int) (nm : ByteArray) : S28 := mkS S.f0 (dropT S st nm) (notesP S) (waysP S)
theorem aDrop_rt {S : S28} (hS : Rt S) (st : Int) (nm : ByteArray) : Rt (aDrop S st nm) := (drop_kv hS st nm).1.rt (drop_kv hS st nm).2 hS.fu
theorem rep_drop {w w' : World} {r k mt mn mw : Nat} {o : Int} {S : S28} {st : Int} {nm : ByteArray} (h : Rep w r k mt mn mw o S) (hS : Rt S) (hm : MapIs CT w' mt (dropT S st nm)) (hc : Chg w.heap.size (· = mt) w w') : Rep w' r k mt mn mw o (aDrop S st nm) := by
  have kt := h.kn.kt
  have ne := h.ne
  have lt := h.kn.lt
  refine Rep.mk' ((hc.block r h.blk.lt ne.2.1).trans h.blk) (h.kn.chgT hm ?_) (drop_kv hS st nm).1
  rintro i (rfl | rfl | rfl)
  · exact hc.block _ lt.1 kt.1
  · exact hc.block _ lt.2.2.1 (fun e => h.kn.tn e.symm)
  · exact hc.block _ lt.2.2.2 (fun e => h.kn.tw e.symm)
/-! ### notes -/
theorem writeE_0 {S : S28} {st : Int} {tx : ByteArray} (h : writeE S st tx = 0) : argW st tx = true ∧ tmF (notesP S) ≤ MC := by
  unfold writeE at h
  split at h
  · omega
  · split at h
    · omega
    · rename_i h1 h2
      exact ⟨by simpa using h1, by omega⟩
theorem write_kv {S : S28} (hS : Rt S) {o : Int} (ho : inR 0 7 o = true) (st : Int) (tx : ByteArray) : Kv S.f0 (tagsP S) (writeN S o st tx) (waysP S) := by
  have kv := hS.kv
  unfold writeN
  split
  · rename_i h0
    obtain ⟨g1, g2⟩ := writeE_0 h0
    simp only [argW, Bool.and_eq_true] at g1
    have g3 := (tmF_le.1 (Int.le_refl (tmF (notesP S)))).1
    refine ⟨kv.sl, kv.sr, kv.tk, kv.tn, fun p hp => ?_, nodup_mput kv.nn _ _, kv.yk, kv.yn⟩
    rcases List.mem_cons.1 hp with rfl | hp
    · refine ⟨rfl, ?_⟩
      have i1 : inR 1 MC (tmF (notesP S)) = true := inR_iff.2 ⟨g3, g2⟩
      simp only [noteB, Bool.and_eq_true]
      exact ⟨⟨⟨g1.1, g1.2⟩, i1⟩, ho⟩
    · exact kv.nk p (mem_mdel.1 hp).1
  · exact kv
def aWrite (S : S28) (o st : Int) (tx : ByteArray) : S28 := mkS S.f0 (tagsP S) (writeN S o st tx) (waysP S)
theorem aWrite_rt {S : S28} (hS : Rt S) {o : Int} (ho : inR 0 7 o = true) (st : Int) (tx : ByteArray) : Rt (aWrite S o st tx) := (write_kv hS ho st tx).rt (by rw [tagsP_len]; exact hS.tl) hS.fu
theorem aWrite_err {S : S28} (hS : Rt S) {o st : Int} {tx : ByteArray} (h : writeE S st tx ≠ 0) : aWrite S o st tx = S := by
  unfold aWrite writeN
  rw [if_neg h]
  exact hS.mk_eq
theorem rep_write {w w' : World} {r k mt mn mw : Nat} {o : Int} {S : S28} {st : Int} {tx : ByteArray} {e : Ending} (h : Rep w r k mt mn mw o S) (hS : Rt S) (ho : inR 0 7 o = true) (hr : WriteRes w mn o S st tx e w') : Rep w' r k mt mn mw o (aWrite S o st tx) := by
  have kt := h.kn.kt
  have ne := h.ne
  have lt := h.kn.lt
  refine Rep.mk' ((hr.chg.block r h.blk.lt ne.2.2.1).trans h.blk) (h.kn.chgN hr.map ?_) (write_kv hS ho st tx)
  rintro i (rfl | rfl | rfl)
  · exact hr.chg.block _ lt.1 kt.2.1
  · exact hr.chg.block _ lt.2.1 h.kn.tn
  · exact hr.chg.block _ lt.2.2.2 (fun e => h.kn.nw e.symm)
end Go.Proofs.YtmeaeapopfcmbaaGreat

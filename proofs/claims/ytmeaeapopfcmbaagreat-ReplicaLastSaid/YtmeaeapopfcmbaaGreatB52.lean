/- ReplicaLast's walk. No conditions. -/
import Derived.Test.YtmeaeapopfcmbaaGreatB50
import Derived.Test.YtmeaeapopfcmbaaGreatP12
namespace Go.Proofs.YtmeaeapopfcmbaaGreat
open Go.RowKit Go.Proofs.YtmeaeapopfcmbaaGreatW.PrintWords Go.Proofs.YtmeaeapopfcmbaaGreatW.PrintLast Go.Proofs.YtmeaeapopfcmbaaGreatW.PrintMore PP
set_option linter.unusedVariables false
set_option linter.unusedSimpArgs false
set_option maxHeartbeats 4000000
set_option maxRecDepth 100000
section
variable {w0 w w' : World} {a b : Nat} {SA SB S' : S28}
theorem Two.rtA (h : Two w0 w a b SA SB) : Rt SA := by obtain ⟨Fa, Fb, h1, h2, h3⟩ := h.ex; exact h1.rt
theorem Two.rtB (h : Two w0 w a b SA SB) : Rt SB := by obtain ⟨Fa, Fb, h1, h2, h3⟩ := h.ex; exact h2.rt
theorem Two.stateA (h : Two w0 w a b SA SB) : Calls Tryz.prog 24 #[.pointer (some ⟨a, 0, none⟩)] w fun e w' => ∃ v0 v1 v2 v3 v4, e = .returned (.agg #[v0, v1, v2, v3, v4]) ∧ StR w.heap.size w' v0 v1 v2 v3 v4 SA ∧ Two w0 w' a b SA SB := by
  obtain ⟨Fa, Fb, h1, h2, h3⟩ := h.ex
  exact h1.state.mono fun e w' ⟨v0, v1, v2, v3, v4, e1, e2, e3⟩ => ⟨v0, v1, v2, v3, v4, e1, e2, h.below e3⟩
theorem Two.stateB (h : Two w0 w a b SA SB) : Calls Tryz.prog 24 #[.pointer (some ⟨b, 0, none⟩)] w fun e w' => ∃ v0 v1 v2 v3 v4, e = .returned (.agg #[v0, v1, v2, v3, v4]) ∧ StR w.heap.size w' v0 v1 v2 v3 v4 SB ∧ Two w0 w' a b SA SB := by
  obtain ⟨Fa, Fb, h1, h2, h3⟩ := h.ex
  exact h2.state.mono fun e w' ⟨v0, v1, v2, v3, v4, e1, e2, e3⟩ => ⟨v0, v1, v2, v3, v4, e1, e2, h.below e3⟩
theorem Two.syncA (h : Two w0 w a b SA SB) (A0 A1 A2 A3 A4 : Option Addr) (c0 c1 c2 c3 c4 : Nat) (S2 : S28) (hc : StC w A0 c0 A1 c1 A2 c2 A3 c3 A4 c4 S2) (hok : StOk S2) : Calls Tryz.prog 34 #[.pointer (some ⟨a, 0, none⟩), .agg #[.slice A0 S2.f0.length c0, .slice A1 S2.f1.length c1, .slice A2 S2.f2.length c2, .slice A3 S2.f3.length c3, .slice A4 S2.f4.length c4]] w fun e w' => e = .returned (.int .i64 (syncE SA S2)) ∧ Two w0 w' a b (aSync SA S2) SB := by
  obtain ⟨Fa, Fb, h1, h2, h3, h4, h5⟩ := h.ex
  exact (h1.sync A0 A1 A2 A3 A4 c0 c1 c2 c3 c4 S2 hc hok).mono fun e w' hh => ⟨hh.1, h.fa h1 h2 h3 h4 h5 hh.2⟩
theorem Two.syncB (h : Two w0 w a b SA SB) (A0 A1 A2 A3 A4 : Option Addr) (c0 c1 c2 c3 c4 : Nat) (S2 : S28) (hc : StC w A0 c0 A1 c1 A2 c2 A3 c3 A4 c4 S2) (hok : StOk S2) : Calls Tryz.prog 34 #[.pointer (some ⟨b, 0, none⟩), .agg #[.slice A0 S2.f0.length c0, .slice A1 S2.f1.length c1, .slice A2 S2.f2.length c2, .slice A3 S2.f3.length c3, .slice A4 S2.f4.length c4]] w fun e w' => e = .returned (.int .i64 (syncE SB S2)) ∧ Two w0 w' a b SA (aSync SB S2) := by
  obtain ⟨Fa, Fb, h1, h2, h3, h4, h5⟩ := h.ex
  exact (h2.sync A0 A1 A2 A3 A4 c0 c1 c2 c3 c4 S2 hc hok).mono fun e w' hh => ⟨hh.1, h.fb h1 h2 h3 h4 h5 hh.2⟩
theorem Two.writeB (h : Two w0 w a b SA SB) (st : Int) (tx : ByteArray) : Calls Tryz.prog 35 #[.pointer (some ⟨b, 0, none⟩), .int .i64 st, .string tx] w fun e w' => e = .returned (.int .i64 (writeE SB st tx)) ∧ Two w0 w' a b SA (aWrite SB 1 st tx) := by
  obtain ⟨Fa, Fb, h1, h2, h3, h4, h5⟩ := h.ex
  exact (h2.write st tx).mono fun e w' hh => ⟨hh.1, h.fb h1 h2 h3 h4 h5 hh.2⟩
theorem Two.readA (h : Two w0 w a b SA SB) (st : Int) : Calls Tryz.prog 36 #[.pointer (some ⟨a, 0, none⟩), .int .i64 st] w fun e w' => e = .returned (.tuple #[.string (noteV SA st), .bool (noteIs SA st), .int .i64 (errB (inR 0 63 st))]) ∧ Two w0 w' a b SA SB := by
  obtain ⟨Fa, Fb, h1, h2, h3⟩ := h.ex
  exact (h1.readn st).mono fun e w' hh => ⟨hh.1, h.below hh.2⟩
theorem Two.readB (h : Two w0 w a b SA SB) (st : Int) : Calls Tryz.prog 36 #[.pointer (some ⟨b, 0, none⟩), .int .i64 st] w fun e w' => e = .returned (.tuple #[.string (noteV SB st), .bool (noteIs SB st), .int .i64 (errB (inR 0 63 st))]) ∧ Two w0 w' a b SA SB := by
  obtain ⟨Fa, Fb, h1, h2, h3⟩ := h.ex
  exact (h2.readn st).mono fun e w' hh => ⟨hh.1, h.below hh.2⟩
end
theorem GrpX.two {w0 w : World} {g : Nat} {r : Nat → Nat} {S : Nat → S28} {F : Nat → Nat → Prop} {L : List Nat} {H : List S28} {md tk : List Int} {lv hv : Value} (h : GrpX w0 w g 2 r S F L H md tk lv hv) : Two w0 w (r 0) (r 1) (S 0) (S 1) :=
  ⟨⟨F 0, F 1, h.many.rep 0 (by omega), h.many.rep 1 (by omega), h.many.ne 0 1 (by omega) (by omega) (by omega), h.many.lo 0 (by omega), h.many.lo 1 (by omega)⟩, h.base⟩
/-- Why a text is not written: it is too long, or the time is over. -/
theorem writeE_why {S : S28} {st : Int} {tx : ByteArray} (hst : inR 0 63 st = true) (h : writeE S st tx ≠ 0) : (writeE S st tx == 2) = decide ((tx.size : Int) > 32) := by
  unfold writeE at *
  by_cases h1 : tx.size ≤ 32
  · have e : argW st tx = true := by unfold argW; rw [hst]; simpa using h1
    rw [if_neg (by rw [e]; simp)] at h ⊢
    split at h
    · rename_i h2
      rw [if_pos h2, decide_eq_false (by omega)]
      rfl
    · exact absurd rfl h
  · have e : argW st tx = false := by unfold argW; rw [hst]; simpa using h1
    rw [if_pos e, decide_eq_true (by omega)]
    rfl
theorem last_run (w : World) (A : Option Addr) (c : Nat) (l : List S61) (hL : Kd.C k61 w A l.length l) (hc : l.length ≤ c) (oL : ∀ x ∈ l, StepOk x) (n : Nat) (hn : n < 256) (tx : ByteArray) :
    Calls Tryz.prog 7 #[.slice A l.length c, .int .u8 n, .string tx] w fun e w' => e = .returned (.bool true) ∧ Below w.heap.size w w' := by
  have BR := Hd.mk (brief_v hL hc)
  have RN := Hd.mk (fun W (hb : Below w.heap.size w W) (h60 : l.length ≤ 60) => ran_run W 0 (by decide) A c l (Kd.C_below hL hb) oL h60)
  have B6 := Hd.mk (fun h : briefB l = true => briefB_60 h)
  have AL := Hd.mk alive_run
  have HN := Hd.mk hn
  clear hL hc oL hn
  generalize briefB l = bf at *
  go_enter Tryz.func7, Tryz.ntmps7
  go_wp2_with fail
  with_reducible refine BR.out.mono ?_
  rintro e w1 ⟨rfl, hb⟩
  have B1 := Hd.mk hb
  clear hb BR
  cases bf with
  | false =>
    go_wp2_with fail
    with_reducible refine (AL.out _).mono ?_
    rintro e wz ⟨rfl, hb⟩
    have BZ := Hd.mk (B1.out.trans (hb.mono B1.out.size))
    clear hb
    go_wp2_with fail
    go_ret
    exact ⟨rfl, BZ.out⟩
  | true =>
    by_cases h100 : (100 : Int) < (tx.size : Int)
    · go_wp2_with fail
      with_reducible refine (AL.out _).mono ?_
      rintro e wz ⟨rfl, hb⟩
      have BZ := Hd.mk (B1.out.trans (hb.mono B1.out.size))
      clear hb
      go_wp2_with fail
      go_ret
      exact ⟨rfl, BZ.out⟩
    · have R1 := Hd.mk (RN.out w1 B1.out (B6.out rfl))
      clear RN B6
      go_wp2_with fail
      refine R1.out.mono ?_
      rintro e w2 ⟨g, r, S, H, md, tk, rfl, hg, hgi⟩
      obtain ⟨F, lv, hv, gx⟩ := hg
      have TW := Hd.mk (show Two w1 w2 (r 0) (r 1) (S 0) (S 1) from GrpX.two gx)
      have gx2 : GrpX w1 w2 g 2 r S F [r 0, r 1] H md tk lv hv := gx
      obtain ⟨Al, cl, rfl⟩ := Kd.R_slice gx2.l
      obtain ⟨ad, hAl, z0⟩ := ptr_at (L := [r 0, r 1]) (Kd.R_reads' gx2.l).2.2 0 (by simp)
      obtain ⟨ad', hAl', z1⟩ := ptr_at (L := [r 0, r 1]) (Kd.R_reads' gx2.l).2.2 1 (by simp)
      subst hAl
      obtain rfl := Option.some.inj hAl'
      have q0 : w2.cell? ⟨g, 0, none⟩ = some (.slice (some ad) 2 cl) := cell_of gx2.blk 0 rfl
      have z2 : w2.cell? (ad.add 0) = some (.pointer (some ⟨r 0, 0, none⟩)) := z0
      have z3 : w2.cell? (ad.add 1) = some (.pointer (some ⟨r 1, 0, none⟩)) := z1
      have z5 : w2.cell? ⟨ad.block, ad.off + 1, none⟩ = some (.pointer (some ⟨r 1, 0, none⟩)) := z3
      have z4 : w2.cell? ad = some (.pointer (some ⟨r 0, 0, none⟩)) := by rw [show ad.add 0 = ad by simp [Addr.add]] at z2; exact z2
      clear hgi gx R1 z0 z1 gx2 hAl'
      go_wp2_with fail
      go_region
      go_wp2_with fail
      have TD := Hd.mk (TW.out.below (Below.drew (Below.refl _ _)))
      have B2 := Hd.mk B1.out
      clear TW q0 z2 z3 z4 z5
      generalize S 0 = SA at *
      generalize S 1 = SB at *
      generalize r 0 = ra at *
      generalize r 1 = rb at *
      have C := Hd.mk TD.out.stateB
      go_wp2_with fail
      refine C.out.mono ?_
      rintro e wa1 ⟨v0, v1, v2, v3, v4, rfl, hs, ht⟩
      have T1 := Hd.mk ht
      obtain ⟨C0, d0, C1, d1, C2, d2, C3, d3, C4, d4, rfl, rfl, rfl, rfl, rfl, hc⟩ := hs.stC TD.out.rtB
      have HC := Hd.mk hc
      clear hs ht C TD hc
      have C := Hd.mk (T1.out.syncA C0 C1 C2 C3 C4 d0 d1 d2 d3 d4 SB HC.out T1.out.rtB.ok)
      have EV := Hd.mk (show syncE SA SB = syncE SA SB from rfl)
      by_cases he : syncE SA SB = 0
      · rw [he] at C
        have HE2 := Hd.mk he
        clear he EV
        go_wp2_with fail
        refine C.out.mono ?_
        rintro e wb2 ⟨rfl, ht⟩
        have T2 := Hd.mk ht
        clear C ht T1
        have cv : ∀ W, (convert 5 3 (.int .u8 ((n : Int) % 64))).run Tryz.prog W = .ok (.int .i64 ((n : Int) % 64)) W := fun W => conv8 (by omega) W
        have IN := Hd.mk (show inR 0 63 ((n : Int) % 64) = true by rw [inR_iff]; omega)
        have C := Hd.mk (T2.out.writeB ((n : Int) % 64) tx)
        have EV := Hd.mk (show writeE SB ((n : Int) % 64) tx = writeE SB ((n : Int) % 64) tx from rfl)
        by_cases he : writeE SB ((n : Int) % 64) tx = 0
        · rw [he] at C
          have HE3 := Hd.mk he
          clear he EV
          go_wp2_with fail
          refine C.out.mono ?_
          rintro e wb3 ⟨rfl, ht⟩
          have T3 := Hd.mk ht
          clear C ht T2
          have RA := Hd.mk T3.out.rtA
          have RB := Hd.mk T3.out.rtB
          have C := Hd.mk T3.out.stateA
          go_wp2_with fail
          refine C.out.mono ?_
          rintro e wa4 ⟨v0, v1, v2, v3, v4, rfl, hs, ht⟩
          have T4 := Hd.mk ht
          obtain ⟨C0, d0, C1, d1, C2, d2, C3, d3, C4, d4, rfl, rfl, rfl, rfl, rfl, hc⟩ := hs.stC T3.out.rtA
          have HC := Hd.mk hc
          clear hs ht C T3 hc
          have C := Hd.mk (T4.out.syncB C0 C1 C2 C3 C4 d0 d1 d2 d3 d4 (aSync SA SB) HC.out T4.out.rtA.ok)
          have EV := Hd.mk (show syncE (aWrite SB 1 ((n : Int) % 64) tx) (aSync SA SB) = syncE (aWrite SB 1 ((n : Int) % 64) tx) (aSync SA SB) from rfl)
          by_cases he : syncE (aWrite SB 1 ((n : Int) % 64) tx) (aSync SA SB) = 0
          · rw [he] at C
            have HE5 := Hd.mk he
            clear he EV
            go_wp2_with fail
            refine C.out.mono ?_
            rintro e wb5 ⟨rfl, ht⟩
            have T5 := Hd.mk ht
            clear C ht T4
            have C := Hd.mk (T5.out.writeB ((n : Int) % 64) tx)
            have EV := Hd.mk (show writeE (aSync (aWrite SB 1 ((n : Int) % 64) tx) (aSync SA SB)) ((n : Int) % 64) tx = writeE (aSync (aWrite SB 1 ((n : Int) % 64) tx) (aSync SA SB)) ((n : Int) % 64) tx from rfl)
            by_cases he : writeE (aSync (aWrite SB 1 ((n : Int) % 64) tx) (aSync SA SB)) ((n : Int) % 64) tx = 0
            · rw [he] at C
              have HE6 := Hd.mk he
              clear he EV
              go_wp2_with fail
              refine C.out.mono ?_
              rintro e wb6 ⟨rfl, ht⟩
              have T6 := Hd.mk ht
              clear C ht T5
              have C := Hd.mk T6.out.stateB
              go_wp2_with fail
              refine C.out.mono ?_
              rintro e wa7 ⟨v0, v1, v2, v3, v4, rfl, hs, ht⟩
              have T7 := Hd.mk ht
              obtain ⟨C0, d0, C1, d1, C2, d2, C3, d3, C4, d4, rfl, rfl, rfl, rfl, rfl, hc⟩ := hs.stC T6.out.rtB
              have HC := Hd.mk hc
              clear hs ht C T6 hc
              have C := Hd.mk (T7.out.syncA C0 C1 C2 C3 C4 d0 d1 d2 d3 d4 (aWrite (aSync (aWrite SB 1 ((n : Int) % 64) tx) (aSync SA SB)) 1 ((n : Int) % 64) tx) HC.out T7.out.rtB.ok)
              have EV := Hd.mk (show syncE (aSync SA SB) (aWrite (aSync (aWrite SB 1 ((n : Int) % 64) tx) (aSync SA SB)) 1 ((n : Int) % 64) tx) = syncE (aSync SA SB) (aWrite (aSync (aWrite SB 1 ((n : Int) % 64) tx) (aSync SA SB)) 1 ((n : Int) % 64) tx) from rfl)
              by_cases he : syncE (aSync SA SB) (aWrite (aSync (aWrite SB 1 ((n : Int) % 64) tx) (aSync SA SB)) 1 ((n : Int) % 64) tx) = 0
              · rw [he] at C
                have HE8 := Hd.mk he
                clear he EV
                go_wp2_with fail
                refine C.out.mono ?_
                rintro e wb8 ⟨rfl, ht⟩
                have T8 := Hd.mk ht
                clear C ht T7
                have LN := Hd.mk (last_note RA.out RB.out (o := 1) (by decide) HE5.out HE6.out HE8.out)
                have C := Hd.mk (T8.out.readA ((n : Int) % 64))
                rw [LN.out.1.1, LN.out.1.2, IN.out] at C
                go_wp2_with fail
                refine C.out.mono ?_
                rintro e wr1 ⟨rfl, ht⟩
                have C := Hd.mk (ht.readB ((n : Int) % 64))
                rw [LN.out.2.1, LN.out.2.2, IN.out] at C
                clear ht
                go_wp2_with fail
                refine C.out.mono ?_
                rintro e wr2 ⟨rfl, ht⟩
                have B3 := Hd.mk (B2.out.trans (ht.base.mono B2.out.size))
                clear ht C
                have hr : (tx.toList == tx.toList) = true := by simp
                unfold errB
                go_wp2_with fail
                refine (AL.out _).mono ?_
                rintro e wz ⟨rfl, hb⟩
                have BZ := Hd.mk (B3.out.trans (hb.mono B3.out.size))
                clear hb
                go_wp2_with fail
                go_ret
                exact ⟨rfl, BZ.out⟩
              · have hz : ¬ (syncE (aSync SA SB) (aWrite (aSync (aWrite SB 1 ((n : Int) % 64) tx) (aSync SA SB)) 1 ((n : Int) % 64) tx) = 0) := he
                go_wp2_with fail
                refine C.out.mono ?_
                rintro e wb8 ⟨rfl, ht⟩
                have T8 := Hd.mk ht
                clear C ht T7
                have B3 := Hd.mk (B2.out.trans (T8.out.base.mono B2.out.size))
                go_wp2_with fail
                refine (AL.out _).mono ?_
                rintro e wz ⟨rfl, hb⟩
                have BZ := Hd.mk (B3.out.trans (hb.mono B3.out.size))
                clear hb
                go_wp2_with fail
                go_ret
                exact ⟨rfl, BZ.out⟩
            · have hz : ¬ (writeE (aSync (aWrite SB 1 ((n : Int) % 64) tx) (aSync SA SB)) ((n : Int) % 64) tx = 0) := he
              go_wp2_with fail
              refine C.out.mono ?_
              rintro e wb6 ⟨rfl, ht⟩
              have T6 := Hd.mk ht
              clear C ht T5
              have B3 := Hd.mk (B2.out.trans (T6.out.base.mono B2.out.size))
              go_wp2_with fail
              refine (AL.out _).mono ?_
              rintro e wz ⟨rfl, hb⟩
              have BZ := Hd.mk (B3.out.trans (hb.mono B3.out.size))
              clear hb
              go_wp2_with fail
              go_ret
              exact ⟨rfl, BZ.out⟩
          · have hz : ¬ (syncE (aWrite SB 1 ((n : Int) % 64) tx) (aSync SA SB) = 0) := he
            go_wp2_with fail
            refine C.out.mono ?_
            rintro e wb5 ⟨rfl, ht⟩
            have T5 := Hd.mk ht
            clear C ht T4
            have B3 := Hd.mk (B2.out.trans (T5.out.base.mono B2.out.size))
            go_wp2_with fail
            refine (AL.out _).mono ?_
            rintro e wz ⟨rfl, hb⟩
            have BZ := Hd.mk (B3.out.trans (hb.mono B3.out.size))
            clear hb
            go_wp2_with fail
            go_ret
            exact ⟨rfl, BZ.out⟩
        · have hz : ¬ (writeE SB ((n : Int) % 64) tx = 0) := he
          go_wp2_with fail
          refine C.out.mono ?_
          rintro e wb3 ⟨rfl, ht⟩
          have T3 := Hd.mk ht
          clear C ht T2
          have WY := writeE_why (S := SB) (st := ((n : Int) % 64)) (tx := tx) IN.out hz
          generalize writeE SB ((n : Int) % 64) tx = v at *
          have B3 := Hd.mk (B2.out.trans (T3.out.base.mono B2.out.size))
          have hq : ((v == 2) == decide ((32 : Int) < (tx.size : Int))) = true := by rw [WY]; simp
          clear WY
          go_wp2_with fail
          refine (AL.out _).mono ?_
          rintro e wz ⟨rfl, hb⟩
          have BZ := Hd.mk (B3.out.trans (hb.mono B3.out.size))
          clear hb
          go_wp2_with fail
          go_ret
          exact ⟨rfl, BZ.out⟩
      · have hz : ¬ (syncE SA SB = 0) := he
        go_wp2_with fail
        refine C.out.mono ?_
        rintro e wb2 ⟨rfl, ht⟩
        have T2 := Hd.mk ht
        clear C ht T1
        have B3 := Hd.mk (B2.out.trans (T2.out.base.mono B2.out.size))
        go_wp2_with fail
        refine (AL.out _).mono ?_
        rintro e wz ⟨rfl, hb⟩
        have BZ := Hd.mk (B3.out.trans (hb.mono B3.out.size))
        clear hb
        go_wp2_with fail
        go_ret
        exact ⟨rfl, BZ.out⟩
end Go.Proofs.YtmeaeapopfcmbaaGreat

/- GradeEnds: the walk of the law. No conditions. -/
import Derived.Test.YtnbdfmdjedakcaaH20
import Derived.Test.YtnbdfmdjedakcaaQ18
import Derived.Test.YtnbdfmdjedakcaaQ33
import Derived.Test.YtnbdfmdjedakcaaQ35
import Derived.Test.YtnbdfmdjedakcaaQ36
import Derived.Test.YtnbdfmdjedakcaaQ38
namespace Go.Proofs.Ytnbdfmdjedakcaa
open Go.RowKit Go.Proofs.YtnbdfmdjedakcaaW.PrintWords Go.Proofs.YtnbdfmdjedakcaaW.PrintLast Go.Proofs.YtnbdfmdjedakcaaW.PrintMore PP
attribute [local go_sem high] eqA36
set_option linter.unusedVariables false
set_option linter.unusedSimpArgs false
set_option maxRecDepth 100000 in
set_option maxHeartbeats 4000000 in
theorem ends_many (w : World) (A : Option Addr) (c : Nat) (l : List S36) (hC : Kd.C k36 w A l.length l) (hc : l.length ≤ c) (hl : 260 < l.length) (k : Nat) (ha : kimberlitelaw02_alive.f k = some true) :
    Calls Try.prog 6 #[.slice A l.length c] w fun e w' => e = .returned (.bool true) ∧ Below w.heap.size w w' := by
  have hf := kimberlitelaw02_few.calls A c l false w hC hc (by unfold kimberlitelaw02_few.f; rw [decide_eq_false (by omega)])
  have hal := fun W => kimberlitelaw02_alive.calls k true W ha
  clear hC hc hl ha
  go_enter Try.func6, Try.ntmps6
  go_wp2_with (first | (go_at_call 33; refine hf.mono ?_; rintro e w' ⟨rfl, n, rfl⟩) | (go_at_call 18; refine (hal _).mono ?_; rintro e w' ⟨rfl, hb⟩))
  go_ret
  exact ⟨rfl, (bel_drewN' w n).trans (hb.mono (by simp))⟩
set_option maxRecDepth 100000 in
set_option maxHeartbeats 8000000 in
theorem ends_few (w : World) (A : Option Addr) (c : Nat) (l : List S36) (hC : Kd.C k36 w A l.length l) (hc : l.length ≤ c) (hl : l.length ≤ 260) (k : Nat) (ha : kimberlitelaw02_alive.f k = some true) (hk : kimberlitelaw02_alike.f k l l = some true)
    (a b ra rb : List S36) (z : Int) (a1 : grade_Least.f l = some (a, z)) (a2 : kimberliteref02_Least.f k l false = some (a, z)) (a3 : kimberlitelaw02_alike.f k a a = some true) (a4 : kimberlitelaw02_spoil.f k a = some ra)
    (b1 : grade_Most.f l = some (b, z)) (b2 : kimberliteref02_Least.f k l true = some (b, z)) (b3 : kimberlitelaw02_alike.f k b b = some true) (b4 : kimberlitelaw02_spoil.f k b = some rb) :
    Calls Try.prog 6 #[.slice A l.length c] w fun e w' => e = .returned (.bool true) ∧ Below w.heap.size w w' := by
  have hf := kimberlitelaw02_few.calls A c l true w hC hc (by unfold kimberlitelaw02_few.f; rw [decide_eq_true (by omega)])
  have hal := fun W => kimberlitelaw02_alive.calls k true W ha
  have hzz : (z != z) = false := bne_self_eq_false z
  have HO := Hd.mk (fun W (h : Below w.heap.size w W) => own_any W A c l (Kd.C_below hC h) (by omega))
  have HK := Hd.mk (fun W g (hO : OwnB W g l) (h : Below w.heap.size w W) => kept_any W g A c l hO (Kd.C_below hC h) (by omega) hc k hk)
  have HL := Hd.mk (fun W g (hO : OwnB W g l) => grade_Least.calls (some ⟨g, 0, none⟩) (l.length + 1) l a z W (hO.C (by omega)) (by omega) a1)
  have HM := Hd.mk (fun W g (hO : OwnB W g l) => grade_Most.calls (some ⟨g, 0, none⟩) (l.length + 1) l b z W (hO.C (by omega)) (by omega) b1)
  have HF := Hd.mk (fun W (h : Below w.heap.size w W) => kimberliteref02_Least.calls k A c l false a z W (Kd.C_below hC h) hc a2)
  have HT := Hd.mk (fun W (h : Below w.heap.size w W) => kimberliteref02_Least.calls k A c l true b z W (Kd.C_below hC h) hc b2)
  have A3 := Hd.mk a3
  have A4 := Hd.mk a4
  have B3 := Hd.mk b3
  have B4 := Hd.mk b4
  clear hC hc hl ha hk a1 a2 a3 a4 b1 b2 b3 b4
  go_enter Try.func6, Try.ntmps6
  go_wp2_with (first | (go_at_call 33; refine hf.mono ?_; rintro e w' ⟨rfl, n, rfl⟩) | (go_at_call 34; refine (HO.out _ (bel_drewN' w n)).mono ?_; rintro e w1 ⟨rfl, ho, hb⟩; have HW := Hd.mk ho; have HB := Hd.mk hb; clear ho hb))
  go_loopg [4] 2 (fun gg v4 wr => ∃ t : Nat, v4 = .int .i64 t ∧ t ≤ 2 ∧ 2 - t ≤ gg ∧ Hd (Below w.heap.size w wr) ∧ Hd (OwnB wr (w.drewN n).heap.size l))
  case atStart => exact ⟨0, rfl, by omega, by omega, ⟨(bel_drewN' w n).trans (HB.out.mono (by simp))⟩, HW⟩
  case round =>
    clear HW HB
    obtain ⟨t, rfl, ht, hg, HB, HW⟩ := hrel
    by_cases h2 : t < 2
    · have h2z : (t : Int) < 2 := by omega
      go_wp2_with fail
      refine (HL.out _ _ HW.out).mono ?_
      rintro e w2a ⟨v2a, rfl, hR2a, hb2a⟩
      obtain ⟨A2a, c2a, rfl, hl2a, hC2a⟩ := Kd.R_reads hR2a
      have B2a := Hd.mk hb2a
      have R2a := Hd.mk hR2a
      have C2a := Hd.mk hC2a
      have L2a := Hd.mk hl2a
      clear hb2a hR2a hC2a hl2a
      go_wp2_with fail
      refine (HF.out _ (HB.out.trans (B2a.out.mono HB.out.size))).mono ?_
      rintro e w3a ⟨v3a, rfl, hR3a, hb3a⟩
      obtain ⟨A3a, c3a, rfl, hl3a, hC3a⟩ := Kd.R_reads hR3a
      have B3a := Hd.mk hb3a
      have C3a := Hd.mk hC3a
      have L3a := Hd.mk hl3a
      clear hb3a hR3a hC3a hl3a
      go_wp2_with fail
      refine (kimberlitelaw02_alike.calls k _ _ a _ _ a true _ (Kd.C_below C2a.out B3a.out) L2a.out C3a.out L3a.out A3.out).mono ?_
      rintro e w' ⟨rfl, na, rfl⟩
      have BBa := Hd.mk (B3a.out.trans ((bel_drewN' w3a na).mono B3a.out.size))
      go_wp2_with fail
      refine (kimberlitelaw02_spoil.calls k (fun _ => True) _ a ra wr _ (B2a.out.trans (BBa.out.mono B2a.out.size)) (Kd.R_below R2a.out BBa.out) A4.out).mono ?_
      rintro e w5a ⟨rfl, _, hb5a, _⟩
      have B5a := Hd.mk hb5a
      clear hb5a
      go_wp2_with fail
      refine (HM.out _ _ (HW.out.below B5a.out)).mono ?_
      rintro e w2b ⟨v2b, rfl, hR2b, hb2b⟩
      obtain ⟨A2b, c2b, rfl, hl2b, hC2b⟩ := Kd.R_reads hR2b
      have B2b := Hd.mk hb2b
      have R2b := Hd.mk hR2b
      have C2b := Hd.mk hC2b
      have L2b := Hd.mk hl2b
      clear hb2b hR2b hC2b hl2b
      go_wp2_with fail
      refine (HT.out _ ((HB.out.trans (B5a.out.mono HB.out.size)).trans (B2b.out.mono (HB.out.trans (B5a.out.mono HB.out.size)).size))).mono ?_
      rintro e w3b ⟨v3b, rfl, hR3b, hb3b⟩
      obtain ⟨A3b, c3b, rfl, hl3b, hC3b⟩ := Kd.R_reads hR3b
      have B3b := Hd.mk hb3b
      have C3b := Hd.mk hC3b
      have L3b := Hd.mk hl3b
      clear hb3b hR3b hC3b hl3b
      go_wp2_with fail
      refine (kimberlitelaw02_alike.calls k _ _ b _ _ b true _ (Kd.C_below C2b.out B3b.out) L2b.out C3b.out L3b.out B3.out).mono ?_
      rintro e w' ⟨rfl, nb, rfl⟩
      have BBb := Hd.mk (B3b.out.trans ((bel_drewN' w3b nb).mono B3b.out.size))
      go_wp2_with fail
      refine (kimberlitelaw02_spoil.calls k (fun _ => True) _ b rb w5a _ (B2b.out.trans (BBb.out.mono B2b.out.size)) (Kd.R_below R2b.out BBb.out) B4.out).mono ?_
      rintro e w5b ⟨rfl, _, hb5b, _⟩
      have B5b := Hd.mk hb5b
      clear hb5b
      go_wp2_with fail
      have HB6 := Hd.mk (HB.out.trans (B5a.out.mono HB.out.size))
      go_roundg (2 - (t + 1))
      case measure => omega
      case rel => exact ⟨t + 1, by go_num, by omega, by omega, ⟨HB6.out.trans (B5b.out.mono HB6.out.size)⟩, ⟨(HW.out.below B5a.out).below B5b.out⟩⟩
    · have h2z : ¬ (t : Int) < 2 := by omega
      go_wp2_with (first | (go_at_call 40; refine (HK.out _ _ HW.out HB.out).mono ?_; rintro e w' ⟨rfl, hb⟩; have HB1 := Hd.mk hb; clear hb) | (go_at_call 18; refine (hal _).mono ?_; rintro e w' ⟨rfl, hb⟩; have HB2 := Hd.mk hb; clear hb))
      go_ret
      exact ⟨rfl, (HB.out.trans (HB1.out.mono HB.out.size)).trans (HB2.out.mono (HB.out.trans (HB1.out.mono HB.out.size)).size)⟩
end Go.Proofs.Ytnbdfmdjedakcaa

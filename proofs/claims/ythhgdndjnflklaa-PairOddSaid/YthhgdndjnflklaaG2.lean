import Derived.Test.YthhgdndjnflklaaG1
namespace Go.Proofs.Ythhgdndjnflklaa
open Go.RowKit
set_option linter.unusedVariables false
set_option linter.unusedSimpArgs false

/-- mark: the blossom's bases on the way from a stone to its base; the way's even stones get new parents. -/
def markS (n : Nat) (M : Nat → Nat) (ba : Nat → Nat) (b : Nat) : Nat → Nat → Nat → (Nat → Int) → (Nat → Bool) → Option ((Nat → Int) × (Nat → Bool))
  | 0, _, _, _, _ => none
  | k + 1, v, child, pa, inn =>
    if v < n ∧ ba v < n then
      if ba v = b then some (pa, inn)
      else if M v < n ∧ ba (M v) < n ∧ 0 ≤ (upd pa v (child : Int)) (M v) then
        markS n M ba b k ((upd pa v (child : Int)) (M v)).toNat (M v) (upd pa v (child : Int)) (upd (upd inn (ba v) true) (ba (M v)) true)
      else none
    else none

set_option maxHeartbeats 1000000 in
theorem mark_any (w : World) (B bf gb mb bi n mcap v b child k : Nat) (nx : Nat → Nat → Bool) (M : Nat → Nat) (pa pa' : Nat → Int) (ba : Nat → Nat) (us inn inn' : Nat → Bool) (qv : Value)
   (h : Fo w bf gb mb n mcap nx M pa ba us qv) (hi : BBlk w bi 63 24 n inn) (hBf : B ≤ bf) (hBi : B ≤ bi)
   (hr : markS n M ba b k v child pa inn = some (pa', inn')) :
    Calls Try.prog 46 #[.pointer (some ⟨bf, 0, none⟩), .int .i64 v, .int .i64 b, .int .i64 child, .pointer (some ⟨bi, 0, none⟩)] w fun e w' => e = .returned (.tuple #[]) ∧
      (Fo w' bf gb mb n mcap nx M pa' ba us qv ∧ BBlk w' bi 63 24 n inn' ∧ Below B w w' ∧ ∀ x, x ≠ bf → x ≠ bi → w'.heap[x]? = w.heap[x]?) := by
  have HR := Hd.mk hr
  have HF := Hd.mk h
  have HI := Hd.mk hi
  clear hr h hi
  go_enter Try.func46, Try.ntmps46
  go_wp2
  go_loopg [1, 3] k (fun kq v1 v3 wr => ∃ (x c : Nat) (p : Nat → Int) (i : Nat → Bool), v1 = .int .i64 x ∧ v3 = .int .i64 c ∧ Hd (markS n M ba b kq x c p i = some (pa', inn')) ∧
     Hd (Fo wr bf gb mb n mcap nx M p ba us qv) ∧ Hd (BBlk wr bi 63 24 n i) ∧ Hd (Below B w wr) ∧ Hd (∀ x, x ≠ bf → x ≠ bi → wr.heap[x]? = w.heap[x]?))
  case atStart => exact ⟨v, child, pa, inn, rfl, rfl, HR, HF, HI, ⟨Below.refl _ _⟩, ⟨fun _ _ _ => rfl⟩⟩
  case round =>
    obtain ⟨x, c, p, i, rfl, rfl, HX, HF, HI, HB, HK⟩ := hrel
    clear HR
    cases gk with
    | zero => exact absurd HX.out (by simp [markS])
    | succ k1 =>
      have hx := HX.out
      clear HX
      simp only [markS] at hx
      split at hx
      · rename_i hlt
        obtain ⟨hx1, hx2⟩ := hlt
        have cb := HF.out.f.getBa x hx1
        have hn := HF.out.g.le
        by_cases hb : ba x = b
        · rw [if_pos hb] at hx
          simp only [Option.some.injEq, Prod.mk.injEq] at hx
          obtain ⟨rfl, rfl⟩ := hx
          have hbb : ((ba x : Int) != (b : Int)) = false := by simp [hb]
          clear hb
          go_wp2_with fail
          go_end0
          exact ⟨rfl, HF.out, HI.out, HB.out, HK.out⟩
        · rw [if_neg hb] at hx
          have hbb : ((ba x : Int) != (b : Int)) = true := by simp; omega
          clear hb
          split at hx
          · rename_i hq
            obtain ⟨hq1, hq2, hq3⟩ := hq
            have HQ := Hd.mk hx
            clear hx
            have cb2 := HF.out.f.getBa (M x) hq1
            have ci1 := HI.out.cell (ba x) hx2
            have ci2 := HI.out.cell (ba (M x)) hq2
            have fi1 := HI.out.frozen (ba x)
            have fi2 := HI.out.frozen (ba (M x))
            have hne : bi ≠ bf := by
              obtain ⟨_, C, hC, _⟩ := HF.out.f
              obtain ⟨D, hD, _⟩ := HI.out
              intro e
              rw [e, hC] at hD
              simp at hD
            go_wp2_with fail
            have HMx := Hd.mk (show mateS n M x = (M x : Int) by rw [mateS, if_neg (by omega)])
            have hng : bi ≠ gb := by
              obtain ⟨_, C, hC, _⟩ := HF.out.g
              obtain ⟨D, hD, _⟩ := HI.out
              intro e
              rw [e, hC] at hD
              simp at hD
            have hnm : bi ≠ mb := by
              obtain ⟨C, hC, _⟩ := HF.out.m
              obtain ⟨D, hD, _⟩ := HI.out
              intro e
              rw [e, hC] at hD
              simp at hD
            have HFs : Hd (∀ w' o v, Fo w' bf gb mb n mcap nx M p ba us qv → Fo (w'.setCell ⟨bi, o, none⟩ v) bf gb mb n mcap nx M p ba us qv) := ⟨fun w' o v h =>
              ⟨h.f.of_heap (heap_set_ne _ _ _ _ _ hne.symm), h.g.of_heap (heap_set_ne _ _ _ _ _ hng.symm), h.m.of_heap (heap_set_ne _ _ _ _ _ hnm.symm), h.mle⟩⟩
            have HNE := Hd.mk hne
            clear hng hnm
            have i1 : (x : Int) < 24 := by omega
            have i2 : (M x : Int) < 24 := by omega
            have i3 : (ba x : Int) < 24 := by omega
            have i4 : (ba (M x) : Int) < 24 := by omega
            have j1 : (0 : Int) ≤ x := by omega
            have j2 : (0 : Int) ≤ M x := by omega
            have j3 : (0 : Int) ≤ ba x := by omega
            have j4 : (0 : Int) ≤ ba (M x) := by omega
            by_cases hee : ba x = ba (M x)
            · have HEE := Hd.mk hee
              rw [← hee] at cb2
              clear ci2 fi2 i4 j4 hq2 hee
              go_region_held3 (fun w' => w'.cell? ⟨bf, 26 + x, none⟩ = some (.int .i64 (ba x)) ∧ w'.cell? ⟨bf, 26 + M x, none⟩ = some (.int .i64 (ba x)) ∧ Hd (Fo w' bf gb mb n mcap nx M p ba us qv))
                ((refine ⟨?_, ?_, ?_⟩; (go_simp); (go_simp); (first | exact ⟨HF.out.of_heap (fun k hk => rfl)⟩ | exact ⟨HFs.out _ _ _ (HF.out.of_heap (fun k hk => rfl))⟩ | exact ⟨HFs.out _ _ _ (HFs.out _ _ _ (HF.out.of_heap (fun k hk => rfl)))⟩)))
                (first | (go_at_call 43; refine (mate_any _ bf gb mb n mcap x nx M p ba us qv (by exact HF.out.of_heap (fun k hk => rfl)) hx1 (M x) HMx.out).mono ?_; rintro e w1 ⟨rfl, m1, rfl⟩))
              refine gen_world (fun wq => Fo wq bf gb mb n mcap nx M p ba us qv ∧ BBlk wq bi 63 24 n (upd (upd i (ba x) true) (ba (M x)) true) ∧ Below B w wq ∧ (∀ x, x ≠ bf → x ≠ bi → wq.heap[x]? = w.heap[x]?)) ?_ ?_
              · exact ⟨HFs.out _ _ _ (HFs.out _ _ _ (HF.out.of_heap (fun k hk => rfl))), by rw [← HEE.out]; exact ((HI.out.of_heap (w' := wr.drewN _) rfl).set _ hx2 true).set _ hx2 true, bel_set (bel_set (bel_drewN HB.out _) hBi _ _) hBi _ _, fun z h1 h2 => by rw [heap_set_ne _ _ _ _ _ h2, heap_set_ne _ _ _ _ _ h2]; exact HK.out z h1 h2⟩
              · skip
                intro wq ⟨gF, gI, gB, gK⟩
                have cp := gF.f.getPa x hx1
                have fp := gF.f.frozen (2 + x)
                have HI2 := Hd.mk gI
                have HB2 := Hd.mk gB
                have HK2 := Hd.mk gK
                have HF2 := Hd.mk gF
                clear gF gI gB gK cb cb2 ci1 fi1 HF HI HB HK HFs hne hbb
                go_wp2_with fail
                refine (mate_fr _ bf gb mb n mcap x nx M (upd p x c) ba us qv (HF2.out.store (HF2.out.f.setPa x hx1 c)) hx1 _ HMx.out).mono ?_
                rintro e w1 ⟨rfl, hh1, hb1⟩
                have hF3 : Fo (wq.setCell ⟨bf, 2 + x, none⟩ (.int .i64 c)) bf gb mb n mcap nx M (upd p x c) ba us qv := (HF2.out.store (HF2.out.f.setPa x hx1 c))
                have HF3 := Hd.mk (hF3.of_heap (w' := w1) (fun k hk => by rw [hh1]))
                have HI3 := Hd.mk (HI2.out.of_heap (w' := w1) (by rw [hh1, heap_set_ne _ _ _ _ _ HNE.out]))
                have HB3 := Hd.mk (show Below B w w1 from bel_then (bel_set HB2.out hBf (2 + x) (.int .i64 c)) hb1 (Nat.le_trans (Nat.le_trans hBf (Nat.le_of_lt hF3.f.lt)) (Nat.le_refl _)))
                have HK3 := Hd.mk (show ∀ x, x ≠ bf → x ≠ bi → w1.heap[x]? = w.heap[x]? from fun z h1 h2 => by rw [hh1, heap_set_ne _ _ _ _ _ h1]; exact HK2.out z h1 h2)
                have cp3 := HF3.out.f.getPa (M x) hq1
                have HZ := Hd.mk (Int.toNat_of_nonneg hq3)
                clear cp fp HF2 HI2 HB2 HK2 hF3 hh1 hb1 hq3
                go_wp2_with fail
                go_quiet ((go_at_call 43; go_must (exact mate_quiet _ bf gb mb n mcap x nx M (upd p x c) ba us qv HF3.out hx1 _ HMx.out _)))
                go_wp2_with fail
                go_roundg k1
                case measure => omega
                case rel => exact ⟨(upd p x c (M x)).toNat, M x, _, _, by rw [HZ.out], rfl, HQ, ⟨HF3.out.of_heap (fun k hk => rfl)⟩, ⟨HI3.out.of_heap rfl⟩, ⟨bel_drewN HB3.out _⟩, ⟨HK3.out⟩⟩
            · go_region_held3 (fun w' => w'.cell? ⟨bf, 26 + x, none⟩ = some (.int .i64 (ba x)) ∧ w'.cell? ⟨bf, 26 + M x, none⟩ = some (.int .i64 (ba (M x))) ∧ Hd (Fo w' bf gb mb n mcap nx M p ba us qv))
                ((refine ⟨?_, ?_, ?_⟩; (go_simp); (go_simp); (first | exact ⟨HF.out.of_heap (fun k hk => rfl)⟩ | exact ⟨HFs.out _ _ _ (HF.out.of_heap (fun k hk => rfl))⟩ | exact ⟨HFs.out _ _ _ (HFs.out _ _ _ (HF.out.of_heap (fun k hk => rfl)))⟩)))
                (first | (go_at_call 43; refine (mate_any _ bf gb mb n mcap x nx M p ba us qv (by exact HF.out.of_heap (fun k hk => rfl)) hx1 (M x) HMx.out).mono ?_; rintro e w1 ⟨rfl, m1, rfl⟩))
              refine gen_world (fun wq => Fo wq bf gb mb n mcap nx M p ba us qv ∧ BBlk wq bi 63 24 n (upd (upd i (ba x) true) (ba (M x)) true) ∧ Below B w wq ∧ (∀ x, x ≠ bf → x ≠ bi → wq.heap[x]? = w.heap[x]?)) ?_ ?_
              · exact ⟨HFs.out _ _ _ (HFs.out _ _ _ (HF.out.of_heap (fun k hk => rfl))), ((HI.out.of_heap (w' := wr.drewN _) rfl).set _ hx2 true).set _ hq2 true, bel_set (bel_set (bel_drewN HB.out _) hBi _ _) hBi _ _, fun z h1 h2 => by rw [heap_set_ne _ _ _ _ _ h2, heap_set_ne _ _ _ _ _ h2]; exact HK.out z h1 h2⟩
              · skip
                intro wq ⟨gF, gI, gB, gK⟩
                have cp := gF.f.getPa x hx1
                have fp := gF.f.frozen (2 + x)
                have HI2 := Hd.mk gI
                have HB2 := Hd.mk gB
                have HK2 := Hd.mk gK
                have HF2 := Hd.mk gF
                clear gF gI gB gK cb cb2 ci1 fi1 HF HI HB HK HFs hne hbb
                go_wp2_with fail
                refine (mate_fr _ bf gb mb n mcap x nx M (upd p x c) ba us qv (HF2.out.store (HF2.out.f.setPa x hx1 c)) hx1 _ HMx.out).mono ?_
                rintro e w1 ⟨rfl, hh1, hb1⟩
                have hF3 : Fo (wq.setCell ⟨bf, 2 + x, none⟩ (.int .i64 c)) bf gb mb n mcap nx M (upd p x c) ba us qv := (HF2.out.store (HF2.out.f.setPa x hx1 c))
                have HF3 := Hd.mk (hF3.of_heap (w' := w1) (fun k hk => by rw [hh1]))
                have HI3 := Hd.mk (HI2.out.of_heap (w' := w1) (by rw [hh1, heap_set_ne _ _ _ _ _ HNE.out]))
                have HB3 := Hd.mk (show Below B w w1 from bel_then (bel_set HB2.out hBf (2 + x) (.int .i64 c)) hb1 (Nat.le_trans (Nat.le_trans hBf (Nat.le_of_lt hF3.f.lt)) (Nat.le_refl _)))
                have HK3 := Hd.mk (show ∀ x, x ≠ bf → x ≠ bi → w1.heap[x]? = w.heap[x]? from fun z h1 h2 => by rw [hh1, heap_set_ne _ _ _ _ _ h1]; exact HK2.out z h1 h2)
                have cp3 := HF3.out.f.getPa (M x) hq1
                have HZ := Hd.mk (Int.toNat_of_nonneg hq3)
                clear cp fp HF2 HI2 HB2 HK2 hF3 hh1 hb1 hq3
                go_wp2_with fail
                go_quiet ((go_at_call 43; go_must (exact mate_quiet _ bf gb mb n mcap x nx M (upd p x c) ba us qv HF3.out hx1 _ HMx.out _)))
                go_wp2_with fail
                go_roundg k1
                case measure => omega
                case rel => exact ⟨(upd p x c (M x)).toNat, M x, _, _, by rw [HZ.out], rfl, HQ, ⟨HF3.out.of_heap (fun k hk => rfl)⟩, ⟨HI3.out.of_heap rfl⟩, ⟨bel_drewN HB3.out _⟩, ⟨HK3.out⟩⟩
          · exact absurd hx (by simp)
      · exact absurd hx (by simp)
end Go.Proofs.Ythhgdndjnflklaa

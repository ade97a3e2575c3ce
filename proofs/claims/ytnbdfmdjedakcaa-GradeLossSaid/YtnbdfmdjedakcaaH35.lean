/- full: the walk. No conditions. -/
import Derived.Test.YtnbdfmdjedakcaaH33
namespace Go.Proofs.Ytnbdfmdjedakcaa
open Go.RowKit Go.Proofs.YtnbdfmdjedakcaaW.PrintWords Go.Proofs.YtnbdfmdjedakcaaW.PrintLast Go.Proofs.YtnbdfmdjedakcaaW.PrintMore PP
set_option linter.unusedVariables false
set_option linter.unusedSimpArgs false
theorem NetB.get {w : World} {nb : Nat} {r : Nat → Nat → Int} (h : NetB w nb r) (u v : Nat) (hu : u < 26) (hv : v < 26) : w.cell? ⟨nb, u * 26 + v, none⟩ = some (.int .i64 (r u v)) := NetB.row h u hu v hv
theorem NetB.set {w : World} {nb : Nat} {r : Nat → Nat → Int} (h : NetB w nb r) (u v : Nat) (hu : u < 26) (hv : v < 26) (x : Int) : NetB (w.setCell ⟨nb, u * 26 + v, none⟩ (.int .i64 x)) nb (fun a b => if a = u ∧ b = v then x else r a b) := by
  refine (VBlk.set h (u * 26 + v) (by omega) x).congr fun k hk => ?_
  show (if k = u * 26 + v then x else r (k / 26) (k % 26)) = if k / 26 = u ∧ k % 26 = v then x else r (k / 26) (k % 26)
  by_cases e : k = u * 26 + v
  · rw [if_pos e, if_pos ⟨by omega, by omega⟩]
  · rw [if_neg e, if_neg (fun hh => e (by omega))]
/-- The world while full runs. -/
structure FuB (w0 : World) (lo nb rb : Nat) (w : World) (r : Nat → Nat → Int) : Prop where
  B : Below lo w0 w
  N : NetB w nb r
  R : VBlk encI 96 w rb 26 (fun _ => 0)
  bn : lo ≤ nb
  br : lo ≤ rb
  bs : lo ≤ w.heap.size
  nr : nb ≠ rb
structure FvB (w0 : World) (lo nb rb fb : Nat) (w : World) (r : Nat → Nat → Int) (F : Nat → Int) : Prop where
  U : FuB w0 lo nb rb w r
  X : VBlk encI 96 w fb 26 F
  bf : lo ≤ fb
  nf : nb ≠ fb
  rf : rb ≠ fb
section
variable {w0 w w' : World} {lo nb rb fb : Nat} {r : Nat → Nat → Int} {F : Nat → Int}
theorem FuB.below (h : FuB w0 lo nb rb w r) (hb : Below w.heap.size w w') : FuB w0 lo nb rb w' r :=
  ⟨h.B.trans (hb.mono h.bs), h.N.of_heap (hb.block _ h.N.lt), h.R.of_heap (hb.block _ h.R.lt), h.bn, h.br, Nat.le_trans h.bs hb.size, h.nr⟩
theorem FuB.row (h : FuB w0 lo nb rb w r) (F : Nat → Int) : FvB w0 lo nb rb w.heap.size (putRow (newRow w) w.heap.size F) r F := by
  have h1 := h.below (newRow_bel w)
  have x1 := newRow_blk w
  have a1 := h.N.lt
  have a2 := h.R.lt
  exact ⟨⟨putRow_bel h1.B h.bs _, h1.N.of_heap (putRow_ne _ _ _ _ (by omega)), h1.R.of_heap (putRow_ne _ _ _ _ (by omega)), h.bn, h.br, by rw [putRow_size]; exact h1.bs, h.nr⟩, putRow_blk x1 F, h.bs, by omega, by omega⟩
theorem FvB.drewN (h : FvB w0 lo nb rb fb w r F) (m : Nat) : FvB w0 lo nb rb fb (w.drewN m) r F :=
  ⟨⟨bel_drewN h.U.B m, h.U.N.of_heap rfl, h.U.R.of_heap rfl, h.U.bn, h.U.br, h.U.bs, h.U.nr⟩, h.X.of_heap rfl, h.bf, h.nf, h.rf⟩
theorem FvB.set (h : FvB w0 lo nb rb fb w r F) (u v : Nat) (hu : u < 26) (hv : v < 26) (x : Int) : FvB w0 lo nb rb fb (w.setCell ⟨nb, u * 26 + v, none⟩ (.int .i64 x)) (fun a b => if a = u ∧ b = v then x else r a b) F :=
  ⟨⟨bel_set h.U.B h.U.bn _ _, h.U.N.set u v hu hv x, h.U.R.other h.U.nr.symm _ _, h.U.bn, h.U.br, by rw [size_set]; exact h.U.bs, h.U.nr⟩, h.X.other h.nf.symm _ _, h.bf, h.nf, h.rf⟩
theorem FvB.congr {r' : Nat → Nat → Int} (h : FvB w0 lo nb rb fb w r F) (e : r = r') : FvB w0 lo nb rb fb w r' F := e ▸ h
end
theorem fullN_step {F2 : Nat → Int} {r r2 : Nat → Nat → Int} {f : Nat} {big : Int} (h : fullN 26 24 25 big (f + 1) r = some (F2, r2)) : ∃ F, bfs 26 r 27 (upd (fun _ => 0) 24 25) [24] = some F ∧ ((F 25 = 0 ∧ F2 = F ∧ r2 = r) ∨ (F 25 ≠ 0 ∧ ∃ L r3, leastP F r 24 26 27 25 big = some L ∧ pushP F 24 26 L 27 25 r = some r3 ∧ fullN 26 24 25 big f r3 = some (F2, r2))) := by
  rw [fullN] at h
  cases e1 : bfs 26 r 27 (upd (fun _ => 0) 24 25) [24] with
  | none => rw [show bfs 26 r (26 + 1) (upd (fun _ => 0) 24 ((24 : Nat) + 1)) [((24 : Nat) : Int)] = none from e1] at h; exact absurd h (by simp)
  | some F =>
    rw [show bfs 26 r (26 + 1) (upd (fun _ => 0) 24 ((24 : Nat) + 1)) [((24 : Nat) : Int)] = some F from e1] at h
    refine ⟨F, rfl, ?_⟩
    simp only at h
    by_cases e2 : F 25 = 0
    · rw [if_pos e2] at h
      have := Option.some.inj h
      simp only [Prod.mk.injEq] at this
      exact .inl ⟨e2, this.1.symm, this.2.symm⟩
    · rw [if_neg e2] at h
      cases e3 : leastP F r 24 26 (26 + 1) 25 big with
      | none => rw [e3] at h; exact absurd h (by simp)
      | some L =>
        rw [e3] at h
        simp only at h
        cases e4 : pushP F 24 26 L (26 + 1) 25 r with
        | none => rw [e4] at h; exact absurd h (by simp)
        | some r3 => rw [e4] at h; exact .inr ⟨e2, L, r3, rfl, e4, h⟩
set_option maxRecDepth 100000 in
set_option maxHeartbeats 4000000 in
theorem full_any (w : World) (B nb : Nat) (hB : B ≤ nb) (hBs : B ≤ w.heap.size) (r : Nat → Nat → Int) (hN : NetB w nb r) (f : Nat) (F2 : Nat → Int) (r2 : Nat → Nat → Int) (hF : fullN 26 24 25 1152921504606846976 f r = some (F2, r2)) :
    Calls Try.prog 117 #[.pointer (some ⟨nb, 0, none⟩)] w fun e w' => e = .returned (aggI F2) ∧ Below B w w' := by
  have HU := Hd.mk (show FuB w B nb w.heap.size (newRow w) r from ⟨(newRow_bel w).mono hBs, hN.of_heap ((newRow_bel w).block _ hN.lt), newRow_blk w, hB, hBs, Nat.le_trans hBs (newRow_bel w).size, by have := hN.lt; omega⟩)
  have HF := Hd.mk hF
  clear hN hF hB hBs
  go_enter Try.func117, Try.ntmps117
  go_wp2_with ((with_reducible refine wpL_alloc rfl rfl ?_); go_simp)
  generalize newRow w = w1 at HU ⊢
  generalize w.heap.size = rb at HU ⊢
  go_loopg [3] f (fun gg v3 wr => ∃ (r1 : Nat → Nat → Int), Hd (gg ≤ f ∧ fullN 26 24 25 1152921504606846976 gg r1 = some (F2, r2)) ∧ Hd (FuB w B nb rb wr r1))
  case atStart => exact ⟨_, ⟨Nat.le_refl _, HF.out⟩, HU⟩
  case round =>
    clear HU HF
    obtain ⟨r1, HP, HU⟩ := hrel
    cases gk with
    | zero => exact absurd HP.out.2 (by simp [fullN])
    | succ g1 =>
      have HG := Hd.mk HP.out.1
      obtain ⟨F, e1, hcase⟩ := fullN_step HP.out.2
      have HC := Hd.mk hcase
      have HR := Hd.mk (reach_any wr nb r1 HU.out.N F e1)
      clear HP e1 hcase
      go_wp2_with fail
      refine HR.out.mono ?_
      rintro e w2 ⟨rfl, hb⟩
      have HU2 := Hd.mk (HU.out.below hb)
      clear hb HU HR
      have HV := Hd.mk (HU2.out.row F)
      have x0 := Hd.mk (newRow_blk w2)
      clear HU2
      by_cases h0 : F 25 = 0
      · have d1 : decide (F 25 = 0) = true := decide_eq_true h0
        obtain ⟨_, rfl, rfl⟩ | ⟨h1, _⟩ := HC.out
        · clear HC
          go_wp2_with (first | ((with_reducible refine wpL_alloc rfl rfl ?_); go_simp) | ((with_reducible refine wpL_store rfl _ _ rfl w2.heap.size _ F2 rfl rfl x0.out ?_); generalize putRow (newRow w2) w2.heap.size F2 = w3 at HV ⊢; generalize w2.heap.size = fb at HV ⊢; have gx := HV.out.X.cell 25 (by decide); unfold encI at gx; have HL := Hd.mk (fun j (hj : j < 26) => (by rw [Nat.zero_add]; exact HV.out.X.cell j hj : w3.cell? ⟨fb, 0 + j, none⟩ = some (encI (F2 j)))); have HRb := Hd.mk HV.out.U.R; clear x0; go_simp) | (with_reducible refine wpL_load rfl _ rfl fb 0 rfl F2 HL.out ?_) | ((with_reducible refine wpL_store rfl _ _ rfl rb _ F2 rfl rfl HRb.out ?_); have HE := Hd.mk (putRow_blk HRb.out F2); have HB := Hd.mk (putRow_bel HV.out.U.B HV.out.U.br F2); generalize putRow w3 rb F2 = w9 at HE HB ⊢))
          refine bodyPost_ret (results_row rfl _ rb F2 rfl HE.out) rfl ?_
          exact ⟨rfl, HB.out⟩
        · exact absurd h0 h1
      · have d1 : decide (F 25 = 0) = false := decide_eq_false h0
        obtain ⟨h1, _⟩ | ⟨_, L, r3, e3, e4, e5⟩ := HC.out
        · exact absurd h1 h0
        · have HM := Hd.mk e3
          have HQ := Hd.mk e4
          have HP := Hd.mk e5
          clear HC e3 e4 e5 h0
          go_wp2_with (first | ((with_reducible refine wpL_alloc rfl rfl ?_); go_simp) | ((with_reducible refine wpL_store rfl _ _ rfl w2.heap.size _ F rfl rfl x0.out ?_); generalize putRow (newRow w2) w2.heap.size F = w3 at HV ⊢; generalize w2.heap.size = fb at HV ⊢; have gx := HV.out.X.cell 25 (by decide); unfold encI at gx; have HL := Hd.mk (fun j (hj : j < 26) => (by rw [Nat.zero_add]; exact HV.out.X.cell j hj : w3.cell? ⟨fb, 0 + j, none⟩ = some (encI (F j)))); have HRb := Hd.mk HV.out.U.R; clear x0; go_simp))
          clear d1 gx HL HRb
          go_loopg [4, 5] 27 (fun gg v4 v5 wr => ∃ (d : Int) (v : Nat), v4 = .int .i64 d ∧ v5 = .int .i64 v ∧ v < 26 ∧ Hd (gg ≤ 27 ∧ leastP F r1 24 26 gg v d = some L) ∧ Hd (FvB w B nb rb fb wr r1 F))
          case atStart => exact ⟨_, 25, rfl, rfl, by decide, ⟨Nat.le_refl _, HM.out⟩, HV⟩
          case round =>
            clear HM HV
            obtain ⟨d, v, rfl, rfl, hv, HM, HV⟩ := hrel
            cases gk with
            | zero => exact absurd HM.out.2 (by simp [leastP])
            | succ g2 =>
              have HG2 := Hd.mk HM.out.1
              have hm := HM.out.2
              rw [leastP] at hm
              clear HM
              by_cases hv24 : v = 24
              · rw [if_pos hv24] at hm
                obtain rfl := Option.some.inj hm
                subst hv24
                clear hm HG2
                go_wp2_with fail
                go_loopg [6] 27 (fun gg v6 wr => ∃ (v : Nat) (r' : Nat → Nat → Int), v6 = .int .i64 v ∧ v < 26 ∧ Hd (gg ≤ 27 ∧ pushP F 24 26 d gg v r' = some r3) ∧ Hd (FvB w B nb rb fb wr r' F))
                case atStart => exact ⟨25, _, rfl, by decide, ⟨Nat.le_refl _, HQ.out⟩, HV⟩
                case round =>
                  clear HQ HV
                  obtain ⟨v, r', rfl, hv, HM, HV⟩ := hrel
                  cases gk with
                  | zero => exact absurd HM.out.2 (by simp [pushP])
                  | succ g2 =>
                    have HG2 := Hd.mk HM.out.1
                    have hm := HM.out.2
                    rw [pushP] at hm
                    clear HM
                    by_cases hv24 : v = 24
                    · rw [if_pos hv24] at hm
                      obtain rfl := Option.some.inj hm
                      subst hv24
                      clear hm HG2
                      go_wp2_with fail
                      go_roundg g1
                      case measure => omega
                      case rel => exact ⟨_, ⟨by have := HG.out; omega, HP.out⟩, ⟨HV.out.U⟩⟩
                    · rw [if_neg hv24] at hm
                      by_cases hF : (1 ≤ F v ∧ F v ≤ (26 : Nat)) ∧ par F v ≠ v ∧ 0 ≤ d ∧ d ≤ r' (par F v) v ∧ r' (par F v) v ≤ 4611686018427387904 ∧ 0 ≤ r' v (par F v) ∧ r' v (par F v) + d ≤ 4611686018427387904
                      · rw [if_pos hF] at hm
                        obtain ⟨p, hp⟩ : ∃ p, par F v = p := ⟨_, rfl⟩
                        have hFp : F v = (p : Int) + 1 := by rw [← hp]; unfold par; omega
                        have hp26 : p < 26 := by omega
                        rw [hp] at hm hF
                        obtain ⟨_, hpv, h1, h2, h3, h4, h5⟩ := hF
                        have HM := Hd.mk hm
                        clear hm
                        have gx := HV.out.X.cell v hv
                        unfold encI at gx
                        rw [hFp] at gx
                        have gn := HV.out.U.N.get p v hp26 hv
                        have fn := HV.out.U.N.frozen (p * 26 + v)
                        have d1 : decide ((v : Int) ≠ 24) = true := decide_eq_true (by omega)
                        have pz : (p : Int) < 26 := by omega
                        have vz : (v : Int) < 26 := by omega
                        have hnf := HV.out.nf
                        clear hp
                        go_wp2_with fail
                        go_region
                        have HV2 := Hd.mk (show FvB w B nb rb fb (wr.setCell ⟨nb, p * 26 + v, none⟩ (Value.int IntKind.i64 (r' p v - d))).drew _ F from (HV.out.set p v hp26 hv (r' p v - d)).drewN 1)
                        clear gx gn fn HV
                        generalize (wr.setCell ⟨nb, p * 26 + v, none⟩ (Value.int IntKind.i64 (r' p v - d))).drew = wd at HV2 ⊢
                        have gx := HV2.out.X.cell v hv
                        unfold encI at gx
                        rw [hFp] at gx
                        have gn := HV2.out.U.N.get v p hv hp26
                        rw [if_neg (fun hh => hpv hh.1.symm)] at gn
                        have fn := HV2.out.U.N.frozen (v * 26 + p)
                        go_wp2_with fail
                        go_region
                        have HV3 := Hd.mk ((show FvB w B nb rb fb (wd.setCell ⟨nb, v * 26 + p, none⟩ (Value.int IntKind.i64 (r' v p + d))).drew _ F from (HV2.out.set v p hv hp26 (r' v p + d)).drewN 1).congr (r' := push1 r' p v d) (by
                          funext a b
                          unfold push1
                          by_cases e1 : a = p ∧ b = v
                          · rw [if_pos e1, if_neg (fun e2 => hpv (by omega)), if_pos e1, e1.1, e1.2]
                          · rw [if_neg e1]
                            by_cases e2 : a = v ∧ b = p
                            · rw [if_pos e2, if_pos e2, if_neg e1, e2.1, e2.2]
                            · rw [if_neg e2, if_neg e2, if_neg e1]))
                        clear gx gn fn HV2
                        generalize (wd.setCell ⟨nb, v * 26 + p, none⟩ (Value.int IntKind.i64 (r' v p + d))).drew = we at HV3 ⊢
                        have gx := HV3.out.X.cell v hv
                        unfold encI at gx
                        rw [hFp] at gx
                        go_wp2_with fail
                        go_roundg g2
                        case measure => omega
                        case rel => exact ⟨p, _, by go_num, hp26, ⟨by have := HG2.out; omega, HM.out⟩, HV3⟩
                      · rw [if_neg hF] at hm
                        exact absurd hm (by simp)
              · rw [if_neg hv24] at hm
                by_cases hF : 1 ≤ F v ∧ F v ≤ (26 : Nat)
                · rw [if_pos hF] at hm
                  have HM := Hd.mk hm
                  clear hm
                  obtain ⟨p, hp⟩ : ∃ p, par F v = p := ⟨_, rfl⟩
                  have hFp : F v = (p : Int) + 1 := by rw [← hp]; unfold par; omega
                  have hp26 : p < 26 := by omega
                  rw [hp] at HM
                  have gx := HV.out.X.cell v hv
                  unfold encI at gx
                  rw [hFp] at gx
                  have gn := HV.out.U.N.get p v hp26 hv
                  have d1 : decide ((v : Int) ≠ 24) = true := decide_eq_true (by omega)
                  have pz : (p : Int) < 26 := by omega
                  have vz : (v : Int) < 26 := by omega
                  clear hp hF
                  go_wp2_with fail
                  go_region
                  have HV2 := Hd.mk (show FvB w B nb rb fb wr.drew r1 F from HV.out.drewN 1)
                  clear gx gn HV
                  generalize wr.drew = wd at HV2 ⊢
                  have gx := HV2.out.X.cell v hv
                  unfold encI at gx
                  rw [hFp] at gx
                  go_wp2_with fail
                  go_roundg g2
                  case measure => omega
                  case rel => exact ⟨_, p, by go_num, by go_num, hp26, ⟨by have := HG2.out; omega, HM.out⟩, HV2⟩
                · rw [if_neg hF] at hm
                  exact absurd hm (by simp)
end Go.Proofs.Ytnbdfmdjedakcaa

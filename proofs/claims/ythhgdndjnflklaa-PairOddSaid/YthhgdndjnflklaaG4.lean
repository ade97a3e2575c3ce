import Derived.Test.YthhgdndjnflklaaG3
namespace Go.Proofs.Ythhgdndjnflklaa
open Go.RowKit
set_option linter.unusedVariables false
set_option linter.unusedSimpArgs false

set_option maxHeartbeats 1000000 in
theorem shrink_any (w : World) (B bf gb mb n mcap v u k : Nat) (nx : Nat → Nat → Bool) (M : Nat → Nat) (S S' : FS)
   (h : FQ w B bf gb mb n mcap nx M S) (hr : shrinkS n M k S v u = some S') :
    Calls Try.prog 44 #[.pointer (some ⟨bf, 0, none⟩), .int .i64 v, .int .i64 u] w fun e w' => e = .returned (.tuple #[]) ∧ (FQ w' B bf gb mb n mcap nx M S' ∧ Below B w w') := by
  obtain ⟨b, hb, hr1⟩ := Option.bind_eq_some_iff.1 hr
  obtain ⟨⟨pa1, in1⟩, hm1, hr2⟩ := Option.bind_eq_some_iff.1 hr1
  obtain ⟨⟨pa2, in2⟩, hm2, hr3⟩ := Option.bind_eq_some_iff.1 hr2
  have H1 := Hd.mk hb
  have H2 := Hd.mk hm1
  have H3 := Hd.mk hm2
  have HR := Hd.mk hr3
  obtain ⟨hBf, hMB, hGB, qv, qb, hfo, hq⟩ := h
  have HF := Hd.mk hfo
  have HQ := Hd.mk hq
  clear hb hm1 hm2 hr hr1 hr2 hr3 hfo hq
  go_enter Try.func44, Try.ntmps44
  go_wp2_with fail
  refine (common_any w bf gb mb n mcap v u k b nx M S.pa S.ba S.us qv HF.out H1.out).mono ?_
  rintro e w1 ⟨rfl, hb1⟩
  have HF1 := Hd.mk (HF.out.of_heap (w' := w1) (fun k hk => hb1.block k hk))
  have HQ1 := Hd.mk (HQ.out.of_heap (w' := w1) (hb1.block _ HQ.out.lt))
  have HB1 := Hd.mk hb1
  clear hb1
  go_wp2_with fail
  have hBs : B ≤ w1.heap.size := Nat.le_trans hBf (Nat.le_of_lt HF1.out.f.lt)
  have hbi := BBlk_new w1 n HF1.out.g.le _ rfl
  refine (mark_any _ B bf gb mb w1.heap.size n mcap v b u k nx M S.pa pa1 S.ba S.us _ in1 qv (HF1.out.of_heap (fun k hk => alloc_old w1 _ k hk)) hbi hBf hBs H2.out).mono ?_
  clear hbi
  rintro e w2 ⟨rfl, g2, g3, g4, g5⟩
  have HF2 := Hd.mk g2
  have HI2 := Hd.mk g3
  have HB2 := Hd.mk (show Below B w w2 from (HB1.out.mono (Nat.le_trans hBf (Nat.le_of_lt HF.out.f.lt))).trans (((Below.refl B w1).alloc hBs _).trans g4))
  have HQ2 := Hd.mk (HQ1.out.of_heap (w' := w2) (by
    rw [g5 qb ?_ ?_]
    · exact alloc_old w1 _ qb HQ1.out.lt
    · obtain ⟨_, C, hC, _⟩ := HF1.out.f
      exact HQ1.out.ne hC (by decide)
    · have := HQ1.out.lt
      omega))
  clear g2 g3 g4 g5
  go_wp2_with fail
  refine (mark_any _ B bf gb mb w1.heap.size n mcap u b v k nx M pa1 pa2 S.ba S.us in1 in2 qv HF2.out HI2.out hBf hBs H3.out).mono ?_
  rintro e w3 ⟨rfl, g2, g3, g4, g5⟩
  have HF3 := Hd.mk g2
  have HI3 := Hd.mk g3
  have HB3 := Hd.mk (show Below B w w3 from HB2.out.trans g4)
  have HQ3 := Hd.mk (HQ2.out.of_heap (w' := w3) (by
    rw [g5 qb ?_ ?_]
    · obtain ⟨_, C, hC, _⟩ := HF2.out.f
      exact HQ2.out.ne hC (by decide)
    · have := HQ1.out.lt
      omega))
  have hn := HF1.out.g.le
  have hgn := HF3.out.g.num
  have hfg := HF3.out.f.graph
  have hbi0 : w1.heap.size ≠ bf := by
    have := HF1.out.f.lt
    omega
  generalize w1.heap.size = bi at HI3 hBs hbi0 ⊢
  clear g2 g3 g4 g5 HF1 HQ1 HB1 HF2 HI2 HB2 HQ2 H1 H2 H3 HF HQ
  go_wp2_with fail
  go_loopg [30] n (fun kq v30 wr => ∃ (i : Nat) (T : FS) (qv : Value) (qb : Nat), v30 = .int .i64 i ∧ Hd (i + kq = n) ∧ Hd (shLoop n b in2 kq i T = some S') ∧ Hd (Fo wr bf gb mb n mcap nx M T.pa T.ba T.us qv) ∧
    Hd (QAt wr B qv qb T.q) ∧ Hd (BBlk wr bi 63 24 n in2) ∧ Hd (Below B w wr))
  case atStart => exact ⟨0, { S with pa := pa2 }, qv, qb, rfl, ⟨by omega⟩, HR, HF3, HQ3, HI3, HB3⟩
  case round =>
    obtain ⟨i, T, qv, qb, rfl, HK, HX, HF, HQ, HI, HB⟩ := hrel
    clear HF3 HQ3 HI3 HB3 HR hgn hfg
    cases gk with
    | zero =>
      have hi := HK.out
      have hlt : ¬ (i : Int) < n := by omega
      have hx := Option.some.inj (show some T = some S' from HX.out)
      subst hx
      clear hi
      go_wp2_with fail
      go_end0
      exact ⟨rfl, ⟨hBf, hMB, hGB, _, _, HF.out, HQ.out⟩, HB.out⟩
    | succ k1 =>
      have hi := HK.out
      have hlt : (i : Int) < n := by omega
      have hlt' : i < n := by omega
      have hx := HX.out
      clear HX hi
      simp only [shLoop] at hx
      split at hx
      · rename_i hbn
        have cb := HF.out.f.getBa i hlt'
        have ci := HI.out.cell (T.ba i) hbn
        by_cases hin : in2 (T.ba i) = true
        · rw [if_pos hin] at hx
          rw [hin] at ci
          have fb := HF.out.f.frozen (26 + i)
          have hF2 := HF.out.store (HF.out.f.setBa i hlt' b)
          have HB2 := Hd.mk (bel_set HB.out hBf (26 + i) (.int .i64 b))
          have cu := hF2.f.getUs i hlt'
          have HF2 := Hd.mk hF2
          have HI2 := Hd.mk (HI.out.of_heap (w' := wr.setCell ⟨bf, 26 + i, none⟩ (.int .i64 b)) (heap_set_ne _ _ _ _ _ hbi0))
          have hqf : qb ≠ bf := by
            obtain ⟨_, C, hC, _⟩ := HF.out.f
            exact HQ.out.ne hC (by decide)
          have HQ2 := Hd.mk (HQ.out.of_heap (w' := wr.setCell ⟨bf, 26 + i, none⟩ (.int .i64 b)) (heap_set_ne _ _ _ _ _ hqf))
          clear hF2 hin
          by_cases hus : T.us i = true
          · rw [if_pos hus] at hx
            rw [hus] at cu
            have HX := Hd.mk hx
            clear hx hus
            go_wp2_with fail
            go_roundg k1
            case measure => omega
            case rel => exact ⟨i + 1, _, qv, qb, by go_num, ⟨by have := HK.out; omega⟩, HX, HF2, HQ2, HI2, HB2⟩
          · rw [if_neg hus] at hx
            have hus' : T.us i = false := by simpa using hus
            rw [hus'] at cu
            clear hus hus'
            split at hx
            · rename_i hql
              have HX := Hd.mk hx
              have HQL := Hd.mk hql
              clear hx hql
              have fu := HF2.out.f.frozen (50 + i)
              have hF3 := HF2.out.store (HF2.out.f.setUs i hlt' true)
              have cq := hF3.f.queue
              have HF3 := Hd.mk hF3
              have HB3 := Hd.mk (bel_set HB2.out hBf (50 + i) (.bool true))
              have HI3 := Hd.mk (HI2.out.of_heap (w' := (wr.setCell ⟨bf, 26 + i, none⟩ (.int .i64 b)).setCell ⟨bf, 50 + i, none⟩ (.bool true)) (heap_set_ne _ _ _ _ _ hbi0))
              have HQ3 := Hd.mk (HQ2.out.of_heap (w' := (wr.setCell ⟨bf, 26 + i, none⟩ (.int .i64 b)).setCell ⟨bf, 50 + i, none⟩ (.bool true)) (heap_set_ne _ _ _ _ _ hqf))
              have hsz : B ≤ ((wr.setCell ⟨bf, 26 + i, none⟩ (.int .i64 b)).setCell ⟨bf, 50 + i, none⟩ (.bool true)).heap.size := Nat.le_trans hBf (Nat.le_of_lt hF3.f.lt)
              clear hF3
              go_wp2_with (at_builtin; go_must (refine wpList_app_q B qb qv T.q i rfl (.tmp 64) (.tmp 66) rfl wr.heap.size rfl rfl (by simp [size_set]) HQ3.out hsz HQL.out ?_))
              intro v1 w4 qb1 r1 r2 r3
              obtain ⟨off1, len1, cap1, rfl⟩ := r1.shape
              have hbq : some bf ≠ some qb := by intro e; injection e with e; exact hqf e.symm
              have hmq : some mb ≠ some qb := by
                intro e; injection e with e
                obtain ⟨_, _, _, _, h2, _⟩ := HQ.out
                omega
              have hgq : some gb ≠ some qb := by
                intro e; injection e with e
                obtain ⟨_, _, _, _, h2, _⟩ := HQ.out
                omega
              have hF4 : Fo w4 bf gb mb n mcap nx M T.pa (upd T.ba i b) (upd T.us i true) qv :=
                ⟨HF3.out.f.of_heap (r2.block _ HF3.out.f.lt hbq), HF3.out.g.of_heap (r2.block _ HF3.out.g.lt hgq), HF3.out.m.of_heap (r2.block _ HF3.out.m.lt hmq), HF3.out.mle⟩
              have cq4 := hF4.f.queue
              have fq4 := hF4.f.frozen 74
              have HF5 := Hd.mk (hF4.store (hF4.f.setQ (.slice (some ⟨qb1, off1, none⟩) len1 cap1)))
              have hqf1 : qb1 ≠ bf := by
                rcases r3 with r3 | r3
                · rw [r3]; exact hqf
                · have h9 := HF.out.f.lt
                  omega
              have hbi1 : some bi ≠ some qb := by
                intro e; injection e with e
                obtain ⟨C, hC, _⟩ := HI.out
                exact HQ.out.ne hC (by decide) e.symm
              have HQ5 := Hd.mk (r1.of_heap (w' := w4.setCell ⟨bf, 74, none⟩ (.slice (some ⟨qb1, off1, none⟩) len1 cap1)) (heap_set_ne _ _ _ _ _ hqf1))
              have HI5 := Hd.mk ((HI3.out.of_heap (r2.block _ HI3.out.lt hbi1)).of_heap (w' := w4.setCell ⟨bf, 74, none⟩ (.slice (some ⟨qb1, off1, none⟩) len1 cap1)) (heap_set_ne _ _ _ _ _ hbi0))
              have HB5 := Hd.mk (bel_set (HB3.out.grown r2 hsz (fun k hk => by injection hk with hk; subst hk; obtain ⟨_, _, _, _, h2, _⟩ := HQ.out; exact h2)) hBf 74 (.slice (some ⟨qb1, off1, none⟩) len1 cap1))
              clear hbq hmq hgq hF4 hqf1 hbi1 r1 r2 r3 HF2 HF3 HB2 HB3 HI2 HI3 HQ2 HQ3 cu fu cq fb cb ci hsz
              go_wp2_with fail
              go_roundg k1
              case measure => omega
              case rel => exact ⟨i + 1, _, _, qb1, by go_num, ⟨by have := HK.out; omega⟩, HX, HF5, HQ5, HI5, HB5⟩
            · exact absurd hx (by simp)
        · rw [if_neg hin] at hx
          have hin' : in2 (T.ba i) = false := by simpa using hin
          rw [hin'] at ci
          have HX := Hd.mk hx
          clear hx hin hin'
          go_wp2_with fail
          go_roundg k1
          case measure => omega
          case rel => exact ⟨i + 1, T, qv, qb, by go_num, ⟨by have := HK.out; omega⟩, HX, HF, HQ, HI, HB⟩
      · exact absurd hx (by simp)
end Go.Proofs.Ythhgdndjnflklaa

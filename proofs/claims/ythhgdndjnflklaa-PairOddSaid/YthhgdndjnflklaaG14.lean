import Derived.Test.YthhgdndjnflklaaG13
namespace Go.Proofs.Ythhgdndjnflklaa
open Go.RowKit
set_option linter.unusedVariables false
set_option linter.unusedSimpArgs false

/-- Parts' first loop. -/
def partsA (n : Nat) (nx : Nat → Nat → Bool) (all : Nat) : Nat → Nat → (Nat → Nat) → Option (Nat → Nat)
  | 0, _, out => some out
  | d + 1, i, out => (mostS n (woS nx i) K0).bind fun M => partsA n nx all d (i + 1) (upd out i (if pairsS n M = all then 0 else 2))
/-- Parts' second loop, inside .. -/
def partsC (nx : Nat → Nat → Bool) (i : Nat) : Nat → Nat → (Nat → Nat) → (Nat → Nat)
  | 0, _, out => out
  | d + 1, j, out => partsC nx i d (j + 1) (if out i = 2 ∧ out j = 0 ∧ nx i j = true then upd out i 1 else out)
/-- .. and outside. -/
def partsB (n : Nat) (nx : Nat → Nat → Bool) : Nat → Nat → (Nat → Nat) → (Nat → Nat)
  | 0, _, out => out
  | d + 1, i, out => partsB n nx d (i + 1) (partsC nx i n 0 out)
def partsF (n : Int) (es : List (Int × Int)) : Option (List Int × Int) :=
  match chkS n es with
  | .error x => some ([], x)
  | .ok (m, nx) => (mostS m nx K0).bind fun M => (partsA m nx (pairsS m M) m 0 (fun _ => 0)).map fun out => (ilist m (partsB m nx m 0 out), 0)

set_option maxRecDepth 100000 in
set_option maxHeartbeats 2000000 in
theorem partsF_any (w : World) (n : Int) (A : Option Addr) (c : Nat) (es : List (Int × Int)) (hE : RdE w A es) (r0 : List Int) (r1 : Int) (h : partsF n es = some (r0, r1)) :
    Calls Try.prog 15 #[.int .i64 n, .slice A es.length c] w fun e w' => ∃ v, e = .returned (.tuple #[v, .int .i64 r1]) ∧ (w'.ownsRow w.heap.size 3 1 v r0.length (r0.map fun x => Value.int .i64 x) ∧ Below w.heap.size w w') := by
  unfold partsF at h
  have HE := Hd.mk hE
  clear hE
  cases hc : chkS n es with
  | error x =>
    rw [hc] at h
    simp only [Option.some.injEq, Prod.mk.injEq] at h
    obtain ⟨rfl, rfl⟩ := h
    have hx : (x != 0) = true := by rcases chkS_err hc with rfl | rfl <;> rfl
    have HC := Hd.mk hc
    clear hc
    go_enter Try.func15, Try.ntmps15
    go_wp2_with fail
    refine (checked_err w n A c es HE.out x HC.out).mono ?_
    rintro e w1 ⟨rfl, g1⟩
    go_wp2_with fail
    go_ret2
    exact ⟨_, rfl, own_nil_ _ _, g1⟩
  | ok p =>
    obtain ⟨m, nx⟩ := p
    rw [hc] at h
    simp only at h
    obtain ⟨rfl, hm24, _⟩ := chkS_ok hc
    have HC := Hd.mk hc
    clear hc
    obtain ⟨M, hM, h1⟩ := Option.bind_eq_some_iff.1 h
    obtain ⟨out, hml, h2⟩ := Option.map_eq_some_iff.1 h1
    simp only [Prod.mk.injEq] at h2
    obtain ⟨rfl, rfl⟩ := h2
    have HM := Hd.mk hM
    have HML := Hd.mk hml
    have hmk := run_make_row' (P := Try.prog) 25 3 (.int .i64 0) 8 Try.underlying25 tinfo3 rfl .i64 .i64 m (by omega) (by omega)
    clear hM h1 h hml
    go_enter Try.func15, Try.ntmps15
    go_wp2_with fail
    refine (checked_ok w m A c es HE.out m nx HC.out).mono ?_
    rintro e w1 ⟨b, rfl, g1, g2, g3⟩
    have HG := Hd.mk g1
    have HB := Hd.mk g3
    clear g1 g3
    go_wp2_with fail
    refine (most_any w1 b m K0 nx M HG.out HM.out).mono ?_
    rintro e w2 ⟨b2, cap2, rfl, g4, g5, g6⟩
    have HN := Hd.mk g4
    have HG2 := Hd.mk (HG.out.of_heap (w' := w2) (g6.block _ HG.out.lt))
    have HB2 := Hd.mk (HB.out.trans (g6.mono HB.out.size))
    clear g4 g6
    go_wp2_with fail
    refine (pairs_any w2 (some ⟨b2, 0, none⟩) m cap2 M (by omega) HN.out.rd.w (mostS_le HM.out)).mono ?_
    rintro e w3 ⟨rfl, rfl⟩
    go_upto_region 7 with (fail)
    obtain ⟨ob, hob⟩ : ∃ ob, ob = w2.heap.size := ⟨_, rfl⟩
    have HN1 := Hd.mk (NRow_made w2 m (by omega))
    have HG1 := Hd.mk (HG2.out.of_heap (alloc_old w2 (.cells (madeCells #[.int .i64 0] m) 3) _ HG2.out.lt))
    have HB1 := Hd.mk (HB2.out.alloc HB2.out.size (.cells (madeCells #[.int .i64 0] m) 3))
    have hbo : w.heap.size ≤ ob := by rw [hob]; exact HB2.out.size
    have hgo : b ≠ ob := by rw [hob]; have := HG2.out.lt; omega
    have hpm : pairsS m M ≤ m := pairsC_le m M m
    generalize w2.alloc (.cells (madeCells #[.int .i64 0] m) 3) = w4 at HN1 HG1 HB1 ⊢
    rw [← hob] at HN1 ⊢
    clear HN HG2 HB2 HG HB hmk hob HM HC HE
    go_loopg [29] m (fun kq v29 wr => ∃ (i : Nat) (f : Nat → Nat), v29 = .int .i64 i ∧ Hd (i + kq = m) ∧ Hd (partsA m nx (pairsS m M) kq i f = some out) ∧ Hd (NRow wr ob m m f) ∧ Hd (GBlk wr b m nx) ∧ Hd (Below w.heap.size w wr))
    case atStart => exact ⟨0, _, rfl, ⟨by omega⟩, HML, HN1, HG1, HB1⟩
    case round =>
      obtain ⟨i, f, rfl, HK, HX, HN, HG, HB⟩ := hrel
      clear HN1 HG1 HB1
      cases gk with
      | zero =>
        have hi := HK.out
        have hlt : ¬ (i : Int) < m := by omega
        have hx := Option.some.inj (show some f = some out from HX.out)
        subst hx
        clear hi HX
        go_upto_region 14 with (fail)
        go_loopg [49] m (fun kq v49 wr => ∃ (i : Nat) (f2 : Nat → Nat), v49 = .int .i64 i ∧ Hd (i + kq = m) ∧ Hd (partsB m nx kq i f2 = partsB m nx m 0 f) ∧ Hd (NRow wr ob m m f2) ∧ Hd (GBlk wr b m nx) ∧ Hd (Below w.heap.size w wr))
        case atStart => exact ⟨0, f, rfl, ⟨by omega⟩, ⟨rfl⟩, HN, HG, HB⟩
        case round =>
          obtain ⟨i, f2, rfl, HK, HX, HN, HG, HB⟩ := hrel
          cases gk with
          | zero =>
            have hi := HK.out
            have hlt : ¬ (i : Int) < m := by omega
            have hx := HX.out
            simp only [partsB] at hx
            have HN2 := Hd.mk (hx ▸ HN.out)
            clear hi HX hx HN
            go_wp2_with fail
            go_ret2
            exact ⟨_, rfl, HN2.out.own hbo, HB.out⟩
          | succ k1 =>
            have hi := HK.out
            have hlt : (i : Int) < m := by omega
            have hlt' : i < m := by omega
            clear hi
            go_upto_region 17 with (fail)
            go_loopg [53] m (fun kq v53 wq => ∃ (j : Nat) (f3 : Nat → Nat), v53 = .int .i64 j ∧ Hd (j + kq = m) ∧ Hd (partsC nx i kq j f3 = partsC nx i m 0 f2) ∧ Hd (NRow wq ob m m f3) ∧ Hd (GBlk wq b m nx) ∧ Hd (Below w.heap.size w wq))
            case atStart => exact ⟨0, f2, rfl, ⟨by omega⟩, ⟨rfl⟩, HN, HG, HB⟩
            case round =>
              obtain ⟨j, f3, rfl, HK2, HY, HN, HG, HB⟩ := hrel
              cases gk with
              | zero =>
                have hj := HK2.out
                have hlt : ¬ (j : Int) < m := by omega
                have hy := HY.out
                simp only [partsC] at hy
                have HX2 := Hd.mk (show partsB m nx k1 (i + 1) f3 = partsB m nx m 0 f by rw [hy]; exact HX.out)
                clear hj HY hy HX
                go_wp2_with fail
                go_roundg k1
                case measure => omega
                case rel => exact ⟨i + 1, f3, by go_num, ⟨by have := HK.out; omega⟩, HX2, HN, HG, HB⟩
              | succ k2 =>
                have hj := HK2.out
                have hlt2 : (j : Int) < m := by omega
                have hltj : j < m := by omega
                have i1 : (i : Int) < 24 := by omega
                have i2 : (j : Int) < 24 := by omega
                have j1 : (0 : Int) ≤ i := by omega
                have j2 : (0 : Int) ≤ j := by omega
                have cn := HG.out.getNx i j hlt' hltj
                have ci := HN.out.blk.cell i hlt'
                have cj := HN.out.blk.cell j hltj
                have fi := HN.out.blk.frozen i
                have hy := HY.out
                simp only [partsC] at hy
                clear hj HY
                by_cases t1 : f3 i = 2
                case neg =>
                  rw [if_neg (by intro h; exact t1 h.1)] at hy
                  have b1 : ((f3 i : Int) == 2) = false := by simp; omega
                  have HY := Hd.mk hy
                  clear hy t1
                  go_wp2_with fail
                  go_roundg k2
                  case measure => omega
                  case rel => exact ⟨j + 1, f3, by go_num, ⟨by have := HK2.out; omega⟩, HY, HN, HG, HB⟩
                have b1 : ((f3 i : Int) == 2) = true := by simp; omega
                by_cases t2 : f3 j = 0
                case neg =>
                  rw [if_neg (by intro h; exact t2 h.2.1)] at hy
                  have b2 : ((f3 j : Int) == 0) = false := by simp; omega
                  have HY := Hd.mk hy
                  clear hy t1 t2
                  go_wp2_with fail
                  go_roundg k2
                  case measure => omega
                  case rel => exact ⟨j + 1, f3, by go_num, ⟨by have := HK2.out; omega⟩, HY, HN, HG, HB⟩
                have b2 : ((f3 j : Int) == 0) = true := by simp; omega
                cases t3 : nx i j with
                | false =>
                  rw [t3] at cn hy
                  rw [if_neg (by simp)] at hy
                  have HY := Hd.mk hy
                  clear hy t1 t2 t3
                  go_wp2_with fail
                  go_roundg k2
                  case measure => omega
                  case rel => exact ⟨j + 1, f3, by go_num, ⟨by have := HK2.out; omega⟩, HY, HN, HG, HB⟩
                | true =>
                  rw [if_pos ⟨t1, t2, t3⟩] at hy
                  rw [t3] at cn
                  have HY := Hd.mk hy
                  have HN2 := Hd.mk (HN.out.set i hlt' 1)
                  have HG2 := Hd.mk (HG.out.of_heap (w' := wr.setCell ⟨ob, i, none⟩ (.int .i64 1)) (heap_set_ne _ _ _ _ _ hgo))
                  have HB2 := Hd.mk (bel_set HB.out hbo i (.int .i64 1))
                  clear hy t1 t2 t3 HN HG HB
                  go_wp2_with fail
                  go_roundg k2
                  case measure => omega
                  case rel => exact ⟨j + 1, _, by go_num, ⟨by have := HK2.out; omega⟩, HY, HN2, HG2, HB2⟩
      | succ k1 =>
        have hi := HK.out
        have hlt : (i : Int) < m := by omega
        have hlt' : i < m := by omega
        have ci := HN.out.blk.cell i hlt'
        have fi := HN.out.blk.frozen i
        have hx := HX.out
        obtain ⟨M2, hM2, hx2⟩ := Option.bind_eq_some_iff.1 hx
        have HM2 := Hd.mk hM2
        have HX2 := Hd.mk hx2
        have HN2 := Hd.mk (HN.out.set i hlt' 2)
        have HG2 := Hd.mk (HG.out.of_heap (w' := wr.setCell ⟨ob, i, none⟩ (.int .i64 2)) (heap_set_ne _ _ _ _ _ hgo))
        have HB2 := Hd.mk (bel_set HB.out hbo i (.int .i64 2))
        have hps2 : pairsS m M2 ≤ m := pairsC_le m M2 m
        clear hi HN HG HB HX hx hx2 hM2
        go_wp2_with fail
        have HGa := Hd.mk (HG2.out.of_heap (alloc_old (wr.setCell ⟨ob, i, none⟩ (.int .i64 2)) (.cells #[.int .i64 (i : Int)] 3) _ HG2.out.lt))
        have HNa := Hd.mk (HN2.out.of_heap (alloc_old (wr.setCell ⟨ob, i, none⟩ (.int .i64 2)) (.cells #[.int .i64 (i : Int)] 3) _ HN2.out.lt))
        have HBa := Hd.mk (HB2.out.alloc HB2.out.size (.cells #[.int .i64 (i : Int)] 3))
        have HRa := Hd.mk (RdN_one (wr.setCell ⟨ob, i, none⟩ (.int .i64 2)) i)
        rw [size_set] at HRa
        generalize (wr.setCell ⟨ob, i, none⟩ (.int .i64 2)).alloc (.cells #[.int .i64 (i : Int)] 3) = wa at HGa HNa HBa HRa ⊢
        clear HN2 HG2 HB2
        refine (without_any wa b m 1 1 (some ⟨wr.heap.size, 0, none⟩) nx (fun _ => i) HGa.out HRa.out (fun _ _ => hlt') (by omega)).mono ?_
        rintro e w5 ⟨b5, rfl, g1, g2, g3⟩
        have HB5 := Hd.mk (HBa.out.trans (g3.mono HBa.out.size))
        have HG5 := Hd.mk (show GBlk w5 b5 m (woS nx i) from g1)
        have HGo5 := Hd.mk (HGa.out.of_heap (w' := w5) (g3.block _ HGa.out.lt))
        have HN5 := Hd.mk (HNa.out.of_heap (w' := w5) (g3.block _ HNa.out.lt))
        clear g1 g2 g3 HGa HNa HBa HRa
        go_wp2_with fail
        refine (most_any w5 b5 m K0 _ M2 HG5.out HM2.out).mono ?_
        rintro e w6 ⟨b6, cap6, rfl, g4, g5, g6⟩
        have HNm := Hd.mk g4
        have HGo6 := Hd.mk (HGo5.out.of_heap (w' := w6) (g6.block _ HGo5.out.lt))
        have HN6 := Hd.mk (HN5.out.of_heap (w' := w6) (g6.block _ HN5.out.lt))
        have HB6 := Hd.mk (HB5.out.trans (g6.mono HB5.out.size))
        clear g4 g5 g6 HG5 HGo5 HN5 HB5
        go_wp2_with fail
        refine (pairs_any w6 (some ⟨b6, 0, none⟩) m cap6 M2 (by omega) HNm.out.rd.w (mostS_le HM2.out)).mono ?_
        rintro e w7 ⟨rfl, rfl⟩
        by_cases t1 : pairsS m M2 = pairsS m M
        · have b1 : ((pairsS m M2 : Int) == (pairsS m M : Int)) = true := by simp [t1]
          have HX3 := Hd.mk (show partsA m nx (pairsS m M) k1 (i + 1) (upd f i 0) = some out by have := HX2.out; simp only [if_pos t1] at this; exact this)
          have ci6 := HN6.out.blk.cell i hlt'
          have fi6 := HN6.out.blk.frozen i
          have HN7 := Hd.mk ((HN6.out.set i hlt' 0).congr (g := upd f i 0) (fun j hj => by unfold upd; split <;> rfl))
          have HG7 := Hd.mk (HGo6.out.of_heap (w' := w6.setCell ⟨ob, i, none⟩ (.int .i64 0)) (heap_set_ne _ _ _ _ _ hgo))
          have HB7 := Hd.mk (bel_set HB6.out hbo i (.int .i64 0))
          clear t1 HN6 HGo6 HB6 HX2
          go_wp2_with fail
          go_roundg k1
          case measure => omega
          case rel => exact ⟨i + 1, _, by go_num, ⟨by have := HK.out; omega⟩, HX3, HN7, HG7, HB7⟩
        · have b1 : ((pairsS m M2 : Int) == (pairsS m M : Int)) = false := by simp; omega
          have HX3 := Hd.mk (show partsA m nx (pairsS m M) k1 (i + 1) (upd f i 2) = some out by have := HX2.out; simp only [if_neg t1] at this; exact this)
          clear t1 HX2
          go_wp2_with fail
          go_roundg k1
          case measure => omega
          case rel => exact ⟨i + 1, _, by go_num, ⟨by have := HK.out; omega⟩, HX3, HN6, HGo6, HB6⟩
end Go.Proofs.Ythhgdndjnflklaa

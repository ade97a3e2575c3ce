import Derived.Test.YthhgdndjnflklaaG12
namespace Go.Proofs.Ythhgdndjnflklaa
open Go.RowKit
set_option linter.unusedVariables false
set_option linter.unusedSimpArgs false

/-- Match's inner loop: the lowest mate with which as many pairs are left. -/
def findL (n : Nat) (nx : Nat → Nat → Bool) (i : Nat) (left : Int) : Nat → Nat → Option (Option Nat)
  | 0, _ => some none
  | d + 1, j =>
    if nx i j = false then findL n nx i left d (j + 1)
    else (mostS n (woS (woS nx i) j) K0).bind fun M => if (pairsS n M : Int) = left - 1 then some (some j) else findL n nx i left d (j + 1)
/-- Match's outer loop. -/
def matchL (n : Nat) : Nat → Nat → (Nat → Nat → Bool) → Int → (Nat → Nat) → Option (Nat → Nat)
  | 0, _, _, _, out => some out
  | d + 1, i, nx, left, out =>
    if out i < n then matchL n d (i + 1) nx left out
    else (findL n nx i left n 0).bind fun r => match r with
      | some j => matchL n d (i + 1) (woS (woS nx i) j) (left - 1) (upd (upd out i j) j i)
      | none => matchL n d (i + 1) (woS nx i) left out
def matchF (n : Int) (es : List (Int × Int)) : Option (List Int × Int × Int) :=
  match chkS n es with
  | .error x => some ([], 0, x)
  | .ok (m, nx) => (mostS m nx K0).bind fun M => (matchL m m 0 nx (pairsS m M) (fun _ => m)).map fun out => (ilist m out, (pairsS m M : Int), 0)

theorem alloc_size (w : World) (o : Obj) : (w.alloc o).heap.size = w.heap.size + 1 := by show (w.heap.push o).size = _; simp
/-- Two numbers in a new row. -/
theorem RdN_two (w : World) (x y : Nat) : RdN (w.alloc (.cells #[.int .i64 (x : Int), .int .i64 (y : Int)] 3)) (some ⟨w.heap.size, 0, none⟩) 2 (fun j => if j = 0 then x else y) := by
  refine ⟨_, rfl, fun j hj => ?_⟩
  rw [Addr.add_lit, cell_of _ _ _ _ _ _ (alloc_new w _)]
  match j, hj with
  | 0, _ => rfl
  | 1, _ => rfl
theorem RdN_one (w : World) (x : Nat) : RdN (w.alloc (.cells #[.int .i64 (x : Int)] 3)) (some ⟨w.heap.size, 0, none⟩) 1 (fun _ => x) := by
  refine ⟨_, rfl, fun j hj => ?_⟩
  rw [Addr.add_lit, cell_of _ _ _ _ _ _ (alloc_new w _)]
  match j, hj with
  | 0, _ => rfl

set_option maxRecDepth 100000 in
set_option maxHeartbeats 2000000 in
theorem matchF_any (w : World) (n : Int) (A : Option Addr) (c : Nat) (es : List (Int × Int)) (hE : RdE w A es) (r0 : List Int) (r1 r2 : Int) (h : matchF n es = some (r0, r1, r2)) :
    Calls Try.prog 19 #[.int .i64 n, .slice A es.length c] w fun e w' => ∃ v, e = .returned (.tuple #[v, .int .i64 r1, .int .i64 r2]) ∧ (w'.ownsRow w.heap.size 3 1 v r0.length (r0.map fun x => Value.int .i64 x) ∧ Below w.heap.size w w') := by
  unfold matchF at h
  have HE := Hd.mk hE
  clear hE
  cases hc : chkS n es with
  | error x =>
    rw [hc] at h
    simp only [Option.some.injEq, Prod.mk.injEq] at h
    obtain ⟨rfl, rfl, rfl⟩ := h
    have hx : (x != 0) = true := by rcases chkS_err hc with rfl | rfl <;> rfl
    have HC := Hd.mk hc
    clear hc
    go_enter Try.func19, Try.ntmps19
    go_wp2_with fail
    go_step3
    go_wp2_with fail
    refine (checked_err w n A c es HE.out x HC.out).mono ?_
    rintro e w1 ⟨rfl, g1⟩
    go_wp2_with fail
    rw [Exit.noGoto_ret]
    go_ret3
    exact ⟨_, rfl, own_nil_ _ _, g1⟩
  | ok p =>
    obtain ⟨m, nx⟩ := p
    rw [hc] at h
    simp only at h
    obtain ⟨rfl, hm24, _⟩ := chkS_ok hc
    have HC := Hd.mk hc
    clear hc
    obtain ⟨M, hM, h1⟩ := Option.bind_eq_some_iff.1 h
    obtain ⟨out, hml, h2⟩ := Option.map_eq_some_iff.1 h1
    simp only [Prod.mk.injEq] at h2
    obtain ⟨rfl, rfl, rfl⟩ := h2
    have HM := Hd.mk hM
    have HML := Hd.mk hml
    have hmk := run_make_row' (P := Try.prog) 25 3 (.int .i64 0) 8 Try.underlying25 tinfo3 rfl .i64 .i64 m (by omega) (by omega)
    clear hM h1 h hml
    go_enter Try.func19, Try.ntmps19
    go_wp2_with fail
    go_step3
    go_wp2_with fail
    refine (checked_ok w m A c es HE.out m nx HC.out).mono ?_
    rintro e w1 ⟨b, rfl, g1, g2, g3⟩
    have HG := Hd.mk g1
    have HB := Hd.mk g3
    clear g1 g3
    go_wp2_with fail
    refine (most_any w1 b m K0 nx M HG.out HM.out).mono ?_
    rintro e w2 ⟨b2, cap2, rfl, g4, g5, g6⟩
    have HN := Hd.mk g4
    have HG2 := Hd.mk (HG.out.of_heap (w' := w2) (g6.block _ HG.out.lt))
    have HB2 := Hd.mk (HB.out.trans (g6.mono HB.out.size))
    clear g4 g6
    go_wp2_with fail
    refine (pairs_any w2 (some ⟨b2, 0, none⟩) m cap2 M (by omega) HN.out.rd.w (mostS_le HM.out)).mono ?_
    rintro e w3 ⟨rfl, rfl⟩
    go_wp2_with fail
    go_region_held3 (fun _ => True) (trivial) (fail)
    obtain ⟨ob, hob⟩ : ∃ ob, ob = w2.heap.size := ⟨_, rfl⟩
    refine gen_world (fun wq => NRow wq ob m m (fun _ => 0) ∧ GBlk wq b m nx ∧ Below w.heap.size w wq) ?_ ?_
    · rw [hob]
      refine ⟨(NRow_made (w2.drewN 1) m (by omega)), HG2.out.of_heap (alloc_old (w2.drewN 1) _ _ HG2.out.lt), (bel_drewN HB2.out 1).alloc HB2.out.size _⟩
    intro wq ⟨g1, g4, g5⟩
    have HN1 := Hd.mk g1
    have HG1 := Hd.mk g4
    have HB1 := Hd.mk g5
    have hbo : w.heap.size ≤ ob := by rw [hob]; exact HB2.out.size
    have hgo : b ≠ ob := by rw [hob]; have := HG2.out.lt; omega
    rw [← hob]
    clear g1 g4 g5 HN HG2 HB2 HG HB hmk hob HM HC HE
    go_wp2_with fail
    go_loopg [33] m (fun kq v33 wr => ∃ (i : Nat) (f : Nat → Nat), v33 = .int .i64 i ∧ Hd (i + kq = m) ∧ Hd (∀ j, j < i → f j = m) ∧ Hd (NRow wr ob m m f) ∧ Hd (GBlk wr b m nx) ∧ Hd (Below w.heap.size w wr))
    case atStart => exact ⟨0, _, rfl, ⟨by omega⟩, ⟨fun j hj => absurd hj (by omega)⟩, HN1, HG1, HB1⟩
    case round =>
      obtain ⟨i, f, rfl, HK, HX, HN, HG, HB⟩ := hrel
      clear HN1 HG1 HB1
      cases gk with
      | zero =>
        have hi := HK.out
        have hlt : ¬ (i : Int) < m := by omega
        have HN1 := Hd.mk (HN.out.congr (g := fun _ => m) (fun j hj => HX.out j (by omega)))
        clear hi HN HX
        go_wp2_with fail
        go_step3
        go_wp2_with fail
        have hps : pairsS m M ≤ m := pairsC_le m M m
        go_loopg [7, 10, 43] m (fun kq v7 v10 v43 wq => ∃ (i : Nat) (L : Int) (f : Nat → Nat) (b : Nat) (ny : Nat → Nat → Bool), v7 = .pointer (some ⟨b, 0, none⟩) ∧ v10 = .int .i64 L ∧ v43 = .int .i64 i ∧
          Hd (i + kq = m) ∧ Hd (-(i : Int) ≤ L ∧ L ≤ 1000) ∧ Hd (matchL m kq i ny L f = some out) ∧ Hd (∀ j, j < m → f j ≤ m) ∧ Hd (b ≠ ob) ∧ Hd (NRow wq ob m m f) ∧ Hd (GBlk wq b m ny) ∧ Hd (Below w.heap.size w wq))
        case atStart => exact ⟨0, _, _, b, nx, rfl, rfl, rfl, ⟨by omega⟩, ⟨by omega, by omega⟩, HML, ⟨fun _ _ => Nat.le_refl _⟩, ⟨hgo⟩, HN1, HG, HB⟩
        case round =>
          obtain ⟨i, L, f, b, ny, rfl, rfl, rfl, HK, HLB, HX, HF, HBO, HN, HG, HB⟩ := hrel
          clear HN1 HML hgo
          cases gk with
          | zero =>
            have hi := HK.out
            have hlt : ¬ (i : Int) < m := by omega
            have hx := Option.some.inj (show some f = some out from HX.out)
            subst hx
            clear hi HX
            go_wp2_with fail
            go_ret3
            exact ⟨_, rfl, HN.out.own hbo, HB.out⟩
          | succ k1 =>
            have hi := HK.out
            have hlt : (i : Int) < m := by omega
            have hlt' : i < m := by omega
            have ci := HN.out.blk.cell i hlt'
            have hfi := HF.out i hlt'
            have hx := HX.out
            clear hi HX
            simp only [matchL] at hx
            have hL1 : -100 ≤ L := by have := HLB.out; omega
            have hL2 : L ≤ 1000 := HLB.out.2
            by_cases hs : f i < m
            · rw [if_pos hs] at hx
              have HX := Hd.mk hx
              have bs : decide (f i < m) = true := by simp; omega
              clear hx hs hfi
              go_wp2_with fail
              go_roundg k1
              case measure => omega
              case rel => exact ⟨i + 1, L, f, b, ny, rfl, rfl, by go_num, ⟨by have := HK.out; omega⟩, ⟨by have := HLB.out; omega, by have := HLB.out; omega⟩, HX, HF, HBO, HN, HG, HB⟩
            · rw [if_neg hs] at hx
              obtain ⟨r, hfd, hx2⟩ := Option.bind_eq_some_iff.1 hx
              have HFD := Hd.mk hfd
              have HX := Hd.mk hx2
              have bs : decide (f i < m) = false := by simp; omega
              clear hx hs hfi hfd hx2
              go_upto_region 16 with (fail)
              go_loopg [7, 10, 53] m (fun kq v7 v10 v53 wq => ∃ (j : Nat), v7 = .pointer (some ⟨b, 0, none⟩) ∧ v10 = .int .i64 L ∧ v53 = .int .i64 j ∧ Hd (j + kq = m) ∧ Hd (findL m ny i L kq j = some r) ∧ Hd (NRow wq ob m m f) ∧ Hd (GBlk wq b m ny) ∧ Hd (Below w.heap.size w wq))
              case atStart => exact ⟨0, rfl, rfl, rfl, ⟨by omega⟩, HFD, HN, HG, HB⟩
              case round =>
                obtain ⟨j, rfl, rfl, rfl, HK2, HY, HN, HG, HB⟩ := hrel
                clear HFD ci
                cases gk with
                | zero =>
                  have hj := HK2.out
                  have hlt : ¬ (j : Int) < m := by omega
                  have hy := Option.some.inj (show some none = some r from HY.out)
                  subst hy
                  have HX2 := Hd.mk (show matchL m k1 (i + 1) (woS ny i) L f = some out from HX.out)
                  clear hj HY HX
                  go_wp2_with fail
                  refine (without_any _ b m 1 1 (some ⟨wr.heap.size, 0, none⟩) ny (fun _ => i) (by exact HG.out.of_heap (alloc_old _ _ _ HG.out.lt)) (by exact RdN_one _ i) (fun _ _ => hlt') (by omega)).mono ?_
                  rintro e w5 ⟨b5, rfl, g1, g2, g3⟩
                  have HB5 := Hd.mk ((HB.out.alloc HB.out.size (.cells #[.int .i64 (i : Int)] 3)).trans (g3.mono (by have h1 := HB.out.size; have h2 := alloc_size wr; rw [h2]; omega)))
                  have HG5 := Hd.mk g1
                  have HN5 := Hd.mk ((HN.out.of_heap (alloc_old wr (.cells #[.int .i64 (i : Int)] 3) _ HN.out.lt)).of_heap (g3.block _ (by have h1 := HN.out.lt; rw [alloc_size]; omega)))
                  have HBO5 := Hd.mk (show b5 ≠ ob from by have h1 := HN.out.lt; have h2 := alloc_size wr (.cells #[.int .i64 (i : Int)] 3); omega)
                  clear g1 g2 g3 HN HG HB HBO
                  go_wp2_with fail
                  go_roundg k1
                  case measure => omega
                  case rel => exact ⟨i + 1, L, f, b5, _, rfl, rfl, by go_num, ⟨by have := HK.out; omega⟩, ⟨by have := HLB.out; omega, by have := HLB.out; omega⟩, HX2, HF, HBO5, HN5, HG5, HB5⟩
                | succ k2 =>
                  have hj := HK2.out
                  have hlt2 : (j : Int) < m := by omega
                  have hltj : j < m := by omega
                  have i1 : (i : Int) < 24 := by omega
                  have i2 : (j : Int) < 24 := by omega
                  have j1 : (0 : Int) ≤ i := by omega
                  have j2 : (0 : Int) ≤ j := by omega
                  have cn := HG.out.getNx i j hlt' hltj
                  have hy := HY.out
                  clear hj HY
                  simp only [findL] at hy
                  by_cases t1 : ny i j = false
                  · rw [if_pos t1] at hy
                    rw [t1] at cn
                    have HY := Hd.mk hy
                    clear hy t1
                    go_wp2_with fail
                    go_roundg k2
                    case measure => omega
                    case rel => exact ⟨j + 1, rfl, rfl, by go_num, ⟨by have := HK2.out; omega⟩, HY, HN, HG, HB⟩
                  · rw [if_neg t1] at hy
                    have t1' : ny i j = true := by simpa using t1
                    rw [t1'] at cn
                    obtain ⟨M2, hM2, hy2⟩ := Option.bind_eq_some_iff.1 hy
                    have HM2 := Hd.mk hM2
                    have hps2 : pairsS m M2 ≤ m := pairsC_le m M2 m
                    clear t1 t1' hy hM2
                    go_wp2_with fail
                    refine (without_any _ b m 2 2 (some ⟨wr.heap.size, 0, none⟩) ny (fun q => if q = 0 then i else j) (by exact HG.out.of_heap (alloc_old _ _ _ HG.out.lt)) (by exact RdN_two _ i j) (fun q _ => by split <;> assumption) (by omega)).mono ?_
                    rintro e w5 ⟨b5, rfl, g1, g2, g3⟩
                    have HB5 := Hd.mk ((HB.out.alloc HB.out.size (.cells #[.int .i64 (i : Int), .int .i64 (j : Int)] 3)).trans (g3.mono (by have h1 := HB.out.size; have h2 := alloc_size wr; rw [h2]; omega)))
                    have HG5 := Hd.mk (show GBlk w5 b5 m (woS (woS ny i) j) from g1)
                    have HGo5 := Hd.mk ((HG.out.of_heap (alloc_old wr (.cells #[.int .i64 (i : Int), .int .i64 (j : Int)] 3) _ HG.out.lt)).of_heap (g3.block _ (by have h1 := HG.out.lt; rw [alloc_size]; omega)))
                    have HN5 := Hd.mk ((HN.out.of_heap (alloc_old wr (.cells #[.int .i64 (i : Int), .int .i64 (j : Int)] 3) _ HN.out.lt)).of_heap (g3.block _ (by have h1 := HN.out.lt; rw [alloc_size]; omega)))
                    have HBO5 := Hd.mk (show b5 ≠ ob from by have h1 := HN.out.lt; have h2 := alloc_size wr (.cells #[.int .i64 (i : Int), .int .i64 (j : Int)] 3); omega)
                    clear g1 g2 g3 HN HG HB
                    go_wp2_with fail
                    refine (most_any w5 b5 m K0 _ M2 HG5.out HM2.out).mono ?_
                    rintro e w6 ⟨b6, cap6, rfl, g4, g5, g6⟩
                    have HNm := Hd.mk g4
                    have HG6 := Hd.mk (HG5.out.of_heap (w' := w6) (g6.block _ HG5.out.lt))
                    have HGo6 := Hd.mk (HGo5.out.of_heap (w' := w6) (g6.block _ HGo5.out.lt))
                    have HN6 := Hd.mk (HN5.out.of_heap (w' := w6) (g6.block _ HN5.out.lt))
                    have HB6 := Hd.mk (HB5.out.trans (g6.mono HB5.out.size))
                    clear g4 g5 g6 HG5 HGo5 HN5 HB5
                    go_wp2_with fail
                    refine (pairs_any w6 (some ⟨b6, 0, none⟩) m cap6 M2 (by omega) HNm.out.rd.w (mostS_le HM2.out)).mono ?_
                    rintro e w7 ⟨rfl, rfl⟩
                    by_cases t2 : (pairsS m M2 : Int) = L - 1
                    · rw [if_pos t2] at hy2
                      have hy3 := Option.some.inj hy2
                      subst hy3
                      have b2 : ((pairsS m M2 : Int) == L - 1) = true := by simp [t2]
                      have HX2 := Hd.mk (show matchL m k1 (i + 1) (woS (woS ny i) j) (L - 1) (upd (upd f i j) j i) = some out from HX.out)
                      have ci := HN6.out.blk.cell i hlt'
                      have fi := HN6.out.blk.frozen i
                      have h1 := HN6.out.set i hlt' j
                      have cj := h1.blk.cell j hltj
                      have fj := h1.blk.frozen j
                      have HN7 := Hd.mk (h1.set j hltj i)
                      have HG7 := Hd.mk ((HG6.out.of_heap (w' := w6.setCell ⟨ob, i, none⟩ (.int .i64 j)) (heap_set_ne _ _ _ _ _ HBO5.out)).of_heap (w' := (w6.setCell ⟨ob, i, none⟩ (.int .i64 j)).setCell ⟨ob, j, none⟩ (.int .i64 i)) (heap_set_ne _ _ _ _ _ HBO5.out))
                      have HB7 := Hd.mk (bel_set (bel_set HB6.out hbo i (.int .i64 j)) hbo j (.int .i64 i))
                      clear hy2 t2 h1 HG6 HN6 HB6 HGo6 HX cn
                      go_wp2_with fail
                      go_roundg k1
                      case measure => omega
                      case rel => exact ⟨i + 1, L - 1, _, b5, _, rfl, rfl, by go_num, ⟨by have := HK.out; omega⟩, ⟨by have := HLB.out; omega, by have := HLB.out; omega⟩, HX2, ⟨fun q hq => by
                          unfold upd
                          split
                          · omega
                          · split
                            · omega
                            · exact HF.out q hq⟩, HBO5, HN7, HG7, HB7⟩
                    · rw [if_neg t2] at hy2
                      have b2 : ((pairsS m M2 : Int) == L - 1) = false := by simp; omega
                      have HY := Hd.mk hy2
                      clear hy2 t2 HG6 cn
                      go_wp2_with fail
                      go_roundg k2
                      case measure => omega
                      case rel => exact ⟨j + 1, rfl, rfl, by go_num, ⟨by have := HK2.out; omega⟩, HY, HN6, HGo6, HB6⟩
      | succ k1 =>
        have hi := HK.out
        have hlt : (i : Int) < m := by omega
        have hlt' : i < m := by omega
        have ci := HN.out.blk.cell i hlt'
        have fi := HN.out.blk.frozen i
        have HN2 := Hd.mk (HN.out.set i hlt' m)
        have HG2 := Hd.mk (HG.out.of_heap (w' := wr.setCell ⟨ob, i, none⟩ (.int .i64 m)) (heap_set_ne _ _ _ _ _ hgo))
        have HB2 := Hd.mk (bel_set HB.out hbo i (.int .i64 m))
        clear hi HN HG HB
        go_wp2_with fail
        go_roundg k1
        case measure => omega
        case rel => exact ⟨i + 1, _, by go_num, ⟨by have := HK.out; omega⟩, ⟨fun j hj => by
            unfold upd
            split
            · rfl
            · exact HX.out j (by omega)⟩, HN2, HG2, HB2⟩
end Go.Proofs.Ythhgdndjnflklaa

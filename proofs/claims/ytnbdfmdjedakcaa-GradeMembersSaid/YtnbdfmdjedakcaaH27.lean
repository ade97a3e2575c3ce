/- Both. No conditions. -/
import Derived.Test.YtnbdfmdjedakcaaH26
namespace Go.Proofs.Ytnbdfmdjedakcaa
open Go.RowKit Go.Proofs.YtnbdfmdjedakcaaW.PrintWords Go.Proofs.YtnbdfmdjedakcaaW.PrintLast Go.Proofs.YtnbdfmdjedakcaaW.PrintMore PP
set_option linter.unusedVariables false
set_option linter.unusedSimpArgs false
theorem ex_congr {rule : S36 → S36 → Bool} {l l' : List S36} (h : ∀ x, x ∈ l ↔ x ∈ l') : exF rule l = exF rule l' :=
  asc_ext _ _ (ex_asc _ _) (ex_asc _ _) fun x => by
    rw [ex_mem, ex_mem, alone_iff, alone_iff, h]
    exact ⟨fun ⟨a, b⟩ => ⟨a, fun o ho => b o ((h o).2 ho)⟩, fun ⟨a, b⟩ => ⟨a, fun o ho => b o ((h o).1 ho)⟩⟩
def joinG (x y : S36) : S36 := ⟨mx x.f0 y.f0, mx x.f1 y.f1, mx x.f2 y.f2⟩
theorem gok_join {x y : S36} (hx : gok x = true) (hy : gok y = true) : gok (joinG x y) = true := by
  rw [gok_iff] at *
  unfold joinG mx
  simp only
  refine ⟨?_, ?_, ?_⟩ <;> (split <;> omega)
def joins (a b : List S36) : List S36 := a.flatMap fun x => b.map (joinG x)
theorem join_run (W : World) (x y : S36) : Calls Try.prog 31 #[.agg #[.int .i64 x.f0, .int .i64 x.f1, .int .i64 x.f2], .agg #[.int .i64 y.f0, .int .i64 y.f1, .int .i64 y.f2]] W fun e w' => e = .returned (.agg #[.int .i64 (joinG x y).f0, .int .i64 (joinG x y).f1, .int .i64 (joinG x y).f2]) ∧ Below W.heap.size W w' :=
  grade_Join.calls x.f0 x.f1 x.f2 y.f0 y.f1 y.f2 _ _ _ W rfl
theorem MapG.putBelow {B : World} {w w' : World} {mb : Nat} (hb : Below B.heap.size B w) (hm : B.heap.size ≤ mb) (hg : w.grownBy w' (some mb)) : Below B.heap.size B w' :=
  ⟨hg.os.trans hb.os, hg.tape.trans hb.tape, hg.output.trans hb.output, Nat.le_trans hb.size hg.size, fun i hi => (hg.block i (Nat.lt_of_lt_of_le hi hb.size) (fun e => by injection e with e; omega)).trans (hb.block i hi)⟩
theorem R_grownX {w w1 : World} {base : Nat} {ok : Nat → Prop} {v : Value} {xs : List S36} (h : Kd.R k36 36 w base ok v xs) {row : Option Nat} (hg : w.grownBy w1 row) (hok : ∀ k, ok k → some k ≠ row) : Kd.R k36 36 w1 base ok v xs :=
  Kd.R_step h fun k ho hk => hg.block k hk (hok k ho)
/-- Both. -/
def botF (a b : List S36) : List S36 × Int := if (anB a && anB b) = true then (exF belowG (joins a b), 0) else ([], 2)
set_option maxRecDepth 100000 in
set_option maxHeartbeats 8000000 in
theorem both_yes (w : World) (A B : Option Addr) (ca cb : Nat) (a b : List S36) (hA : Kd.C k36 w A a.length a) (hB : Kd.C k36 w B b.length b) (hca : a.length ≤ ca) (hcb : b.length ≤ cb) (qa : anB a = true) (qb : anB b = true) :
    Calls Try.prog 54 #[.slice A a.length ca, .slice B b.length cb] w fun e w' => ∃ v, e = .returned (.tuple #[v, .int .i64 0]) ∧ Kd.R k36 36 w' w.heap.size (fun _ => True) v (exF belowG (joins a b)) ∧ Below w.heap.size w w' := by
  have hu36 := Try.underlying36
  have hmm := @run_makeMap Try.prog
  have ha := (anB_iff.1 qa).short
  have hb := (anB_iff.1 qb).short
  have VA := Hd.mk (anB_iff.1 qa).1
  have VB := Hd.mk (anB_iff.1 qb).1
  have XA := Hd.mk (antichain_any w A ca a hA hca (by omega) true qa)
  have XB := Hd.mk (fun W (h : Below w.heap.size w W) => antichain_any W B cb b (Kd.C_below hB h) hcb (by omega) true qb)
  have HA := Hd.mk (fun W (h : Below w.heap.size w W) => Kd.C_below hA h)
  have HB := Hd.mk (fun W (h : Below w.heap.size w W) => Kd.C_below hB h)
  clear hA hB hca hcb qa qb
  go_enter Try.func54, Try.ntmps54
  go_wp2_with fail
  refine XA.out.mono ?_
  rintro e w1 ⟨rfl, hb1⟩
  have HB1 := Hd.mk hb1
  clear hb1
  go_wp2_with fail
  refine (XB.out _ HB1.out).mono ?_
  rintro e w2 ⟨rfl, hb2⟩
  have HB2 := Hd.mk (HB1.out.trans (hb2.mono HB1.out.size))
  clear hb2
  go_wp2_with fail
  go_loopg [24] a.length (fun gg v24 wr => ∃ (i n : Nat) (js : List S36), v24 = .int .i64 i ∧ i ≤ a.length ∧ a.length - i ≤ gg ∧ Hd (js = joins (a.take i) b ∧ n ≤ i * 144) ∧ Hd (MapG wr w2.heap.size n js) ∧ Hd (Below w.heap.size w wr))
  case atStart => exact ⟨0, 0, [], rfl, by omega, by omega, ⟨rfl, by omega⟩, ⟨MapG.made w2⟩, ⟨HB2.out.alloc HB2.out.size _⟩⟩
  case round =>
    obtain ⟨i, n, js, rfl, hi, hg, HJ, HM, BW⟩ := hrel
    by_cases hlt : i < a.length
    · have hltz : (i : Int) < (a.length : Int) := by omega
      obtain ⟨ad, rfl, x0, x1, x2⟩ := at_T36 (HA.out _ BW.out) (i : Int) (by omega) hltz
      rw [getB, Int.toNat_natCast] at x0 x1 x2
      obtain ⟨x, hx⟩ : ∃ x, a[i]! = x := ⟨_, rfl⟩
      rw [hx] at x0 x1 x2
      have GX := Hd.mk (show gok x = true from VA.out x (by rw [← hx, getElem!_pos a i hlt]; exact List.getElem_mem hlt))
      have HX := Hd.mk hx
      clear hx
      go_wp2_with fail
      obtain ⟨wo, rfl⟩ : ∃ z : World, z = wr := ⟨_, rfl⟩
      have g1 := blk_new wo (.cells #[.int .i64 x.f0, .int .i64 x.f1, .int .i64 x.f2] 36)
      have G1 := Hd.mk g1
      have XM := Hd.mk HM.out.lt
      clear g1 x0 x1 x2
      go_loopg [30] b.length (fun gg v30 wq => ∃ (j m : Nat) (ks : List S36), v30 = .int .i64 j ∧ j ≤ b.length ∧ b.length - j ≤ gg ∧ Hd (ks = js ++ (b.take j).map (joinG x) ∧ m ≤ n + j) ∧ Hd (MapG wq w2.heap.size m ks) ∧ Hd (Below w.heap.size w wq) ∧ Hd (wq.heap[wo.heap.size]? = some (.cells #[.int .i64 x.f0, .int .i64 x.f1, .int .i64 x.f2] 36 (0, 0))))
      case atStart => exact ⟨0, n, js, rfl, by omega, by omega, ⟨by simp, by omega⟩, ⟨HM.out.below ((Below.refl _ _).alloc (Nat.le_refl _) _)⟩, ⟨BW.out.alloc BW.out.size _⟩, G1⟩
      case round =>
        clear G1
        obtain ⟨j, m, ks, rfl, hj, hg2, HK, HN, BQ, GQ⟩ := hrel
        obtain ⟨wq, rfl⟩ : ∃ z : World, z = wr := ⟨_, rfl⟩
        by_cases hlt2 : j < b.length
        · have hltz2 : (j : Int) < (b.length : Int) := by omega
          obtain ⟨ad2, rfl, y0, y1, y2⟩ := at_T36 (HB.out _ BQ.out) (j : Int) (by omega) hltz2
          rw [getB, Int.toNat_natCast] at y0 y1 y2
          obtain ⟨y, hy⟩ : ∃ y, b[j]! = y := ⟨_, rfl⟩
          rw [hy] at y0 y1 y2
          have GY := Hd.mk (show gok y = true from VB.out y (by rw [← hy, getElem!_pos b j hlt2]; exact List.getElem_mem hlt2))
          have HK2 := Hd.mk (show ks ++ [joinG x y] = js ++ (b.take (j + 1)).map (joinG x) ∧ m + 1 ≤ n + (j + 1) by
            refine ⟨?_, by have := HK.out.2; omega⟩
            rw [HK.out.1, List.append_assoc, List.take_succ_eq_append_getElem hlt2, List.map_append, ← hy, getElem!_pos b j hlt2]
            rfl)
          have GJ := Hd.mk (gok_join GX.out GY.out)
          have HRUN := Hd.mk (fun W => join_run W x y)
          clear hy
          have xne : wo.heap.size ≠ wq.heap.size := by have := (Array.getElem?_eq_some_iff.1 GQ.out).1; omega
          have xlt : wo.heap.size < wq.heap.size := (Array.getElem?_eq_some_iff.1 GQ.out).1
          have x0 : wq.cell? ⟨wo.heap.size, 0, none⟩ = some (.int .i64 x.f0) := (blk_cell GQ.out 0).trans rfl
          have x1 : wq.cell? ⟨wo.heap.size, 1, none⟩ = some (.int .i64 x.f1) := (blk_cell GQ.out 1).trans rfl
          have x2 : wq.cell? ⟨wo.heap.size, 2, none⟩ = some (.int .i64 x.f2) := (blk_cell GQ.out 2).trans rfl
          have NB := Hd.mk (show m < 1000000000 by have h1 := HK.out.2; have h2 := HJ.out.2; omega)
          generalize joinG x y = z at *
          go_wp2_with (first
            | (go_at_call 31; refine (HRUN.out _).mono ?_; rintro e w4 ⟨rfl, hb4⟩; have B4 := Hd.mk ((BQ.out.alloc BQ.out.size (.cells #[.int .i64 y.f0, .int .i64 y.f1, .int .i64 y.f2] 36)).trans (hb4.mono (by have := BQ.out.size; simp; omega))); have M4 := Hd.mk ((HN.out.below ((Below.refl _ _).alloc (Nat.le_refl _) (.cells #[.int .i64 y.f0, .int .i64 y.f1, .int .i64 y.f2] 36))).below hb4); have G4 := Hd.mk ((hb4.block wo.heap.size (by simp; omega)).trans ((((Below.refl _ wq).alloc (Nat.le_refl _) (.cells #[.int .i64 y.f0, .int .i64 y.f1, .int .i64 y.f2] 36)).block _ xlt).trans GQ.out)); clear hb4)
            | (at_mapUpdate; refine wpList_gput _ rfl _ _ _ rfl w2.heap.size m ks z GJ.out rfl rfl rfl M4.out NB.out ?_; intro w5 hm5 hg5; have M5 := Hd.mk hm5; have B5 := Hd.mk (MapG.putBelow B4.out HB2.out.size hg5); have G5 := Hd.mk ((hg5.block wo.heap.size (Array.getElem?_eq_some_iff.1 G4.out).1 (fun e => by injection e with e; have h1 := XM.out; omega)).trans G4.out); clear hm5 hg5))
          go_roundg (b.length - (j + 1))
          case measure => omega
          case rel => exact ⟨j + 1, m + 1, _, by go_num, by omega, by omega, HK2, M5, B5, G5⟩
        · have hltz2 : ¬ (j : Int) < (b.length : Int) := by omega
          have HK3 := Hd.mk (show ks = joins (a.take (i + 1)) b ∧ m ≤ (i + 1) * 144 by
            have h1 := HK.out
            have h2 := HJ.out
            refine ⟨?_, by omega⟩
            rw [h1.1, h2.1, List.take_of_length_le (show b.length ≤ j by omega), List.take_succ_eq_append_getElem hlt]
            unfold joins
            rw [List.flatMap_append, ← HX.out, getElem!_pos a i hlt]
            simp)
          go_wp2_with fail
          go_roundg (a.length - (i + 1))
          case measure => omega
          case rel => exact ⟨i + 1, m, ks, by go_num, by omega, by omega, HK3, HN, BQ⟩
    · have hltz : ¬ (i : Int) < (a.length : Int) := by omega
      have HE := Hd.mk (show js = joins a b by rw [HJ.out.1, List.take_of_length_le (by omega)])
      obtain ⟨wo, rfl⟩ : ∃ z : World, z = wr := ⟨_, rfl⟩
      have VJ := Hd.mk (show ∀ x ∈ js, gok x = true by
        rw [HE.out]
        intro x hx
        obtain ⟨p, hp, hx⟩ := List.mem_flatMap.1 hx
        obtain ⟨q, hq, rfl⟩ := List.mem_map.1 hx
        exact gok_join (VA.out p hp) (VB.out q hq))
      have NB := Hd.mk (show n ≤ 1000000 by have h2 := HJ.out.2; omega)
      have XM := Hd.mk HM.out.lt
      go_wp2_with (at_range; refine wpList_grange _ rfl _ rfl w2.heap.size n js rfl HM.out ?_; intro w3 cnt hcn hr hg3 hs3; have HCN := Hd.mk hcn; have RG := Hd.mk hr; have B3 := Hd.mk (show Below w.heap.size w w3 from BW.out.grown hg3 BW.out.size (by simp)); clear hcn hr hg3 hs3)
      go_loopg [11] cnt (fun gg v11 wq => ∃ (outs : List S36) (cn : Nat), cn ≤ gg ∧ Hd (outs.length + cn ≤ n) ∧ Hd (RngG wq w2.heap.size wo.heap.size n js outs cn) ∧ Hd (Below w.heap.size w wq) ∧ Hd (Kd.R k36 36 wq w.heap.size (fun k => k ≠ w2.heap.size ∧ k ≠ wo.heap.size) v11 outs))
      case atStart => exact ⟨[], cnt, Nat.le_refl _, ⟨by have := HCN.out; simp; omega⟩, RG, B3, ⟨Kd.R_nil _ _ _ _ _⟩⟩
      case round =>
        clear RG B3
        obtain ⟨outs, cn, hg, HLN, RG, BQ, RO⟩ := hrel
        go_wp2_with (at_next; refine wpList_gnext _ rfl _ rfl w2.heap.size wo.heap.size n js outs cn VJ.out rfl RG.out ?gd ?gm)
        case gd =>
          intro hd
          have HD := Hd.mk hd
          clear hd
          have HXE := Hd.mk (show exF belowG outs = exF belowG (joins a b) by rw [← HE.out]; exact ex_congr HD.out)
          obtain ⟨A3, c3, rfl, hl3, hC3⟩ := Kd.R_reads RO.out
          have HC3 := Hd.mk (least_any wr A3 c3 outs hC3 (by have := HLN.out; have := NB.out; omega))
          clear hC3 hl3
          go_wp2_with fail
          refine HC3.out.mono ?_
          rintro e w4 ⟨v, rfl, hR, hb4⟩
          have HR4 := Hd.mk hR
          have HB4 := Hd.mk hb4
          clear hR hb4
          go_wp2_with fail
          go_ret2
          refine ⟨_, rfl, ?_, BQ.out.trans (HB4.out.mono BQ.out.size)⟩
          rw [← HXE.out]
          exact Kd.R_lower HR4.out BQ.out.size
        case gm =>
          intro x c w5 c5 hx hr5 hlt5 hg5 hs5 hen
          have R5 := Hd.mk (RngG.below hr5 (World.grownBy_alloc w5 (.cells #[.int .i64 x.f0, .int .i64 x.f1, .int .i64 x.f2] 36) none) (by simp) (by simp))
          have B5 := Hd.mk ((MapG.putBelow BQ.out BW.out.size hg5).alloc (MapG.putBelow BQ.out BW.out.size hg5).size (.cells #[.int .i64 x.f0, .int .i64 x.f1, .int .i64 x.f2] 36))
          have O5 := Hd.mk (R_grownX (R_grownX RO.out hg5 (fun k hk e => by injection e with e; exact hk.2 e)) (World.grownBy_alloc w5 (.cells #[.int .i64 x.f0, .int .i64 x.f1, .int .i64 x.f2] 36) none) (by simp))
          have L5 := Hd.mk (show (outs ++ [x]).length + c5 ≤ n by have := HLN.out; simp; omega)
          have LM := Hd.mk (show w2.heap.size < w5.heap.size + 1 ∧ wo.heap.size < w5.heap.size + 1 by
            have h1 := XM.out
            have h2 := BQ.out.size
            obtain ⟨_, _, h3, _⟩ := RG.out
            have h4 := h3.lt
            omega)
          have LB := Hd.mk (show outs.length ≤ 1000000 by have := HLN.out; have := NB.out; omega)
          clear hr5 hg5 hs5 hx
          go_wp2_with (((with_reducible refine gate_builtin (b := .append) (xs := #[.tmp 46, .tmp 48]) rfl ?_); at_builtin; refine Kd.R_append k36 (w0 := w) (W := w5.alloc (.cells #[.int .i64 x.f0, .int .i64 x.f1, .int .i64 x.f2] 36)) w.heap.size rfl (.tmp 46) (.tmp 48) 41 36 (.agg #[(.int .i64 0), (.int .i64 0), (.int .i64 0)]) 24 rfl Try.underlying41 info36 rfl (by decide) (by omega) u11 _ x [.int .i64 x.f0, .int .i64 x.f1, .int .i64 x.f2] (fun k => k ≠ w2.heap.size ∧ k ≠ wo.heap.size) (fun _ => False) rfl (by simp; rfl) ?aP (fun _ hk => hk.elim) ?aF O5.out B5.out ?aS ?aL ?_; (case aP => exact k36_mkM _ _ _ x); (case aF => intro k hk; have := LM.out; simp at hk; exact ⟨by omega, by omega⟩); (case aS => exact B5.out.size); (case aL => have := LB.out; omega); intro v2 w6 ho hb hg2 hat; have HO6 := Hd.mk ho; have HB6 := Hd.mk hb; have R6 := Hd.mk (RngG.below R5.out hg2 (fun e => ((O5.out.1 _ e.symm).1) rfl) (fun e => ((O5.out.1 _ e.symm).2) rfl)); clear ho hb hg2 hat))
          go_roundg c5
          case measure => omega
          case rel => exact ⟨_, c5, Nat.le_refl _, L5, R6, HB6, HO6⟩
set_option maxHeartbeats 4000000 in
theorem both_any (w : World) (A B : Option Addr) (ca cb : Nat) (a b : List S36) (hA : Kd.C k36 w A a.length a) (hB : Kd.C k36 w B b.length b) (hca : a.length ≤ ca) (hcb : b.length ≤ cb) (ha : a.length ≤ 1000000) (hb : b.length ≤ 1000000) :
    Calls Try.prog 54 #[.slice A a.length ca, .slice B b.length cb] w fun e w' => ∃ v, e = .returned (.tuple #[v, .int .i64 (botF a b).2]) ∧ Kd.R k36 36 w' w.heap.size (fun _ => True) v (botF a b).1 ∧ Below w.heap.size w w' := by
  unfold botF
  cases qa : anB a with
  | false =>
    rw [Bool.false_and, if_neg (by decide)]
    have XA := Hd.mk (antichain_any w A ca a hA hca ha false qa)
    clear qa hA hB hca hcb ha hb
    simp only
    go_enter Try.func54, Try.ntmps54
    go_wp2_with (go_at_call 80; refine XA.out.mono ?_; rintro e w1 ⟨rfl, hb⟩; have HB1 := Hd.mk hb; clear hb)
    go_ret2
    exact ⟨_, rfl, Kd.R_nil _ _ _ _ _, HB1.out⟩
  | true =>
    cases qb : anB b with
    | false =>
      rw [Bool.and_false, if_neg (by decide)]
      have XA := Hd.mk (antichain_any w A ca a hA hca ha true qa)
      have XB := Hd.mk (fun W (h : Below w.heap.size w W) => antichain_any W B cb b (Kd.C_below hB h) hcb hb false qb)
      clear qa qb hA hB hca hcb ha hb
      simp only
      go_enter Try.func54, Try.ntmps54
      go_wp2_with fail
      refine XA.out.mono ?_
      rintro e w1 ⟨rfl, hb⟩
      have HB1 := Hd.mk hb
      clear hb
      go_wp2_with fail
      refine (XB.out _ HB1.out).mono ?_
      rintro e w2 ⟨rfl, hb⟩
      have HB2 := Hd.mk hb
      clear hb
      go_wp2_with fail
      go_ret2
      exact ⟨_, rfl, Kd.R_nil _ _ _ _ _, HB1.out.trans (HB2.out.mono HB1.out.size)⟩
    | true => exact both_yes w A B ca cb a b hA hB hca hcb qa qb
end Go.Proofs.Ytnbdfmdjedakcaa

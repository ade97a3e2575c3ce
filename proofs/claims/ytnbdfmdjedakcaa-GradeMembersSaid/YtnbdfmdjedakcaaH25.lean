/- slices.Grow of nothing, slices.Concat of two; Either. No conditions. -/
import Derived.Test.YtnbdfmdjedakcaaH23
import Derived.Test.YtnbdfmdjedakcaaW2
import Derived.Lib.AppendZerosOnto
namespace Go.Proofs.Ytnbdfmdjedakcaa
open Go.RowKit Go.Proofs.YtnbdfmdjedakcaaW.PrintWords Go.Proofs.YtnbdfmdjedakcaaW.PrintLast Go.Proofs.YtnbdfmdjedakcaaW.PrintMore PP
set_option linter.unusedVariables false
set_option linter.unusedSimpArgs false
theorem append0 (w : World) (n : Nat) (h0 : 0 < n) (hn : n ≤ 2000000) : ∃ v w', (∀ ty, (Builtin.append_ #[41, 3] ty #[.slice none 0 0, .int .i64 n]).run Try.prog w = .ok v w') ∧ (∃ g G, v = .slice (some ⟨g, 0, none⟩) n G ∧ n ≤ G ∧ G ≤ 9223372036854775807 ∧ Kd.R k36 36 w' w.heap.size (fun _ => True) (.slice (some ⟨g, 0, none⟩) 0 G) []) ∧ Below w.heap.size w w' := by
  obtain ⟨i, hi, hz, hs, hb⟩ := info_parts info36
  have hold : (Builtin.firstCells i.size 0 (.slice none 0 0)).run Try.prog w.drew = .ok (#[] : Array Value) w.drew := by
    rw [hs]; exact run_firstCells_none w.drew 3 0 0 0
  have h := fun ty => Lib.run_append_grow_zeros w 41 3 ty 36 i (.agg #[.int .i64 0, .int .i64 0, .int .i64 0]) .i64 .i64 Try.underlying41 Try.underlying3 hi hz none 0 0 [] hold n h0 (by rw [hs]; decide) (by omega) (by omega) (by rw [hb]; omega)
    (by rw [hb]; exact growslice_fits (by omega) (by omega))
  rw [Nat.zero_add] at h
  refine ⟨_, _, h, ⟨w.heap.size, _, rfl, grownCap_ge w _ _ _, ?_, ?_⟩, (bel_drew' w).alloc (Nat.le_refl _) _⟩
  · have := grownCap_le_maxLen w n 0 36 (by unfold maxLen; omega)
    unfold maxLen at this
    omega
  · have hG := grownCap_ge w n 0 36
    refine ⟨fun _ _ => trivial, [], ⟨rfl, Or.inr ⟨w.heap.size, _, _, rfl, Nat.le_refl _, blk_new w.drew _, Nat.zero_le _, ?_, ?_, rfl⟩⟩, Reps.none _ _⟩
    · have := grownCap_le_maxLen w n 0 36 (by unfold maxLen; omega)
      exact this
    · show _ = _ * 3
      simp [Builtin.zeroCells, Value.cells]
      omega
set_option maxHeartbeats 1000000 in
theorem grow_any (w : World) (n : Nat) (hn : n ≤ 2000000) : Calls Try.prog 114 #[.slice none 0 0, .int .i64 n] w fun e w' => ∃ v, e = .returned v ∧ Kd.R k36 36 w' w.heap.size (fun _ => True) v [] ∧ Below w.heap.size w w' := by
  by_cases h0 : n = 0
  · subst h0
    go_enter Try.func114, Try.ntmps114
    go_wp2
    go_ret
    exact ⟨_, rfl, Kd.R_nil _ _ _ _ _, Below.refl _ _⟩
  · obtain ⟨v, w1, hrun, ⟨g, G, rfl, hG1, hG2, hR⟩, hB⟩ := append0 w n (by omega) hn
    have HR := Hd.mk hR
    have HB := Hd.mk hB
    have h1 : ¬ ((n : Int) < 0) := by omega
    have h2 : (n : Int) > 0 := by omega
    clear hR hB h0
    go_enter Try.func114, Try.ntmps114
    go_wp2_with (at_builtin; refine Lib.wpList_append_run _ rfl _ _ _ _ rfl _ _ rfl rfl _ _ (hrun _) ?_)
    go_ret
    exact ⟨_, rfl, HR.out, HB.out⟩
def cc2 (a b : List S36) (k : Nat) : List S36 := if k = 0 then [] else if k = 1 then a else a ++ b
set_option maxRecDepth 100000 in
set_option maxHeartbeats 4000000 in
theorem concat_any (w : World) (pb : Nat) (A B : Option Addr) (ca cb : Nat) (a b : List S36) (hp : w.heap[pb]? = some (.cells #[.slice A a.length ca, .slice B b.length cb] 41 (0, 0))) (hA : Kd.C k36 w A a.length a) (hB : Kd.C k36 w B b.length b) (ha : a.length ≤ 1000000) (hb : b.length ≤ 1000000) :
    Calls Try.prog 89 #[.slice (some ⟨pb, 0, none⟩) 2 2] w fun e w' => ∃ v, e = .returned v ∧ Kd.R k36 36 w' w.heap.size (fun _ => True) v (a ++ b) ∧ Below w.heap.size w w' := by
  have lt : pb < w.heap.size := (Array.getElem?_eq_some_iff.1 hp).1
  have c0 : w.cell? ⟨pb, 0, none⟩ = some (.slice A a.length ca) := (blk_cell hp 0).trans rfl
  have c1 : w.cell? ⟨pb, 1, none⟩ = some (.slice B b.length cb) := (blk_cell hp 1).trans rfl
  have HP := Hd.mk hp
  have HA := Hd.mk hA
  have HB := Hd.mk hB
  have LT := Hd.mk lt
  clear hp hA hB lt
  go_enter Try.func89, Try.ntmps89
  go_wp2_with fail
  go_loop [3, 11] (fun v3 v11 => ∃ (k : Nat) (z : Int), k ≤ 2 ∧ v11 = .int .i64 k ∧ v3 = .int .i64 z ∧ Hd (z = (cc2 a b k).length)) (fun _ v11 => 2 - (intOf v11).toNat)
  case atStart => exact ⟨0, 0, by omega, rfl, rfl, ⟨rfl⟩⟩
  case round =>
    obtain ⟨k, z, hk, rfl, rfl, HZ⟩ := hrel
    have hkk : k = 0 ∨ k = 1 ∨ k = 2 := by omega
    rcases hkk with rfl | rfl | rfl
    · obtain rfl : z = 0 := HZ.out
      have h1 : ¬ ((a.length : Int) < 0) := by omega
      go_wp2_with fail
      go_round
      case rel => exact ⟨1, _, by omega, by go_num, rfl, ⟨rfl⟩⟩
      case measure => simp [intOf]
    · obtain rfl : z = (a.length : Int) := HZ.out
      have h1 : ¬ ((a.length : Int) + (b.length : Int) < 0) := by omega
      go_wp2_with fail
      go_round
      case rel => exact ⟨2, _, by omega, by go_num, rfl, ⟨by unfold cc2; rw [if_neg (by decide), if_neg (by decide), List.length_append]; omega⟩⟩
      case measure => simp [intOf]
    · obtain rfl : z = (((a.length + b.length : Nat)) : Int) := by
        have := HZ.out
        unfold cc2 at this
        rw [if_neg (by decide), if_neg (by decide), List.length_append] at this
        exact this
      have HG := Hd.mk (grow_any w (a.length + b.length) (by omega))
      clear c0 c1
      go_wp2_with (go_at_call 114; refine HG.out.mono ?_; rintro e w1 ⟨v, rfl, hR, hb1⟩; have HR0 := Hd.mk hR; have HB1 := Hd.mk hb1; clear hR hb1)
      go_loopg [6, 27] 2 (fun gg v6 v27 wr => ∃ (k : Nat) (xs : List S36), k ≤ 2 ∧ 2 - k ≤ gg ∧ v27 = .int .i64 k ∧ Hd (xs = cc2 a b k) ∧ Hd (Below w.heap.size w wr) ∧ Hd (Kd.R k36 36 wr w.heap.size (fun _ => True) v6 xs))
      case atStart => exact ⟨0, [], by omega, by omega, rfl, ⟨rfl⟩, HB1, HR0⟩
      case round =>
        clear HR0 HB1 HG
        obtain ⟨k, xs, hk, hg, rfl, HXS, HB2, HR⟩ := hrel
        have gp := (HB2.out.block pb LT.out).trans HP.out
        have hkk : k = 0 ∨ k = 1 ∨ k = 2 := by omega
        rcases hkk with rfl | rfl | rfl
        · have c0 : wr.cell? ⟨pb, 0, none⟩ = some (.slice A a.length ca) := (blk_cell gp 0).trans rfl
          have HC := Hd.mk (Kd.C_below HA.out (Below.refl _ w) |> fun h => Kd.C_below h HB2.out)
          have HL := Hd.mk (show xs.length ≤ 1000000 by rw [HXS.out]; unfold cc2; simp; try omega)
          have HN := Hd.mk (show xs ++ a = cc2 a b (0 + 1) by rw [HXS.out]; rfl)
          clear gp
          go_wp2_with (((with_reducible refine gate_builtin (b := .append) (xs := #[.tmp 31, .tmp 32]) rfl ?_); at_builtin; refine Kd.R_append_rows k36 (Rr := k36.K wr) (w0 := w) w.heap.size rfl (.tmp 31) (.tmp 32) 41 36 (.agg #[(.int .i64 0), (.int .i64 0), (.int .i64 0)]) 24 rfl Try.underlying41 info36 rfl (by decide) (by omega) u6 _ a A a.length ca (fun _ => True) (fun _ => False) rfl rfl HR.out HC.out (fun x cs h => by rw [k36_open h]; exact k36_mkM _ _ _ x) (fun _ hk => hk.elim) (fun _ _ => trivial) HB2.out HB2.out.size (by have := HL.out; omega) ?_; intro v2 w2 ho hb hg2 hat; have HO2 := Hd.mk ho; have HB3 := Hd.mk hb; clear ho hb hg2 hat))
          go_roundg (2 - (0 + 1))
          case measure => omega
          case rel => exact ⟨0 + 1, _, by omega, by omega, by go_num, HN, HB3, HO2⟩
        · have c1 : wr.cell? ⟨pb, 1, none⟩ = some (.slice B b.length cb) := (blk_cell gp 1).trans rfl
          have HC := Hd.mk (Kd.C_below HB.out (Below.refl _ w) |> fun h => Kd.C_below h HB2.out)
          have HL := Hd.mk (show xs.length ≤ 1000000 by rw [HXS.out]; unfold cc2; simp; try omega)
          have HN := Hd.mk (show xs ++ b = cc2 a b (1 + 1) by rw [HXS.out]; rfl)
          clear gp
          go_wp2_with (((with_reducible refine gate_builtin (b := .append) (xs := #[.tmp 31, .tmp 32]) rfl ?_); at_builtin; refine Kd.R_append_rows k36 (Rr := k36.K wr) (w0 := w) w.heap.size rfl (.tmp 31) (.tmp 32) 41 36 (.agg #[(.int .i64 0), (.int .i64 0), (.int .i64 0)]) 24 rfl Try.underlying41 info36 rfl (by decide) (by omega) u6 _ b B b.length cb (fun _ => True) (fun _ => False) rfl rfl HR.out HC.out (fun x cs h => by rw [k36_open h]; exact k36_mkM _ _ _ x) (fun _ hk => hk.elim) (fun _ _ => trivial) HB2.out HB2.out.size (by have := HL.out; omega) ?_; intro v2 w2 ho hb hg2 hat; have HO2 := Hd.mk ho; have HB3 := Hd.mk hb; clear ho hb hg2 hat))
          go_roundg (2 - (1 + 1))
          case measure => omega
          case rel => exact ⟨1 + 1, _, by omega, by omega, by go_num, HN, HB3, HO2⟩
        · go_wp2_with fail
          go_ret
          have h9 := HXS.out
          unfold cc2 at h9
          rw [if_neg (by decide), if_neg (by decide)] at h9
          rw [← h9]
          exact ⟨_, rfl, HR.out, HB2.out⟩
/-- Either. -/
def eitF (a b : List S36) : List S36 × Int := if (anB a && anB b) = true then (exF belowG (a ++ b), 0) else ([], 2)
set_option maxHeartbeats 4000000 in
theorem either_any (w : World) (A B : Option Addr) (ca cb : Nat) (a b : List S36) (hA : Kd.C k36 w A a.length a) (hB : Kd.C k36 w B b.length b) (hca : a.length ≤ ca) (hcb : b.length ≤ cb) (ha : a.length ≤ 1000000) (hb : b.length ≤ 1000000) :
    Calls Try.prog 53 #[.slice A a.length ca, .slice B b.length cb] w fun e w' => ∃ v, e = .returned (.tuple #[v, .int .i64 (eitF a b).2]) ∧ Kd.R k36 36 w' w.heap.size (fun _ => True) v (eitF a b).1 ∧ Below w.heap.size w w' := by
  have XA := Hd.mk (fun W (h : Below w.heap.size w W) => antichain_any W A ca a (Kd.C_below hA h) hca ha)
  have XB := Hd.mk (fun W (h : Below w.heap.size w W) => antichain_any W B cb b (Kd.C_below hB h) hcb hb)
  have HA := Hd.mk hA
  have HB := Hd.mk hB
  have LA := Hd.mk ha
  have LB := Hd.mk hb
  clear hA hB hca hcb ha hb
  unfold eitF
  cases qa : anB a with
  | false =>
    rw [Bool.false_and, if_neg (by decide)]
    have QA := Hd.mk qa
    clear qa
    simp only
    go_enter Try.func53, Try.ntmps53
    go_wp2_with (go_at_call 80; refine (XA.out _ (Below.refl _ _) false QA.out).mono ?_; rintro e w1 ⟨rfl, hb⟩; have HB1 := Hd.mk hb; clear hb)
    go_ret2
    exact ⟨_, rfl, Kd.R_nil _ _ _ _ _, HB1.out⟩
  | true =>
    have QA := Hd.mk qa
    clear qa
    cases qb : anB b with
    | false =>
      rw [Bool.and_false, if_neg (by decide)]
      have QB := Hd.mk qb
      clear qb
      simp only
      go_enter Try.func53, Try.ntmps53
      go_wp2_with fail
      refine (XA.out _ (Below.refl _ _) true QA.out).mono ?_
      rintro e w1 ⟨rfl, hb⟩
      have HB1 := Hd.mk hb
      clear hb
      go_wp2_with fail
      refine (XB.out _ HB1.out false QB.out).mono ?_
      rintro e w2 ⟨rfl, hb⟩
      have HB2 := Hd.mk hb
      clear hb
      go_wp2_with fail
      go_ret2
      exact ⟨_, rfl, Kd.R_nil _ _ _ _ _, HB1.out.trans (HB2.out.mono HB1.out.size)⟩
    | true =>
      rw [Bool.and_true, if_pos rfl]
      have QB := Hd.mk qb
      clear qb
      simp only
      go_enter Try.func53, Try.ntmps53
      go_wp2_with fail
      refine (XA.out _ (Below.refl _ _) true QA.out).mono ?_
      rintro e w1 ⟨rfl, hb⟩
      have HB1 := Hd.mk hb
      clear hb
      go_wp2_with fail
      refine (XB.out _ HB1.out true QB.out).mono ?_
      rintro e w2 ⟨rfl, hb⟩
      have HB2 := Hd.mk (HB1.out.trans (hb.mono HB1.out.size))
      clear hb
      go_wp2_with fail
      refine (concat_any _ w2.heap.size A B ca cb a b (blk_new w2 _) (Kd.C_below HA.out (HB2.out.alloc HB2.out.size _)) (Kd.C_below HB.out (HB2.out.alloc HB2.out.size _)) LA.out LB.out).mono ?_
      rintro e w3 ⟨v, rfl, hR, hb3⟩
      have HB3 := Hd.mk ((HB2.out.alloc HB2.out.size (.cells #[.slice A a.length ca, .slice B b.length cb] 41)).trans (hb3.mono (by have := HB2.out.size; simp; omega)))
      obtain ⟨A3, c3, rfl, hl3, hC3⟩ := Kd.R_reads hR
      have HC3 := Hd.mk (least_any w3 A3 c3 (a ++ b) hC3 (by have := LA.out; have := LB.out; rw [List.length_append]; omega))
      clear hR hb3 hC3
      have HLL := Hd.mk hl3
      clear hl3
      obtain ⟨ab, hab⟩ : ∃ ab, a ++ b = ab := ⟨_, rfl⟩
      rw [hab] at HC3
      have HAB := Hd.mk hab
      rw [hab] at HLL ⊢
      clear hab
      go_wp2_with fail
      refine HC3.out.mono ?_
      rintro e w4 ⟨v, rfl, hR, hb4⟩
      have HR4 := Hd.mk hR
      have HB4 := Hd.mk hb4
      clear hR hb4
      go_wp2_with fail
      go_ret2
      refine ⟨_, rfl, ?_, HB3.out.trans (HB4.out.mono HB3.out.size)⟩
      rw [HAB.out]
      exact Kd.R_lower HR4.out HB3.out.size
end Go.Proofs.Ytnbdfmdjedakcaa

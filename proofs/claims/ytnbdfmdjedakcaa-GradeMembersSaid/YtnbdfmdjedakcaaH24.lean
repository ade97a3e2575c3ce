/- class: the class of the first sixty grades, brought within the levels. No conditions. -/
import Derived.Test.YtnbdfmdjedakcaaHC
import Derived.Test.YtnbdfmdjedakcaaU1
import Derived.Test.YtnbdfmdjedakcaaQ35
namespace Go.Proofs.Ytnbdfmdjedakcaa
open Go.RowKit Go.Proofs.YtnbdfmdjedakcaaW.PrintWords Go.Proofs.YtnbdfmdjedakcaaW.PrintLast Go.Proofs.YtnbdfmdjedakcaaW.PrintMore PP
set_option linter.unusedVariables false
set_option linter.unusedSimpArgs false
def m12 (v : Int) : Int := (v % 18446744073709551616) % 12
theorem m12_lv (v : Int) : lvB (m12 v) = true := by rw [lvB_true]; unfold m12; omega
def modG (x : S36) : S36 := ⟨m12 x.f0, m12 x.f1, m12 x.f2⟩
theorem gok_mod (x : S36) : gok (modG x) = true := by
  unfold gok gokB modG
  simp only [m12_lv, Bool.and_self]
def classF (l : List S36) : List S36 := exF belowG ((l.take 60).map modG)
theorem classF_anti (l : List S36) : Anti (classF l) := anti_ex fun x hx => by
  obtain ⟨y, _, rfl⟩ := List.mem_map.1 hx
  exact gok_mod y
def pm (k j : Nat) (v : Int) : Int := if j < k then m12 v else v
theorem conv12 (v : Int) : wrap64 ((IntKind.u64.wrap v).tmod 12) = m12 v := by
  have h : IntKind.u64.wrap v = v % 18446744073709551616 := rfl
  have h2 : 0 ≤ v % 18446744073709551616 := Int.emod_nonneg _ (by decide)
  rw [h, Int.tmod_eq_emod_of_nonneg h2]
  unfold m12
  generalize v % 18446744073709551616 = z at *
  rw [PP.w64 (by omega) (by omega)]
theorem leastC_f (l : List S36) : ∃ z, grade_Least.f ((l.take 60).map modG) = some (classF l, z) := by
  unfold grade_Least.f grade_listed.f grade_least.f
  have h1 : ((l.take 60).map modG).length ≤ 60 := by simp; omega
  have h2 : lsF ((l.take 60).map modG) 256 = 0 := by
    unfold lsF
    rw [if_neg (by omega), if_neg]
    intro h
    obtain ⟨x, hx, hn⟩ := List.any_eq_true.1 h
    obtain ⟨y, _, rfl⟩ := List.mem_map.1 hx
    rw [gok_mod] at hn
    exact absurd hn (by decide)
  simp only [Option.bind_some, h2, if_true]
  rw [if_pos (by omega)]
  exact ⟨0, rfl⟩
set_option maxRecDepth 100000 in
set_option maxHeartbeats 8000000 in
theorem class_any (w : World) (A : Option Addr) (c : Nat) (l : List S36) (hC : Kd.C k36 w A l.length l) :
    Calls Try.prog 47 #[.slice A l.length c] w fun e w' => ∃ v, e = .returned v ∧ Kd.R k36 36 w' w.heap.size (fun _ => True) v (classF l) ∧ Below w.heap.size w w' := by
  have hu36 := Try.underlying36
  have HC := Hd.mk hC
  have hbig : l.length ≤ 9223372036854775807 := hC.2.1
  obtain ⟨z, hz⟩ := leastC_f l
  have HZ := Hd.mk hz
  clear hC hz
  go_enter Try.func47, Try.ntmps47
  go_wp2_with fail
  go_loopg [3, 4] 60 (fun gg v3 v4 wr => ∃ (i : Nat) (xs : List S36), v4 = .int .i64 i ∧ i ≤ l.length ∧ i ≤ 60 ∧ 60 - i ≤ gg ∧ Hd (xs = (l.take i).map modG) ∧ Hd (Kd.R k36 36 wr w.heap.size (fun _ => True) v3 xs) ∧ Hd (Below w.heap.size w wr))
  case atStart => exact ⟨0, [], rfl, by omega, by omega, by omega, ⟨rfl⟩, ⟨Kd.R_nil _ _ _ _ _⟩, ⟨Below.refl _ _⟩⟩
  case round =>
    obtain ⟨i, xs, rfl, hi, hi60, hg, HXS, HR, HB⟩ := hrel
    by_cases hlt : i < l.length
    · have hltz : (i : Int) < (l.length : Int) := by omega
      by_cases h60 : i < 60
      · have h60z : (i : Int) < 60 := by omega
        obtain ⟨ad, rfl, x0, x1, x2⟩ := at_T36 (Kd.C_below HC.out HB.out) (i : Int) (by omega) hltz
        rw [getB, Int.toNat_natCast] at x0 x1 x2
        obtain ⟨x, hx⟩ : ∃ x, l[i]! = x := ⟨_, rfl⟩
        rw [hx] at x0 x1 x2
        have HX := Hd.mk hx
        clear hx
        go_wp2_with fail
        obtain ⟨wo, rfl⟩ : ∃ wo : World, wo = wr := ⟨_, rfl⟩
        go_loopg [6] 3 (fun gg v6 wq => ∃ (k : Nat) (p q r : Int), v6 = .int .i64 k ∧ k ≤ 3 ∧ 3 - k ≤ gg ∧ Hd (p = pm k 0 x.f0 ∧ q = pm k 1 x.f1 ∧ r = pm k 2 x.f2) ∧ wq = wo.alloc (.cells #[.int .i64 p, .int .i64 q, .int .i64 r] 36))
        case atStart => exact ⟨0, _, _, _, rfl, by omega, by omega, ⟨rfl, rfl, rfl⟩, rfl⟩
        case round =>
          obtain ⟨k, p, q, r, rfl, hk, hg2, HV, rfl⟩ := hrel
          by_cases hk3 : k < 3
          · have hkk : k = 0 ∨ k = 1 ∨ k = 2 := by omega
            clear x0 x1 x2
            rcases hkk with rfl | rfl | rfl
            · go_wp2_with fail
              go_roundg (3 - 1)
              case measure => omega
              case rel =>
                obtain ⟨rfl, rfl, rfl⟩ := HV.out
                refine ⟨1, _, _, _, by go_num, by omega, by omega, ⟨?_⟩, rfl⟩
                exact ⟨conv12 _, rfl, rfl⟩
            · go_wp2_with fail
              go_roundg (3 - 2)
              case measure => omega
              case rel =>
                obtain ⟨rfl, rfl, rfl⟩ := HV.out
                refine ⟨2, _, _, _, by go_num, by omega, by omega, ⟨?_⟩, rfl⟩
                exact ⟨rfl, conv12 _, rfl⟩
            · go_wp2_with fail
              go_roundg (3 - 3)
              case measure => omega
              case rel =>
                obtain ⟨rfl, rfl, rfl⟩ := HV.out
                refine ⟨3, _, _, _, by go_num, by omega, by omega, ⟨?_⟩, rfl⟩
                exact ⟨rfl, rfl, conv12 _⟩
          · obtain rfl : k = 3 := by omega
            obtain rfl : p = (modG x).f0 := HV.out.1.trans rfl
            obtain rfl : q = (modG x).f1 := HV.out.2.1.trans rfl
            obtain rfl : r = (modG x).f2 := HV.out.2.2.trans rfl
            clear HV
            have HX2 := Hd.mk (show xs ++ [modG x] = (l.take (i + 1)).map modG by
              rw [HXS.out, List.take_succ_eq_append_getElem hlt, List.map_append, ← HX.out, getElem!_pos l i hlt]
              rfl)
            have HLN := Hd.mk (show xs.length ≤ 60 by rw [HXS.out]; simp; omega)
            generalize modG x = y at *
            have hq := blk_new wo (.cells #[.int .i64 y.f0, .int .i64 y.f1, .int .i64 y.f2] 36)
            have HB1 := Hd.mk (HB.out.alloc HB.out.size (.cells #[.int .i64 y.f0, .int .i64 y.f1, .int .i64 y.f2] 36))
            have HR1 := Hd.mk (Kd.R_below HR.out ((Below.refl _ wo).alloc (Nat.le_refl _) (.cells #[.int .i64 y.f0, .int .i64 y.f1, .int .i64 y.f2] 36)))
            clear HR HB
            generalize wo.alloc (.cells #[.int .i64 y.f0, .int .i64 y.f1, .int .i64 y.f2] 36) = wq at *
            have g0 : wq.cell? ⟨wo.heap.size, 0, none⟩ = some (.int .i64 y.f0) := (blk_cell hq 0).trans rfl
            have g1 : wq.cell? ⟨wo.heap.size, 1, none⟩ = some (.int .i64 y.f1) := (blk_cell hq 1).trans rfl
            have g2 : wq.cell? ⟨wo.heap.size, 2, none⟩ = some (.int .i64 y.f2) := (blk_cell hq 2).trans rfl
            clear hq
            go_wp2_with (((with_reducible refine gate_builtin (b := .append) (xs := #[.tmp 35, .tmp 37]) rfl ?_); at_builtin; refine Kd.R_append k36 (w0 := w) w.heap.size rfl (.tmp 35) (.tmp 37) 41 36 (.agg #[(.int .i64 0), (.int .i64 0), (.int .i64 0)]) 24 rfl Try.underlying41 info36 rfl (by decide) (by omega) u3 _ y [.int .i64 y.f0, .int .i64 y.f1, .int .i64 y.f2] (fun _ => True) (fun _ => False) rfl rfl ?aP (fun _ hk => hk.elim) (fun _ _ => trivial) HR1.out HB1.out ?aS ?aL ?_; (case aP => exact k36_mkM _ _ _ y); (case aS => exact HB1.out.size); (case aL => have := HLN.out; omega); intro v2 w2 ho hb hg2 hat; have HO2 := Hd.mk ho; have HB2 := Hd.mk hb; clear ho hb hg2 hat))
            go_roundg (60 - (i + 1))
            case measure => omega
            case rel => exact ⟨i + 1, _, by go_num, by omega, by omega, by omega, HX2, HO2, HB2⟩
      · have h60z : ¬ (i : Int) < 60 := by omega
        obtain rfl : i = 60 := by omega
        have HE := Hd.mk (show xs = (l.take 60).map modG from HXS.out)
        obtain ⟨A2, c2, rfl, hl2, hC2⟩ := Kd.R_reads HR.out
        have HCALL := Hd.mk (grade_Least.calls A2 c2 _ (classF l) z wr hC2 hl2 (by rw [HE.out]; exact HZ.out))
        clear hl2 hC2
        go_wp2_with (go_at_call 35; refine HCALL.out.mono ?_; rintro e w' ⟨v, rfl, hR', hb'⟩; have HR' := Hd.mk hR'; have HB' := Hd.mk hb'; clear hR' hb')
        go_ret
        exact ⟨_, rfl, Kd.R_lower HR'.out HB.out.size, HB.out.trans (HB'.out.mono HB.out.size)⟩
    · have hltz : ¬ (i : Int) < (l.length : Int) := by omega
      have HE := Hd.mk (show xs = (l.take 60).map modG by rw [HXS.out, List.take_of_length_le (by omega), List.take_of_length_le (by omega)])
      obtain ⟨A2, c2, rfl, hl2, hC2⟩ := Kd.R_reads HR.out
      have HCALL := Hd.mk (grade_Least.calls A2 c2 _ (classF l) z wr hC2 hl2 (by rw [HE.out]; exact HZ.out))
      clear hl2 hC2
      go_wp2_with (go_at_call 35; refine HCALL.out.mono ?_; rintro e w' ⟨v, rfl, hR', hb'⟩; have HR' := Hd.mk hR'; have HB' := Hd.mk hb'; clear hR' hb')
      go_ret
      exact ⟨_, rfl, Kd.R_lower HR'.out HB.out.size, HB.out.trans (HB'.out.mono HB.out.size)⟩
end Go.Proofs.Ytnbdfmdjedakcaa

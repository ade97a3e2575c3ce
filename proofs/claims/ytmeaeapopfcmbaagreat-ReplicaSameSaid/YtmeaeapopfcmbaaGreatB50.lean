/- ran: a group behind steps; brief. No conditions. -/
import Derived.Test.YtmeaeapopfcmbaaGreatB49
import Derived.Test.YtmeaeapopfcmbaaGreatQ28
namespace Go.Proofs.YtmeaeapopfcmbaaGreat
open Go.RowKit Go.Proofs.YtmeaeapopfcmbaaGreatW.PrintWords Go.Proofs.YtmeaeapopfcmbaaGreatW.PrintLast Go.Proofs.YtmeaeapopfcmbaaGreatW.PrintMore PP
set_option linter.unusedVariables false
set_option linter.unusedSimpArgs false
set_option maxHeartbeats 4000000
set_option maxRecDepth 100000
theorem brief_l0 (l : List S61) : ∀ (m i k : Nat), i + m = l.length → m < k → i ≤ 60 → ∃ r, kimberlitelaw08_brief.l0 k l (i : Int) = some r ∧ (r = true → l.length ≤ 60) := by
  intro m
  induction m with
  | zero =>
    intro i k hi hk h60
    obtain ⟨j, rfl⟩ : ∃ j, k = j + 1 := ⟨k - 1, by omega⟩
    exact ⟨true, by rw [kimberlitelaw08_brief.l0, if_neg (by omega)], fun _ => by omega⟩
  | succ m ih =>
    intro i k hi hk h60
    obtain ⟨j, rfl⟩ : ∃ j, k = j + 1 := ⟨k - 1, by omega⟩
    rw [kimberlitelaw08_brief.l0, if_pos (by omega)]
    by_cases h1 : (i : Int) ≥ 60
    · exact ⟨false, by rw [if_pos h1], fun h => absurd h (by simp)⟩
    · rw [if_neg h1, if_pos (by omega)]
      split
      · exact ⟨false, rfl, fun h => absurd h (by simp)⟩
      · have e : wrap64 ((i : Int) + 1) = ((i + 1 : Nat) : Int) := by unfold wrap64; omega
        rw [e]
        exact ih (i + 1) j (by omega) (by omega) (by omega)
theorem brief_ans (l : List S61) : ∃ k r, kimberlitelaw08_brief.f k l = some r ∧ (r = true → l.length ≤ 60) :=
  ⟨l.length + 1, brief_l0 l l.length 0 (l.length + 1) (by omega) (by omega) (by omega)⟩
noncomputable def briefB (l : List S61) : Bool := (brief_ans l).choose_spec.choose
theorem briefB_60 {l : List S61} (h : briefB l = true) : l.length ≤ 60 := (brief_ans l).choose_spec.choose_spec.2 h
theorem brief_v {W : World} {A : Option Addr} {c : Nat} {l : List S61} (hL : Kd.C k61 W A l.length l) (hc : l.length ≤ c) : Calls Tryz.prog 28 #[.slice A l.length c] W fun e w' => e = .returned (.bool (briefB l)) ∧ Below W.heap.size W w' := by
  refine (kimberlitelaw08_brief.calls (brief_ans l).choose A c l _ W hL hc (brief_ans l).choose_spec.choose_spec.1).mono fun e w' hh => ⟨hh.1, ?_⟩
  obtain ⟨m, rfl⟩ := hh.2.out
  exact below_drewN (Below.refl _ _) m
/-- A step out of the list, as it is handed to step. -/
theorem step_of {w0 w : World} {g n k : Nat} {r : Nat → Nat} {S : Nat → S28} {H : List S28} {md tk : List Int} (hg : Grp w0 w g n r S H md tk) (gi : GI n k S H md tk) (hk : k ≤ 1000) {x : S61} (ox : StepOk x) (A0 A1 A2 A3 A4 : Option Addr) (n0 n1 n2 n3 n4 c0 c1 c2 c3 c4 : Nat) :
    Calls Tryz.prog 31 #[.pointer (some ⟨g, 0, none⟩), .agg #[.int .u8 x.f0, .int .u16 x.f1, .int .u8 x.f2.f0, .int .i64 x.f2.f1, .int .i64 x.f2.f2, .string x.f2.f3, .int .i64 x.f2.f4, .slice A0 n0 c0, .slice A1 n1 c1, .slice A2 n2 c2, .slice A3 n3 c3, .slice A4 n4 c4]] w fun e w' => ∃ S1 md1 tk1, e = .returned (.bool true) ∧ Grp w0 w' g n r (updN S (x.f0.toNat % n) S1) (H ++ [S1]) md1 tk1 ∧ GI n (k + 1) (updN S (x.f0.toNat % n) S1) (H ++ [S1]) md1 tk1 ∧ Act1 (x.f0.toNat % n) (S (x.f0.toNat % n)) H (x.f2.f0 % 10) x.f2.f1 x.f2.f3 S1 := by
  have a0 := ox.w0
  have a1 := ox.w1
  have a2 := ox.s0
  have a3 := ox.s1
  have a4 := ox.act.k0
  have a5 := ox.act.k1
  have h := step_run w0 w g n k r S H md tk hg gi hk x.f0.toNat x.f1.toNat x.f2.f0.toNat (by omega) (by omega) (by omega) x.f2.f1 x.f2.f2 x.f2.f4 x.f2.f3 A0 A1 A2 A3 A4 n0 n1 n2 n3 n4 c0 c1 c2 c3 c4
  rw [show ((x.f0.toNat : Nat) : Int) = x.f0 by omega, show ((x.f1.toNat : Nat) : Int) = x.f1 by omega, show ((x.f2.f0.toNat : Nat) : Int) = x.f2.f0 by omega, show ((x.f2.f0.toNat % 10 : Nat) : Int) = x.f2.f0 % 10 by omega] at h
  exact h
theorem Grp.base {w0 w : World} {g n : Nat} {r : Nat → Nat} {S : Nat → S28} {H : List S28} {md tk : List Int} (h : Grp w0 w g n r S H md tk) : Below w0.heap.size w0 w := by
  obtain ⟨F, lv, hv, gx⟩ := h
  exact gx.base
theorem Grp.below {w0 w w' : World} {g n : Nat} {r : Nat → Nat} {S : Nat → S28} {H : List S28} {md tk : List Int} (h : Grp w0 w g n r S H md tk) (hb : Below w.heap.size w w') : Grp w0 w' g n r S H md tk := by
  obtain ⟨F, lv, hv, gx⟩ := h
  exact ⟨F, lv, hv, gx.below hb⟩
theorem nx {i n : Nat} (h : i < n) (hn : n ≤ 1000000000000) : Value.int .i64 (wrap64 ((i : Int) + 1)) = .int .i64 ((i + 1 : Nat) : Int) := by
  have : wrap64 ((i : Int) + 1) = ((i + 1 : Nat) : Int) := by unfold wrap64; omega
  rw [this]
theorem ran_run (w : World) (n : Nat) (hn : n < 256) (A : Option Addr) (c : Nat) (l : List S61) (hL : Kd.C k61 w A l.length l) (oL : ∀ x ∈ l, StepOk x) (h60 : l.length ≤ 60) :
    Calls Tryz.prog 29 #[.int .u8 n, .slice A l.length c] w fun e w' => ∃ g r S H md tk, e = .returned (.tuple #[.pointer (some ⟨g, 0, none⟩), .bool true]) ∧ Grp w w' g (2 + n % 4) r S H md tk ∧ GI (2 + n % 4) l.length S H md tk := by
  have BE := Hd.mk (begun_run w n hn)
  have HL := Hd.mk hL
  have OL := Hd.mk oL
  have H6 := Hd.mk h60
  have I1 := Hd.mk (gi_zero (n := 2 + n % 4) (by omega) (by omega))
  clear hL oL h60 hn
  generalize 2 + n % 4 = N at *
  go_enter Tryz.func29, Tryz.ntmps29
  go_wp2_with fail
  with_reducible refine BE.out.mono ?_
  rintro e w1 ⟨g, r, rfl, hg⟩
  have G1 := Hd.mk hg
  clear hg BE
  go_wp2_with fail
  go_loopg [7, 8] l.length (fun gg v7 v8 wq => ∃ (i : Nat) (S : Nat → S28) (H : List S28) (md tk : List Int), v7 = .bool true ∧ v8 = .int .i64 i ∧ i + gg = l.length ∧ Hd (Grp w wq g N r S H md tk) ∧ Hd (GI N i S H md tk))
  case atStart => exact ⟨0, _, _, _, _, rfl, rfl, by omega, G1, I1⟩
  case round =>
    clear G1 I1
    obtain ⟨i, S, H, md, tk, rfl, rfl, hi, GQ, IQ⟩ := hrel
    by_cases hlt : i < l.length
    · have hz : ((i : Int) < (l.length : Int)) := by omega
      obtain ⟨ad, A7, c7, A8, c8, A9, c9, A10, c10, A11, c11, hA, y0, y1, y2, y3, y4, y5, y6, y7, y8, y9, y10, y11, _⟩ := at_T61 (Kd.C_below HL.out GQ.out.base) (i : Int) (by omega) hz
      subst hA
      simp only [Int.toNat_natCast] at y0 y1 y2 y3 y4 y5 y6 y7 y8 y9 y10 y11
      have OX := OL.out (rd_T61 l (i : Int)) (by
        show l.getD (i : Int).toNat z61 ∈ l
        rw [Int.toNat_natCast, List.getD_eq_getElem?_getD, List.getElem?_eq_getElem hlt]
        exact List.getElem_mem _)
      generalize rd_T61 l (i : Int) = x at *
      have C := Hd.mk (step_of GQ.out IQ.out (by have := H6.out; omega) OX A7 A8 A9 A10 A11 x.f2.f5.f0.length x.f2.f5.f1.length x.f2.f5.f2.length x.f2.f5.f3.length x.f2.f5.f4.length c7 c8 c9 c10 c11)
      have LT := Hd.mk hlt
      clear hlt OX
      go_wp2_with fail
      with_reducible refine C.out.mono ?_
      rintro e w2 ⟨S1, md1, tk1, rfl, hg, hi1, _⟩
      have G2 := Hd.mk hg
      have I2 := Hd.mk hi1
      clear hg hi1 C GQ IQ
      go_wp2_with fail
      go_roundg (l.length - (i + 1))
      case measure => have := LT.out; omega
      case rel => exact ⟨i + 1, _, _, _, _, rfl, nx LT.out (by have := H6.out; omega), by have := LT.out; omega, G2, I2⟩
    · have hz : ¬ ((i : Int) < (l.length : Int)) := by omega
      obtain rfl : i = l.length := by omega
      go_wp2_with fail
      go_ret2
      exact ⟨g, rfl, r, S, H, md, tk, GQ.out, IQ.out⟩
end Go.Proofs.YtmeaeapopfcmbaaGreat

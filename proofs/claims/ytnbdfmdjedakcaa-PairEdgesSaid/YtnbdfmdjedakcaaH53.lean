/- Edges and its reference, where they refuse. No conditions. -/
import Derived.Test.YtnbdfmdjedakcaaH52
namespace Go.Proofs.Ytnbdfmdjedakcaa
open Go.RowKit Go.Proofs.YtnbdfmdjedakcaaW.PrintWords Go.Proofs.YtnbdfmdjedakcaaW.PrintLast Go.Proofs.YtnbdfmdjedakcaaW.PrintMore PP
set_option linter.unusedVariables false
set_option linter.unusedSimpArgs false
set_option maxRecDepth 100000 in
set_option maxHeartbeats 8000000 in
theorem edges_no (w : World) (A : Option Addr) (c : Nat) (l : List S106) (hC : Kd.C k106 w A l.length l) (m : Int) (ap : S36) (x : Int) (hx : (24 < l.length ∧ x = 3) ∨ (l.length ≤ 24 ∧ x = 2 ∧ (m < 0 ∨ m > 1073741824 ∨ gok ap = false ∨ l.any (fun x => !stB x) = true))) :
    Calls Try.prog 65 #[.slice A l.length c, .int .i64 m, gv ap] w fun e w' => e = .returned (.tuple #[.slice none 0 0, .int .i64 x]) ∧ Below w.heap.size w w' := by
  have eg : ∀ args w, (callFunc 102 args).run Try.prog w = .ok (.enter 102 args) w := enters_of Try.func102 (by kernel_rfl) rfl
  have HI := Hd.mk (fun W => inN_any W ap)
  have HF := Hd.mk (fun W (hb : Below w.heap.size w W) (h : l.any (fun x => !stB x) = true) => containsS_any W 102 #[] _ eg A c l (Kd.C_below hC hb) (pred102 W) true h)
  have hu36 := Try.underlying36
  have HB0 := Hd.mk ((Below.refl w.heap.size w).alloc (Nat.le_refl _) (.cells #[.int .i64 ap.f0, .int .i64 ap.f1, .int .i64 ap.f2] 36))
  clear hC
  rcases hx with ⟨h1, rfl⟩ | ⟨h1, rfl, h2⟩
  · have dn : decide ((l.length : Int) > 24) = true := decide_eq_true (by omega)
    clear HI HF
    go_enter Try.func65, Try.ntmps65
    go_wp2_with fail
    go_ret2
    exact ⟨rfl, HB0.out⟩
  · have dn : decide ((l.length : Int) > 24) = false := decide_eq_false (by omega)
    by_cases h3 : m < 0
    · have d3 : decide (m < 0) = true := decide_eq_true h3
      clear HI HF h2
      go_enter Try.func65, Try.ntmps65
      go_wp2_with fail
      go_ret2
      exact ⟨rfl, HB0.out⟩
    · have d3 : decide (m < 0) = false := decide_eq_false h3
      by_cases h4 : m > 1073741824
      · have d4 : decide (m > 1073741824) = true := decide_eq_true h4
        clear HI HF h2
        go_enter Try.func65, Try.ntmps65
        go_wp2_with fail
        go_ret2
        exact ⟨rfl, HB0.out⟩
      · have d4 : decide (m > 1073741824) = false := decide_eq_false h4
        cases hg : gok ap with
        | false =>
          rw [hg] at HI
          simp only [Bool.false_eq_true, if_false] at HI
          clear HF h2 hg
          go_enter Try.func65, Try.ntmps65
          go_wp2_with (go_at_call 51; refine (HI.out _).mono ?_; rintro e w1 ⟨b0, rfl, hb1⟩; have HB1 := Hd.mk (HB0.out.trans (hb1.mono HB0.out.size)); clear hb1 HB0 HI)
          go_ret2
          exact ⟨rfl, HB1.out⟩
        | true =>
          rw [hg] at HI
          simp only [if_true] at HI
          have h5 : l.any (fun x => !stB x) = true := by
            rcases h2 with h | h | h | h
            · exact absurd h h3
            · exact absurd h h4
            · rw [hg] at h; exact absurd h (by decide)
            · exact h
          have H5 := Hd.mk h5
          clear h2 hg h5
          go_enter Try.func65, Try.ntmps65
          go_wp2_with (first | (go_at_call 51; refine (HI.out _).mono ?_; rintro e w1 ⟨b0, rfl, hb1⟩; have HB1 := Hd.mk (HB0.out.trans (hb1.mono HB0.out.size)); clear hb1 HB0 HI) | (go_at_call 101; refine (HF.out _ HB1.out H5.out).mono ?_; rintro e w2 ⟨rfl, hb2⟩; have HB2 := Hd.mk (HB1.out.trans (hb2.mono HB1.out.size)); clear hb2 HB1 HF))
          go_ret2
          exact ⟨rfl, HB2.out⟩
set_option maxRecDepth 100000 in
set_option maxHeartbeats 8000000 in
theorem refEdges_no (w : World) (A : Option Addr) (c : Nat) (l : List S106) (hC : Kd.C k106 w A l.length l) (m : Int) (ap : S36) (x : Int) (hx : (24 < l.length ∧ x = 3) ∨ (l.length ≤ 24 ∧ x = 2 ∧ (m < 0 ∨ m > 1073741824 ∨ gok ap = false ∨ l.any (fun x => !stB x) = true))) :
    Calls Try.prog 66 #[.slice A l.length c, .int .i64 m, gv ap] w fun e w' => e = .returned (.tuple #[.slice none 0 0, .int .i64 x]) ∧ Below w.heap.size w w' := by
  have HC := Hd.mk (fun W (hb : Below w.heap.size w W) => Kd.C_below hC hb)
  have HI := Hd.mk (fun W => goodS_any W ap)
  have hu36 := Try.underlying36
  have hu106 := Try.underlying106
  have HB0 := Hd.mk ((Below.refl w.heap.size w).alloc (Nat.le_refl _) (.cells #[.int .i64 ap.f0, .int .i64 ap.f1, .int .i64 ap.f2] 36))
  clear hC
  rcases hx with ⟨h1, rfl⟩ | ⟨h1, rfl, h2⟩
  · have dn : decide ((l.length : Int) > 24) = true := decide_eq_true (by omega)
    clear HI HC
    go_enter Try.func66, Try.ntmps66
    go_wp2_with fail
    go_ret2
    exact ⟨rfl, HB0.out⟩
  · have dn : decide ((l.length : Int) > 24) = false := decide_eq_false (by omega)
    by_cases h3 : m < 0
    · have d3 : decide (m < 0) = true := decide_eq_true h3
      clear HI HC h2
      go_enter Try.func66, Try.ntmps66
      go_wp2_with fail
      go_ret2
      exact ⟨rfl, HB0.out⟩
    · have d3 : decide (m < 0) = false := decide_eq_false h3
      by_cases h4 : m > 1073741824
      · have d4 : decide (m > 1073741824) = true := decide_eq_true h4
        clear HI HC h2
        go_enter Try.func66, Try.ntmps66
        go_wp2_with fail
        go_ret2
        exact ⟨rfl, HB0.out⟩
      · have d4 : decide (m > 1073741824) = false := decide_eq_false h4
        cases hg : gok ap with
        | false =>
          rw [hg] at HI
          clear HC h2 hg
          go_enter Try.func66, Try.ntmps66
          go_wp2_with (go_at_call 52; refine (HI.out _).mono ?_; rintro e w1 ⟨rfl, hb1⟩; have HB1 := Hd.mk (HB0.out.trans (hb1.mono HB0.out.size)); clear hb1 HB0 HI)
          go_ret2
          exact ⟨rfl, HB1.out⟩
        | true =>
          rw [hg] at HI
          have h5 : l.any (fun x => !stB x) = true := by
            rcases h2 with h | h | h | h
            · exact absurd h h3
            · exact absurd h h4
            · rw [hg] at h; exact absurd h (by decide)
            · exact h
          obtain ⟨j, hj, hbad⟩ : ∃ j, j < l.length ∧ stB (sAt l j) = false := by
            obtain ⟨y, hy, hb⟩ := List.any_eq_true.1 h5
            obtain ⟨j, hj, e⟩ := List.getElem_of_mem hy
            refine ⟨j, hj, ?_⟩
            unfold sAt rd_T106
            rw [Int.toNat_natCast, show l.getD j z106 = l[j]'hj from by simp [List.getD, hj], e]
            simpa using hb
          have HJ := Hd.mk hj
          have HBad := Hd.mk hbad
          clear h2 hg h5 hj hbad
          go_enter Try.func66, Try.ntmps66
          go_wp2_with (go_at_call 52; refine (HI.out _).mono ?_; rintro e w1 ⟨rfl, hb1⟩; have HB1 := Hd.mk (HB0.out.trans (hb1.mono HB0.out.size)); clear hb1 HB0 HI)
          go_loopg [8] l.length (fun gg v8 wr => ∃ (a : Nat), v8 = .int .i64 a ∧ Hd (a ≤ j) ∧ l.length - a ≤ gg ∧ Hd (Below w.heap.size w wr))
          case atStart => exact ⟨0, rfl, ⟨Nat.zero_le _⟩, by omega, HB1⟩
          case round =>
            clear HB1
            obtain ⟨a, rfl, HA, hga, HB⟩ := hrel
            have hlt : a < l.length := by have := HA.out; have := HJ.out; omega
            have hltz : (a : Int) < (l.length : Int) := by omega
            obtain ⟨ad, rfl, c0, c1, c2, c3⟩ := at_T106 (HC.out _ HB.out) (a : Int) (by omega) (by omega)
            rw [Int.toNat_natCast] at c0 c1 c2 c3
            rw [show rd_T106 l (a : Int) = sAt l a from rfl] at c0 c1 c2 c3
            obtain ⟨x, hx⟩ : ∃ x, sAt l a = x := ⟨_, rfl⟩
            have HX := Hd.mk hx
            rw [hx] at c0 c1 c2 c3
            clear hx
            have HG := Hd.mk (fun W => goodS_any W x.f1)
            by_cases q1 : x.f0 < 0
            · have d1 : decide (x.f0 < 0) = true := decide_eq_true q1
              clear HG
              go_wp2_with fail
              go_ret2
              exact ⟨rfl, HB.out⟩
            · have d1 : decide (x.f0 < 0) = false := decide_eq_false q1
              by_cases q2 : x.f0 > 1073741824
              · have d2 : decide (x.f0 > 1073741824) = true := decide_eq_true q2
                clear HG
                go_wp2_with fail
                go_ret2
                exact ⟨rfl, HB.out⟩
              · have d2 : decide (x.f0 > 1073741824) = false := decide_eq_false q2
                cases q3 : gok x.f1 with
                | false =>
                  rw [q3] at HG
                  clear q3
                  go_wp2_with (go_at_call 52; refine (HG.out _).mono ?_; rintro e w2 ⟨rfl, hb2⟩; have HB2 := Hd.mk (HB.out.trans (hb2.mono HB.out.size)); clear hb2 HB HG)
                  go_ret2
                  exact ⟨rfl, HB2.out⟩
                | true =>
                  have HNe := Hd.mk (show a ≠ j from fun e => by
                    have h9 := HBad.out
                    rw [← e, HX.out] at h9
                    unfold stB at h9
                    rw [q3, decide_eq_true (by omega : 0 ≤ x.f0), decide_eq_true (by omega : x.f0 ≤ 1073741824)] at h9
                    exact absurd h9 (by decide))
                  rw [q3] at HG
                  clear q3
                  go_wp2_with (go_at_call 52; refine (HG.out _).mono ?_; rintro e w2 ⟨rfl, hb2⟩; have HB2 := Hd.mk (HB.out.trans (hb2.mono HB.out.size)); clear hb2 HB HG)
                  go_roundg (l.length - (a + 1))
                  case measure => omega
                  case rel => exact ⟨a + 1, by go_num, ⟨by have := HNe.out; have := HA.out; omega⟩, by omega, HB2⟩
end Go.Proofs.Ytnbdfmdjedakcaa

/- Outside, Beyond. No conditions. -/
import Derived.Test.YtnbdfmdjedakcaaH21
import Derived.Test.YtnbdfmdjedakcaaU2
namespace Go.Proofs.Ytnbdfmdjedakcaa
open Go.RowKit Go.Proofs.YtnbdfmdjedakcaaW.PrintWords Go.Proofs.YtnbdfmdjedakcaaW.PrintLast Go.Proofs.YtnbdfmdjedakcaaW.PrintMore PP
set_option linter.unusedVariables false
set_option linter.unusedSimpArgs false
theorem antichain_any (w : World) (A : Option Addr) (c : Nat) (l : List S36) (hC : Kd.C k36 w A l.length l) (hc : l.length ≤ c) (hl : l.length ≤ 1000000) (r : Bool) (hr : anB l = r) :
    Calls Try.prog 80 #[.slice A l.length c] w fun e w' => e = .returned (.bool r) ∧ Below w.heap.size w w' := by
  obtain ⟨k, hk⟩ := antichain_ev l hl
  subst hr
  exact grade_antichain.calls k A c l _ w hC hc (hk k (Nat.le_refl _))
def outF (l : List S36) : List S36 × Int := if anB l = true then (edgeL (fun g => !upS l g) 1, 0) else ([], 2)
def beyF (l : List S36) : List S36 × Int := if anB l = true then (edgeL (fun g => !l.any fun m => belowG g m) (-1), 0) else ([], 2)
set_option maxHeartbeats 2000000 in
theorem outside_any (w : World) (A : Option Addr) (c : Nat) (l : List S36) (hC : Kd.C k36 w A l.length l) (hc : l.length ≤ c) (hl : l.length ≤ 1000000) :
    Calls Try.prog 48 #[.slice A l.length c] w fun e w' => ∃ v, e = .returned (.tuple #[v, .int .i64 (outF l).2]) ∧ Kd.R k36 36 w' w.heap.size (fun _ => True) v (outF l).1 ∧ Below w.heap.size w w' := by
  have eg : ∀ args w, (callFunc 82 args).run Try.prog w = .ok (.enter 82 args) w := enters_of Try.func82 (by kernel_rfl) rfl
  have HA := Hd.mk (fun W (h : Below w.heap.size w W) => antichain_any W A c l (Kd.C_below hC h) hc hl)
  have HC := Hd.mk hC
  have B1 := Hd.mk ((Below.refl _ w).alloc (Nat.le_refl _) (.cells #[.slice A l.length c] 41))
  clear hC hc hl
  unfold outF
  cases hq : anB l with
  | false =>
    rw [if_neg (by decide)]
    simp only
    have HQ := Hd.mk hq
    clear hq
    go_enter Try.func48, Try.ntmps48
    go_wp2_with (go_at_call 80; refine (HA.out _ B1.out false HQ.out).mono ?_; rintro e w1 ⟨rfl, hb⟩; have HB := Hd.mk hb; clear hb)
    go_ret2
    exact ⟨_, rfl, Kd.R_nil _ _ _ _ _, B1.out.trans (HB.out.mono (by simp))⟩
  | true =>
    rw [if_pos rfl]
    simp only
    have HQ := Hd.mk hq
    clear hq
    go_enter Try.func48, Try.ntmps48
    go_wp2_with fail
    refine (HA.out _ B1.out true HQ.out).mono ?_
    rintro e w1 ⟨rfl, hb⟩
    have gb := (hb.block w.heap.size (by simp)).trans (blk_new w (.cells #[.slice A l.length c] 41))
    have c0 : w1.cell? ⟨w.heap.size, 0, none⟩ = some (.slice A l.length c) := (blk_cell gb 0).trans rfl
    have B2 := Hd.mk (B1.out.trans (hb.mono (by simp)))
    have HE := Hd.mk (edge_any w1 82 _ _ eg (pred82 w1 w.heap.size A c l gb (Kd.C_below HC.out B2.out)) 1 (by decide) (by decide))
    clear hb gb
    go_wp2_with fail
    refine HE.out.mono ?_
    rintro e w2 ⟨v, rfl, hR, hb2⟩
    have HR := Hd.mk hR
    have HB2 := Hd.mk hb2
    clear hR hb2 c0
    go_wp2_with fail
    go_ret2
    exact ⟨_, rfl, Kd.R_lower HR.out B2.out.size, B2.out.trans (HB2.out.mono B2.out.size)⟩
set_option maxHeartbeats 2000000 in
theorem beyond_any (w : World) (A : Option Addr) (c : Nat) (l : List S36) (hC : Kd.C k36 w A l.length l) (hc : l.length ≤ c) (hl : l.length ≤ 1000000) :
    Calls Try.prog 49 #[.slice A l.length c] w fun e w' => ∃ v, e = .returned (.tuple #[v, .int .i64 (beyF l).2]) ∧ Kd.R k36 36 w' w.heap.size (fun _ => True) v (beyF l).1 ∧ Below w.heap.size w w' := by
  have eg : ∀ args w, (callFunc 84 args).run Try.prog w = .ok (.enter 84 args) w := enters_of Try.func84 (by kernel_rfl) rfl
  have HA := Hd.mk (fun W (h : Below w.heap.size w W) => antichain_any W A c l (Kd.C_below hC h) hc hl)
  have HC := Hd.mk hC
  have B1 := Hd.mk ((Below.refl _ w).alloc (Nat.le_refl _) (.cells #[.slice A l.length c] 41))
  clear hC hc hl
  unfold beyF
  cases hq : anB l with
  | false =>
    rw [if_neg (by decide)]
    simp only
    have HQ := Hd.mk hq
    clear hq
    go_enter Try.func49, Try.ntmps49
    go_wp2_with (go_at_call 80; refine (HA.out _ B1.out false HQ.out).mono ?_; rintro e w1 ⟨rfl, hb⟩; have HB := Hd.mk hb; clear hb)
    go_ret2
    exact ⟨_, rfl, Kd.R_nil _ _ _ _ _, B1.out.trans (HB.out.mono (by simp))⟩
  | true =>
    rw [if_pos rfl]
    simp only
    have HQ := Hd.mk hq
    clear hq
    go_enter Try.func49, Try.ntmps49
    go_wp2_with fail
    refine (HA.out _ B1.out true HQ.out).mono ?_
    rintro e w1 ⟨rfl, hb⟩
    have gb := (hb.block w.heap.size (by simp)).trans (blk_new w (.cells #[.slice A l.length c] 41))
    have c0 : w1.cell? ⟨w.heap.size, 0, none⟩ = some (.slice A l.length c) := (blk_cell gb 0).trans rfl
    have B2 := Hd.mk (B1.out.trans (hb.mono (by simp)))
    have HE := Hd.mk (edge_any w1 84 _ _ eg (pred84 w1 w.heap.size A c l gb (Kd.C_below HC.out B2.out)) (-1) (by decide) (by decide))
    clear hb gb
    go_wp2_with fail
    refine HE.out.mono ?_
    rintro e w2 ⟨v, rfl, hR, hb2⟩
    have HR := Hd.mk hR
    have HB2 := Hd.mk hb2
    clear hR hb2 c0
    go_wp2_with fail
    go_ret2
    exact ⟨_, rfl, Kd.R_lower HR.out B2.out.size, B2.out.trans (HB2.out.mono B2.out.size)⟩
end Go.Proofs.Ytnbdfmdjedakcaa
